/- Walks of orders that come, and what they come to: plain. -/
import Derived.Test.YteaoclpikdmkiaaNf
namespace Go.Proofs.Yteaoclpikdmkiaa
open Go Go.RowKit Go.Tl
set_option linter.unusedVariables false
set_option linter.unusedSimpArgs false
/-- which of two orders comes first in a truth -/
def KB (t : List Int) (i j : Nat) : Prop := t.getD i 0 < t.getD j 0 ∨ (t.getD i 0 = t.getD j 0 ∧ i < j)
theorem kb_irr {t : List Int} (i : Nat) : ¬ KB t i i := fun h => by unfold KB at h; omega
theorem kb_asym {t : List Int} (i j : Nat) (h : KB t i j) : ¬ KB t j i := fun h' => by unfold KB at h h'; omega
theorem kb_trans {t : List Int} {i j k : Nat} (h : KB t i j) (h' : KB t j k) : KB t i k := by unfold KB at *; omega
theorem kb_total {t : List Int} {i j : Nat} (h : i ≠ j) : KB t i j ∨ KB t j i := by unfold KB; omega
theorem pw_unique {α : Type} {R : α → α → Prop} (hi : ∀ a, ¬ R a a) (has : ∀ a b, R a b → ¬ R b a) : ∀ {l l' : List α}, l.Pairwise R → l'.Pairwise R → (∀ x, x ∈ l ↔ x ∈ l') → l = l'
  | [], [], _, _, _ => rfl
  | [], b :: l', _, _, h => absurd ((h b).2 List.mem_cons_self) (List.not_mem_nil)
  | a :: l, [], _, _, h => absurd ((h a).1 List.mem_cons_self) (List.not_mem_nil)
  | a :: l, b :: l', h1, h2, h => by
    have h1' := List.pairwise_cons.1 h1
    have h2' := List.pairwise_cons.1 h2
    have hab : a = b := by
      rcases List.mem_cons.1 ((h a).1 List.mem_cons_self) with e | e
      · exact e
      · rcases List.mem_cons.1 ((h b).2 List.mem_cons_self) with e2 | e2
        · exact e2.symm
        · exact absurd (h1'.1 _ e2) (has _ _ (h2'.1 _ e))
    subst hab
    rw [pw_unique hi has h1'.2 h2'.2 fun x => ?_]
    have hx := h x
    simp only [List.mem_cons] at hx
    constructor
    · intro hl
      rcases hx.1 (.inr hl) with e | e
      · subst e; exact absurd (h1'.1 _ hl) (hi _)
      · exact e
    · intro hl
      rcases hx.2 (.inr hl) with e | e
      · subst e; exact absurd (h2'.1 _ hl) (hi _)
      · exact e
/-- the orders as they come -/
def comesN (t : List Int) : List Nat := (List.range 31).flatMap fun (m : Nat) => (List.range t.length).filter fun i => decide (t.getD i 0 = (m : Int))
theorem comes_mem {t : List Int} {i : Nat} : i ∈ comesN t ↔ i < t.length ∧ 0 ≤ t.getD i 0 ∧ t.getD i 0 ≤ 30 := by
  unfold comesN
  simp only [List.mem_flatMap, List.mem_range, List.mem_filter, decide_eq_true_eq]
  constructor
  · rintro ⟨m, hm, hi, h⟩
    omega
  · rintro ⟨hi, h1, h2⟩
    exact ⟨(t.getD i 0).toNat, by omega, hi, by omega⟩
theorem comes_srt (t : List Int) : (comesN t).Pairwise (KB t) := by
  unfold comesN
  rw [List.pairwise_flatMap]
  refine ⟨fun m hm => ?_, ?_⟩
  · have h1 : ((List.range t.length).filter fun i => decide (t.getD i 0 = (m : Int))).Pairwise (· < ·) := List.Pairwise.filter _ List.pairwise_lt_range
    refine List.Pairwise.imp_of_mem ?_ h1
    intro a b ha hb hab
    simp only [List.mem_filter, decide_eq_true_eq] at ha hb
    exact .inr ⟨by rw [ha.2, hb.2], hab⟩
  · refine List.Pairwise.imp ?_ List.pairwise_lt_range
    intro a b hab x hx y hy
    simp only [List.mem_filter, decide_eq_true_eq] at hx hy
    exact .inl (by rw [hx.2, hy.2]; omega)
theorem srt_nodup {t : List Int} {l : List Nat} (h : l.Pairwise (KB t)) : l.Nodup := List.Pairwise.imp (fun h e => by subst e; exact kb_irr _ h) h
def flo0 : FloD := ⟨fun _ => 0, [], []⟩
/-- the floor after some orders came -/
def runN (p : PostD) (l : List Nat) : FloD := l.foldl (comeN p) flo0
theorem run_snoc (p : PostD) (l : List Nat) (i : Nat) : runN p (l ++ [i]) = comeN p (runN p l) i := by simp [runN, List.foldl_append]
theorem run_came (p : PostD) (l : List Nat) : (runN p l).came = l.map (fun (i : Nat) => (i : Int)) := by
  have : ∀ (l : List Nat) (F : FloD), (l.foldl (comeN p) F).came = F.came ++ l.map (fun (i : Nat) => (i : Int)) := fun l => by
    induction l with
    | nil => intro F; simp
    | cons a l ih => intro F; rw [List.foldl_cons, ih]; simp [comeN]
  have := this l flo0
  simpa [runN, flo0] using this
/-- the sales of a truth -/
def playT (p : PostD) (t : List Int) : List SaleD := (runN p (comesN t)).log
structure WalkD where
  flo : FloD
  mins : List Int
  last : Int
  mn : Int
abbrev Leaf := List SaleD × List Int
def fromN (p : PostD) (W : WalkD) (i : Nat) : Int := max (if (i : Int) < W.last then W.mn + 1 else W.mn) (oAt p i).lo
/-- the orders that can come next, each one as early as it can -/
def nextL (p : PostD) (W : WalkD) : Nat → List (Nat × Int)
  | 0 => []
  | k + 1 => nextL p W k ++ (if (k : Int) ∈ W.flo.came then [] else if fromN p W k ≤ (oAt p k).hi then [(k, fromN p W k)] else [])
def stepW (p : PostD) (W : WalkD) (y : Nat × Int) : WalkD := ⟨comeN p W.flo y.1, W.mins.set y.1 y.2, y.1, y.2⟩
/-- all ways in which the orders can come -/
def leavesN (p : PostD) : Nat → WalkD → List Leaf
  | 0, W => [(W.flo.log, W.mins)]
  | d + 1, W => (nextL p W p.ords.length).flatMap fun y => leavesN p d (stepW p W y)
def walk0 (p : PostD) : WalkD := ⟨flo0, List.replicate p.ords.length 0, -1, 0⟩
def leaves (p : PostD) : List Leaf := leavesN p p.ords.length (walk0 p)
theorem next_mem {p : PostD} {W : WalkD} {y : Nat × Int} : ∀ {k : Nat}, y ∈ nextL p W k ↔ y.1 < k ∧ (y.1 : Int) ∉ W.flo.came ∧ fromN p W y.1 ≤ (oAt p y.1).hi ∧ y.2 = fromN p W y.1
  | 0 => by simp [nextL]
  | k + 1 => by
    simp only [nextL, List.mem_append]
    rw [next_mem (k := k)]
    constructor
    · rintro (h | h)
      · exact ⟨by omega, h.2⟩
      · split at h
        · cases h
        · split at h
          · obtain rfl := List.mem_singleton.1 h
            exact ⟨Nat.lt_succ_self _, by assumption, by assumption, rfl⟩
          · cases h
    · rintro ⟨h1, h2, h3, h4⟩
      by_cases e : y.1 = k
      · right
        obtain ⟨i, m⟩ := y
        simp only at e h2 h3 h4
        subst e h4
        rw [if_neg h2, if_pos h3]
        exact List.mem_singleton.2 rfl
      · exact .inl ⟨by omega, h2, h3, h4⟩
structure WInv (p : PostD) (W : WalkD) (l : List Nat) : Prop where
  flo : W.flo = runN p l
  nd : l.Nodup
  lt : ∀ i ∈ l, i < p.ords.length
  ml : W.mins.length = p.ords.length
  rng : ∀ i ∈ l, (oAt p i).lo ≤ W.mins.getD i 0 ∧ W.mins.getD i 0 ≤ (oAt p i).hi
  srt : l.Pairwise (KB W.mins)
  lst : (l = [] ∧ W.last = -1 ∧ W.mn = 0) ∨ ∃ (l' : List Nat) (k : Nat), l = l' ++ [k] ∧ W.last = (k : Int) ∧ W.mn = W.mins.getD k 0
theorem winv0 (p : PostD) : WInv p (walk0 p) [] := ⟨rfl, List.nodup_nil, fun _ h => (nomatch h), List.length_replicate, fun _ h => (nomatch h), List.Pairwise.nil, .inl ⟨rfl, rfl, rfl⟩⟩
theorem getD_set {l : List Int} {i j : Nat} {x : Int} (h : i < l.length) : (l.set i x).getD j 0 = if j = i then x else l.getD j 0 := by
  simp only [List.getD_eq_getElem?_getD, List.getElem?_set]
  by_cases e : i = j
  · subst e; rw [if_pos rfl, if_pos h, if_pos rfl]; rfl
  · rw [if_neg e, if_neg (fun h => e h.symm)]
theorem winv_step {p : PostD} {W : WalkD} {l : List Nat} {y : Nat × Int} (h : WInv p W l) (hy : y ∈ nextL p W p.ords.length) : WInv p (stepW p W y) (l ++ [y.1]) := by
  obtain ⟨i, m⟩ := y
  obtain ⟨h1, h2, h3, h4⟩ := next_mem.1 hy
  simp only at h1 h2 h3 h4
  have hil : i ∉ l := fun hi => h2 (by rw [h.flo, run_came]; exact List.mem_map.2 ⟨i, hi, rfl⟩)
  have hg : ∀ j, (W.mins.set i m).getD j 0 = if j = i then m else W.mins.getD j 0 := fun j => getD_set (by rw [h.ml]; exact h1)
  have hne : ∀ j ∈ l, j ≠ i := fun j hj e => hil (e ▸ hj)
  have hfr : (oAt p i).lo ≤ m ∧ (if (i : Int) < W.last then W.mn + 1 else W.mn) ≤ m := by rw [h4]; unfold fromN; exact ⟨Int.le_max_right _ _, Int.le_max_left _ _⟩
  refine ⟨?_, ?_, ?_, ?_, ?_, ?_, .inr ⟨l, i, rfl, rfl, ?_⟩⟩
  · show comeN p W.flo i = _
    rw [run_snoc, h.flo]
  · rw [List.nodup_append]
    exact ⟨h.nd, by simp, fun a ha b hb => by simp at hb; subst hb; exact hne a ha⟩
  · intro j hj
    rcases List.mem_append.1 hj with hj | hj
    · exact h.lt j hj
    · obtain rfl := List.mem_singleton.1 hj; exact h1
  · show (W.mins.set i m).length = _
    rw [List.length_set]; exact h.ml
  · intro j hj
    show (oAt p j).lo ≤ (W.mins.set i m).getD j 0 ∧ (W.mins.set i m).getD j 0 ≤ (oAt p j).hi
    rw [hg]
    rcases List.mem_append.1 hj with hj | hj
    · rw [if_neg (hne j hj)]; exact h.rng j hj
    · obtain rfl := List.mem_singleton.1 hj
      rw [if_pos rfl]
      exact ⟨hfr.1, by rw [h4]; exact h3⟩
  · show (l ++ [i]).Pairwise (KB (W.mins.set i m))
    rw [List.pairwise_append]
    refine ⟨List.Pairwise.imp_of_mem (fun {a b} ha hb hab => ?_) h.srt, by simp, fun a ha b hb => ?_⟩
    · unfold KB at *
      rw [hg, hg, if_neg (hne a ha), if_neg (hne b hb)]; exact hab
    · obtain rfl := List.mem_singleton.1 hb
      unfold KB
      rw [hg, hg, if_neg (hne a ha), if_pos rfl]
      rcases h.lst with ⟨e, _⟩ | ⟨l', k, e, e1, e2⟩
      · subst e; cases ha
      · have hk : k ∈ l := by rw [e]; simp
        have hak : a = k ∨ KB W.mins a k := by
          rw [e] at ha
          rcases List.mem_append.1 ha with ha | ha
          · right
            have := h.srt
            rw [e, List.pairwise_append] at this
            exact this.2.2 a ha k (by simp)
          · exact .inl (List.mem_singleton.1 ha)
        have h5 := hfr.2
        have hkb := hne k hk
        rw [e1, e2] at h5
        unfold KB at hak
        split at h5 <;> rcases hak with rfl | hak <;> omega
  · show m = (W.mins.set i m).getD i 0
    rw [hg, if_pos rfl]
theorem pigeon : ∀ (n : Nat) (l : List Nat), l.Nodup → (∀ i ∈ l, i < n) → l.length ≤ n
  | 0, l, _, h => by
    cases l with
    | nil => exact Nat.le_refl _
    | cons a l => exact absurd (h a List.mem_cons_self) (Nat.not_lt_zero _)
  | n + 1, l, hd, h => by
    have h1 := pigeon n (l.erase n) (hd.erase n) fun i hi => by
      have h2 := (hd.mem_erase_iff).1 hi
      have h3 := h i h2.2
      have h4 := h2.1
      omega
    by_cases c : n ∈ l
    · rw [List.length_erase_of_mem c] at h1; omega
    · rw [List.erase_of_not_mem c] at h1; omega
theorem all_in {n : Nat} {l : List Nat} (hd : l.Nodup) (hlt : ∀ i ∈ l, i < n) (hl : l.length = n) : ∀ i, i < n → i ∈ l := fun i hi => by
  by_cases c : i ∈ l
  · exact c
  · have := pigeon n (i :: l) (List.nodup_cons.2 ⟨c, hd⟩) fun j hj => by
      rcases List.mem_cons.1 hj with rfl | hj
      · exact hi
      · exact hlt j hj
    rw [List.length_cons] at this
    omega
theorem comes_of_srt {p : PostD} (hv : VPost p) {t : List Int} (ht : truthB p t = true) {l : List Nat} (hs : l.Pairwise (KB t)) (hm : ∀ i, i ∈ l ↔ i < t.length) : comesN t = l := by
  refine pw_unique kb_irr kb_asym (comes_srt t) hs fun i => ?_
  rw [comes_mem, hm]
  obtain ⟨h1, h2⟩ := truth_iff.1 ht
  constructor
  · exact fun h => h.1
  · intro h
    have h3 := inB_iff.1 (h2 i h)
    have h4 := hv.min i (by omega)
    exact ⟨h, by omega, by omega⟩
theorem leaf_sound {p : PostD} (hv : VPost p) : ∀ (d : Nat) (W : WalkD) (l : List Nat), WInv p W l → l.length + d = p.ords.length → ∀ x ∈ leavesN p d W, truthB p x.2 = true ∧ x.1 = playT p x.2
  | 0, W, l, h, hl, x, hx => by
    obtain rfl := List.mem_singleton.1 hx
    have hall := all_in h.nd h.lt (by omega)
    have ht : truthB p W.mins = true := truth_iff.2 ⟨h.ml, fun k hk => inB_iff.2 (h.rng k (hall k (by rw [← h.ml]; exact hk)))⟩
    refine ⟨ht, ?_⟩
    show W.flo.log = _
    unfold playT
    rw [comes_of_srt hv ht h.srt fun i => ⟨fun hi => by rw [h.ml]; exact h.lt i hi, fun hi => hall i (by rw [← h.ml]; exact hi)⟩, h.flo]
  | d + 1, W, l, h, hl, x, hx => by
    obtain ⟨y, hy, hx⟩ := List.mem_flatMap.1 hx
    exact leaf_sound hv d _ _ (winv_step h hy) (by simp; omega) x hx
theorem leaf_complete {p : PostD} (hv : VPost p) {t : List Int} (ht : truthB p t = true) : ∀ (d : Nat) (W : WalkD) (l r : List Nat), WInv p W l → comesN t = l ++ r → r.length = d → (∀ k : Nat, W.last = (k : Int) → W.mn ≤ t.getD k 0) → ∃ x ∈ leavesN p d W, x.1 = playT p t
  | 0, W, l, r, h, hc, hr, _ => by
    obtain rfl := List.length_eq_zero_iff.1 hr
    refine ⟨_, List.mem_singleton.2 rfl, ?_⟩
    show W.flo.log = _
    unfold playT
    rw [hc, List.append_nil, h.flo]
  | d + 1, W, l, [], h, hc, hr, _ => by cases hr
  | d + 1, W, l, i :: r, h, hc, hr, hlast => by
    obtain ⟨h1, h2⟩ := truth_iff.1 ht
    have hi : i ∈ comesN t := by rw [hc]; simp
    have hi' := comes_mem.1 hi
    have hs := comes_srt t
    rw [hc] at hs
    have hnd : i ∉ l := fun hil => by
      have := (List.pairwise_append.1 hs).2.2 i hil i (by simp)
      exact kb_irr _ this
    have hrng := inB_iff.1 (h2 i hi'.1)
    have hin : i < p.ords.length := by omega
    have hfr : fromN p W i ≤ t.getD i 0 := by
      unfold fromN
      refine Int.max_le.2 ⟨?_, hrng.1⟩
      rcases h.lst with ⟨_, e1, e2⟩ | ⟨l', k, e, e1, e2⟩
      · rw [e1, e2]; rw [if_neg (by omega)]; exact hi'.2.1
      · have h3 := hlast k e1
        have h4 : KB t k i := (List.pairwise_append.1 hs).2.2 k (by rw [e]; simp) i (by simp)
        unfold KB at h4
        rw [e1]
        split <;> omega
    have hy : (i, fromN p W i) ∈ nextL p W p.ords.length := next_mem.2 ⟨hin, by
      rw [h.flo, run_came]
      intro hm
      obtain ⟨j, hj, e⟩ := List.mem_map.1 hm
      have e' : (j : Int) = (i : Int) := e
      have : j = i := by omega
      exact hnd (this ▸ hj), by show fromN p W i ≤ (oAt p i).hi; have : t.getD i 0 ≤ (oAt p i).hi := hrng.2; omega, rfl⟩
    obtain ⟨x, hx, e⟩ := leaf_complete hv ht d _ _ r (winv_step h hy) (by rw [hc]; simp) (by simpa using hr) (fun k hk => by
      have hk' : (i : Int) = (k : Int) := hk
      have : i = k := by omega
      subst this
      exact hfr)
    exact ⟨x, List.mem_flatMap.2 ⟨_, hy, hx⟩, e⟩
theorem leaves_sound {p : PostD} (hv : VPost p) {x : Leaf} (hx : x ∈ leaves p) : truthB p x.2 = true ∧ x.1 = playT p x.2 := leaf_sound hv _ _ [] (winv0 p) (by simp) x hx
theorem comes_len {p : PostD} (hv : VPost p) {t : List Int} (ht : truthB p t = true) : (comesN t).length = p.ords.length := by
  obtain ⟨h1, h2⟩ := truth_iff.1 ht
  have hp : (comesN t).Perm (List.range p.ords.length) := by
    refine (List.perm_ext_iff_of_nodup (srt_nodup (comes_srt t)) List.nodup_range).2 fun i => ?_
    rw [comes_mem, List.mem_range]
    constructor
    · rintro ⟨h, _⟩; omega
    · intro h
      have h3 := inB_iff.1 (h2 i (by omega))
      have h4 := hv.min i h
      exact ⟨by omega, by omega, by omega⟩
  rw [hp.length_eq, List.length_range]
theorem leaves_complete {p : PostD} (hv : VPost p) {t : List Int} (ht : truthB p t = true) : ∃ x ∈ leaves p, x.1 = playT p t := leaf_complete hv ht _ _ [] (comesN t) (winv0 p) rfl (comes_len hv ht) (fun k hk => by
  have : (-1 : Int) = (k : Int) := hk
  omega)
/-- each post has a truth: the earliest one -/
theorem truth_lo {p : PostD} (hv : VPost p) : truthB p (p.ords.map (·.lo)) = true := truth_iff.2 ⟨by simp, fun k hk => by
  have hk' : k < p.ords.length := by simpa using hk
  have e : (p.ords.map (·.lo)).getD k 0 = (p.ords.getD k default).lo := by simp [List.getD_eq_getElem?_getD, hk']
  have := hv.min k hk'
  rw [e]
  exact inB_iff.2 ⟨Int.le_refl _, this.2.1⟩⟩
end Go.Proofs.Yteaoclpikdmkiaa
