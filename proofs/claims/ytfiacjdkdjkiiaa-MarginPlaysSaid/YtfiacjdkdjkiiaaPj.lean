/- A region that draws its order, along a tree with nodes whose operations may come in any order: what is known of a node is told by what is done of it. No program in sight. -/
import Derived.Test.YtfiacjdkdjkiiaaTL
namespace Go.Tl
open Go Go.RowKit Go.Proofs.Ytfiacjdkdjkiiaa
set_option linter.unusedVariables false
inductive PJ where
  | stop
  | op (i k : Nat) (r : PJ)
  | fork (i : Nat) (r : PJ) (j : Nat) (s : PJ)
  | par (anc : List Nat) (e : Nat) (l : List (Nat × Nat × Nat)) (r : PJ)
  deriving Inhabited
def bt (m k : Nat) : Bool := Nat.beq (Nat.mod (Nat.shiftRight m k) 2) 1
theorem bt_eq (m k : Nat) : bt m k = m.testBit k := by
  rw [Nat.testBit_eq_decide_div_mod_eq, bt, show Nat.shiftRight m k = m / 2 ^ k from Nat.shiftRight_eq_div_pow m k]
  show Nat.beq (m / 2 ^ k % 2) 1 = _
  by_cases h : m / 2 ^ k % 2 = 1
  · rw [h]; rfl
  · rw [decide_eq_false h]
    exact Bool.eq_false_iff.2 fun e => h (Nat.eq_of_beq_eq_true e)
theorem bt_lor (a b k : Nat) : bt (Nat.lor a b) k = (bt a k || bt b k) := by
  rw [bt_eq, bt_eq, bt_eq]
  exact Nat.testBit_or a b k
theorem bt_pow (q k : Nat) (h : bt (Nat.pow 2 q) k = true) : k = q := by
  rw [bt_eq] at h
  have : (2 ^ q).testBit k = true := h
  rw [Nat.testBit_two_pow] at this
  exact (of_decide_eq_true this).symm
theorem bt_zero (k : Nat) : bt 0 k = false := by rw [bt_eq]; exact Nat.zero_testBit k
def onL (md : Region.Mode) (o : Oper) : List Nat := (o.after.toList.filter (Region.binds md)).map (·.on)
def lnth : List Nat → Nat → Option Nat
  | [], _ => none
  | x :: _, 0 => some x
  | _ :: r, n + 1 => lnth r n
theorem lnth_eq : ∀ (t : List Nat) (i : Nat), lnth t i = t[i]?
  | [], _ => by simp [lnth]
  | x :: _, 0 => rfl
  | _ :: r, n + 1 => by simpa [lnth] using lnth_eq r n
def mskL (t : List Nat) : List Nat → Nat
  | [] => 0
  | q :: qs => Nat.lor (Nat.lor (Nat.pow 2 q) (match lnth t q with | none => 0 | some m => m)) (mskL t qs)
def ancOk (md : Region.Mode) (t : List Nat) : List Oper → Nat → Bool
  | [], _ => true
  | o :: r, i => (match lnth t i with | none => false | some m => (onL md o).all (fun q => Nat.blt q i) && Nat.beq (Nat.lor m (mskL t (onL md o))) (mskL t (onL md o))) && ancOk md t r (i + 1)
section
variable {md : Region.Mode} {ops : Array Oper}
theorem mskL_bt {t : List Nat} : ∀ {qs : List Nat} {k : Nat}, bt (mskL t qs) k = true → ∃ q ∈ qs, k = q ∨ ∃ m, t[q]? = some m ∧ bt m k = true
  | [], k, h => by simp [mskL, bt_zero] at h
  | q :: qs, k, h => by
    simp only [mskL, bt_lor, Bool.or_eq_true] at h
    rcases h with (h | h) | h
    · exact ⟨q, List.mem_cons_self, .inl (bt_pow q k h)⟩
    · rw [lnth_eq] at h
      cases hq : t[q]? with
      | none => rw [hq] at h; simp [bt_zero] at h
      | some m => rw [hq] at h; exact ⟨q, List.mem_cons_self, .inr ⟨m, hq, h⟩⟩
    · obtain ⟨q', h1, h2⟩ := mskL_bt h
      exact ⟨q', List.mem_cons_of_mem _ h1, h2⟩
theorem ancOk_at {t : List Nat} : ∀ {l : List Oper} {n : Nat}, ancOk md t l n = true → ∀ {i : Nat} {o : Oper}, l[i]? = some o → ∃ m, t[n + i]? = some m ∧ (∀ q ∈ onL md o, q < n + i) ∧ ∀ k, bt m k = true → bt (mskL t (onL md o)) k = true
  | [], n, h, i, o, hi => by simp at hi
  | o' :: r, n, h, i, o, hi => by
    simp only [ancOk, Bool.and_eq_true] at h
    obtain ⟨h1, h2⟩ := h
    cases i with
    | zero =>
      simp only [List.getElem?_cons_zero, Option.some.injEq] at hi
      subst hi
      rw [lnth_eq] at h1
      split at h1
      · cases h1
      rename_i m hm
      simp only [Bool.and_eq_true] at h1
      refine ⟨m, hm, fun q hq => Nat.le_of_ble_eq_true (List.all_eq_true.1 h1.1 q hq), fun k hk => ?_⟩
      rw [← Nat.eq_of_beq_eq_true h1.2, bt_lor, hk, Bool.true_or]
    | succ i =>
      obtain ⟨m, g1, g2, g3⟩ := ancOk_at (l := r) h2 (i := i) (o := o) (by simpa using hi)
      have e : n + 1 + i = n + (i + 1) := by omega
      rw [e] at g1 g2
      exact ⟨m, g1, g2, g3⟩
def preB (t : List Nat) (k i : Nat) : Bool := match lnth t i with
  | none => false
  | some m => bt m k
theorem anc_good {t : List Nat} (ht : ancOk md t ops.toList 0 = true) {listed : Array Bool} (hcl : Closed md ops listed) (hs : listed.size = ops.size) : ∀ (n i m : Nat), i < n → t[i]? = some m → ∀ k, bt m k = true → (listed.getD i false = true ∨ i ∈ Region.ready md ops listed) → listed.getD k false = true := by
  intro n
  induction n with
  | zero => intro i m h; omega
  | succ n ih =>
    intro i m hin hm k hk hl
    have hi : ∃ o, ops[i]? = some o := by
      rcases hl with hl | hl
      · have : i < listed.size := by
          rcases Nat.lt_or_ge i listed.size with h' | h'
          · exact h'
          · simp [Array.getElem?_eq_none h'] at hl
        exact ⟨ops[i]'(hs ▸ this), Array.getElem?_eq_getElem _⟩
      · obtain ⟨_, oi, hoi, _⟩ := mem_ready.1 hl
        exact ⟨oi, hoi⟩
    obtain ⟨o, ho⟩ := hi
    obtain ⟨m', g1, g2, g3⟩ := ancOk_at ht (i := i) (o := o) (by simpa using ho)
    rw [Nat.zero_add] at g1 g2
    have : m = m' := Option.some.inj (hm.symm.trans g1)
    subst this
    obtain ⟨q, hq, hor⟩ := mskL_bt (g3 k hk)
    have hqi := g2 q hq
    obtain ⟨e, he1, he2⟩ := List.mem_map.1 hq
    obtain ⟨he3, hb⟩ := List.mem_filter.1 he1
    have hqe : listed.getD q false = true := by
      rw [← he2]
      rcases hl with hl | hl
      · exact hcl _ o ho hl e (by simpa using he3) hb
      · obtain ⟨_, oi, hoi, hall⟩ := mem_ready.1 hl
        have e1 : oi = o := Option.some.inj (hoi.symm.trans ho)
        exact hall e (by rw [e1]; simpa using he3) hb
    rcases hor with rfl | ⟨m', hm', hb'⟩
    · exact hqe
    · exact ih q m' (by omega) hm' k hb' (.inl hqe)
theorem preB_listed {t : List Nat} (ht : ancOk md t ops.toList 0 = true) {k i : Nat} (h : preB t k i = true) {listed : Array Bool} (hcl : Closed md ops listed) (hs : listed.size = ops.size) (hi : listed.getD i false = true ∨ i ∈ Region.ready md ops listed) : listed.getD k false = true := by
  unfold preB at h
  rw [lnth_eq] at h
  split at h
  · cases h
  rename_i m hm
  exact anc_good ht hcl hs (i + 1) i m (by omega) hm k h hi
def rdyB (md : Region.Mode) (ops : Array Oper) (listed : Array Bool) (i : Nat) : Bool := !(listed.getD i true) && match ops[i]? with
  | none => false
  | some o => o.after.toList.all fun e => !(Region.binds md e) || listed.getD e.on false
theorem rdyB_spec {listed : Array Bool} {i : Nat} (h : rdyB md ops listed i = true) : i ∈ Region.ready md ops listed := by
  simp only [rdyB, Bool.and_eq_true, Bool.not_eq_true'] at h
  obtain ⟨h1, h2⟩ := h
  split at h2
  · cases h2
  rename_i o ho
  refine mem_ready.2 ⟨h1, o, ho, fun e he hb => ?_⟩
  have := List.all_eq_true.1 h2 e (by simpa using he)
  simpa [hb] using this
def parL (md : Region.Mode) (ops : Array Oper) : List Nat → Array Bool → Option (Array Bool)
  | [], listed => some listed
  | i :: r, listed => cond (rdyB md ops listed i) (parL md ops r (listed.setIfInBounds i true)) none
theorem parL_spec : ∀ {l : List Nat} {listed listed' : Array Bool}, parL md ops l listed = some listed' → Closed md ops listed → Closed md ops listed' ∧ listed'.size = listed.size ∧ l.Nodup ∧ (∀ i ∈ l, listed.getD i true = false) ∧ (∀ i, listed'.getD i false = true ↔ listed.getD i false = true ∨ i ∈ l)
  | [], listed, listed', h, hc => by
    simp only [parL, Option.some.injEq] at h
    subst h
    exact ⟨hc, rfl, List.nodup_nil, (fun i hi => by cases hi), (fun i => by simp)⟩
  | i :: r, listed, listed', h, hc => by
    simp only [parL] at h
    cases hb : rdyB md ops listed i with
    | false => rw [hb] at h; simp at h
    | true =>
      rw [hb] at h
      have hr := rdyB_spec hb
      obtain ⟨hun, o, ho, hall⟩ := mem_ready.1 hr
      have hsz : i < listed.size := by
        rcases Nat.lt_or_ge i listed.size with h' | h'
        · exact h'
        · simp [Array.getElem?_eq_none h'] at hun
      obtain ⟨g1, g2, g3, g4, g5⟩ := parL_spec (l := r) h (hc.set hr)
      refine ⟨g1, by rw [g2]; simp, List.nodup_cons.2 ⟨fun hir => ?_, g3⟩, fun j hj => ?_, fun j => ?_⟩
      · have := g4 i hir
        simp [hsz] at this
      · rcases List.mem_cons.1 hj with rfl | hj
        · exact hun
        · have := g4 j hj
          by_cases hij : i = j
          · subst hij; exact hun
          · rw [getD_set_ne true hij] at this; exact this
      · rw [g5 j]
        by_cases hij : i = j
        · subst hij; simp [hsz]
        · rw [getD_set_ne false hij]
          simp [Ne.symm hij]
theorem parL_first : ∀ {l : List Nat} {listed listed' : Array Bool}, parL md ops l listed = some listed' → ∀ (lc : Array Bool), lc.size = listed.size → (∀ i, listed.getD i false = true → lc.getD i false = true) → (∃ i ∈ l, lc.getD i true = false) → Region.ready md ops lc ≠ []
  | [], listed, listed', h, lc, _, _, ⟨i, hi, _⟩ => by cases hi
  | i :: r, listed, listed', h, lc, hs, hsub, ⟨j, hj, hju⟩ => by
    simp only [parL] at h
    cases hb : rdyB md ops listed i with
    | false => rw [hb] at h; simp at h
    | true =>
      rw [hb] at h
      have hr := rdyB_spec hb
      obtain ⟨hun, o, ho, hall⟩ := mem_ready.1 hr
      by_cases hi : lc.getD i true = false
      · intro h0
        have : i ∈ Region.ready md ops lc := mem_ready.2 ⟨hi, o, ho, fun e he hb' => hsub _ (hall e he hb')⟩
        rw [h0] at this
        cases this
      · have hsz : i < listed.size := by
          rcases Nat.lt_or_ge i listed.size with h' | h'
          · exact h'
          · simp [Array.getElem?_eq_none h'] at hun
        refine parL_first (l := r) h lc (by rw [hs]; simp) (fun k hk => ?_) ⟨j, ?_, hju⟩
        · by_cases hik : i = k
          · subst hik
            have : i < lc.size := by omega
            simp only [Array.getD_eq_getD_getElem?, Array.getElem?_eq_getElem this, Option.getD_some] at hi ⊢
            simpa using hi
          · rw [getD_set_ne false hik] at hk; exact hsub k hk
        · rcases List.mem_cons.1 hj with rfl | hj
          · exact absurd hju hi
          · exact hj
variable {P : Program} {Q : Exit → Act → World → Prop} {S : World → Prop}
def wpJX (P : Program) (ops : Array Oper) (Q : Exit → Act → World → Prop) (S : World → Prop) : PJ → Act → World → Prop
  | .stop, a, w => Q .normal a w
  | .op i 0 r, a, w => ∃ o v, ops[i]? = some o ∧ YieldsIf P ops (fun _ => True) o v a ∧ wpJX P ops Q S r (a.put o.dst v) w
  | .op i 1 r, a, w => ∃ o v, ops[i]? = some o ∧ YieldsIf P ops S o v a ∧ wpJX P ops Q S r (a.put o.dst v) w
  | .op i 2 r, a, w => wpOX P ops Q i (fun a' w' => S w' ∧ wpJX P ops Q S r a' w') a w
  | .op i _ r, a, w => wpOX P ops Q i (wpJX P ops Q S r) a w
  | .fork i r j s, a, w => wpOX P ops Q i (fun a' w' => S w' ∧ wpJX P ops Q S r a' w') a w ∧ wpOX P ops Q j (fun a' w' => S w' ∧ wpJX P ops Q S s a' w') a w
  | .par anc e l r, a, w => ∃ I : (Nat → Prop) → Act → World → Prop, I (fun _ => False) a w ∧
      (∀ d i a w, I d a w → i ∈ l.map (·.1) → ¬ d i → (∀ k, k ∈ l.map (·.1) → preB anc k i = true → d k) → wpOX P ops Q i (fun a' w' => S w' ∧ I (fun k => d k ∨ k = i) a' w') a w) ∧
      (∀ d a w, (∀ i ∈ l.map (·.1), d i) → I d a w → wpJX P ops Q S r a w)
def pjOk (ops : Array Oper) (full : List (Nat × Nat)) : PJ → Nat → Array Bool → Bool → Bool
  | .stop, n, listed, _ => n == 0 && (Region.ready .any ops listed).isEmpty
  | .op i 0 r, n + 1, listed, live => (Region.ready .any ops listed).contains i && Region.free .any ops listed i && pjOk ops full r n (listed.setIfInBounds i true) live
  | .op i 1 r, n + 1, listed, live => live && (Region.ready .any ops listed).contains i && Region.free .any ops listed i && (List.range ops.size).all (fun j => isPre .any ops ops.size i j || kindOf full j != 3) && pjOk ops full r n (listed.setIfInBounds i true) live
  | .op i 2 r, n + 1, listed, live => (Region.ready .any ops listed == [i]) && pjOk ops full r n (listed.setIfInBounds i true) live
  | .op i 3 r, n + 1, listed, _ => (Region.ready .any ops listed == [i]) && (kindOf full i == 3) && pjOk ops full r n (listed.setIfInBounds i true) false
  | .fork i r j s, n + 1, listed, live => (Region.ready .any ops listed == [i, j]) && pjOk ops full r n (listed.setIfInBounds i true) live && pjOk ops full s n (listed.setIfInBounds j true) live
  | .par anc e l r, n, listed, live => Nat.ble l.length n && ancOk .any anc ops.toList 0 && match parL .any ops (l.map (·.1)) listed with
    | none => false
    | some listed' => (List.range ops.size).all (fun o => listed'.getD o true || (l.map (·.1)).all fun j => preB anc j o) && pjOk ops full r (n - l.length) listed' live
  | _, _, _, _ => false
theorem getD_tt {listed : Array Bool} {i : Nat} (h : listed.getD i false = true) : listed.getD i true = true := by
  rcases Nat.lt_or_ge i listed.size with h' | h'
  · simp [h'] at h ⊢; exact h
  · simp [Array.getElem?_eq_none h'] at h
theorem getD_f {listed : Array Bool} {i : Nat} (hs : i < listed.size) (h : listed.getD i false = false) : listed.getD i true = false := by
  simp [hs] at h ⊢; exact h
theorem filt_len {l : List Nat} (hn : l.Nodup) {lc : Array Bool} {i : Nat} (hi : i ∈ l) (hu : lc.getD i true = false) : (l.filter fun k => !lc.getD k false).length = (l.filter fun k => !(lc.setIfInBounds i true).getD k false).length + 1 := by
  have hsz : i < lc.size := by
    rcases Nat.lt_or_ge i lc.size with h' | h'
    · exact h'
    · simp [Array.getElem?_eq_none h'] at hu
  induction l with
  | nil => cases hi
  | cons x xs ih =>
    obtain ⟨h1, h2⟩ := List.nodup_cons.1 hn
    rcases List.mem_cons.1 hi with rfl | hi
    · have e : ∀ k ∈ xs, (!(lc.setIfInBounds i true).getD k false) = !lc.getD k false := fun k hk => by
        rw [getD_set_ne false (fun e => h1 (by rw [e]; exact hk))]
      have e1 : (!lc.getD i false) = true := by rw [getD_tf hu]; rfl
      have e2 : (!(lc.setIfInBounds i true).getD i false) = false := by simp [hsz]
      rw [List.filter_cons_of_pos (p := fun k => !lc.getD k false) e1, List.filter_cons_of_neg (p := fun k => !(lc.setIfInBounds i true).getD k false) (by rw [e2]; simp), List.length_cons, List.filter_congr e]
    · have hne : i ≠ x := fun e => h1 (e ▸ hi)
      have e1 : (!(lc.setIfInBounds i true).getD x false) = !lc.getD x false := by rw [getD_set_ne false hne]
      cases hx : lc.getD x false with
      | true =>
        rw [List.filter_cons_of_neg (p := fun k => !lc.getD k false) (by simp only [hx]; simp), List.filter_cons_of_neg (p := fun k => !(lc.setIfInBounds i true).getD k false) (by rw [e1, hx]; simp)]
        exact ih h2 hi
      | false =>
        rw [List.filter_cons_of_pos (p := fun k => !lc.getD k false) (by rw [hx]; rfl), List.filter_cons_of_pos (p := fun k => !(lc.setIfInBounds i true).getD k false) (by rw [e1, hx]; rfl), List.length_cons, List.length_cons, ih h2 hi]
theorem wpAX_of_pj (hs : Region.noSelect ops = true) (hQ : ∀ c a d v w, Q (.panic c) (a.put d v) w → Q (.panic c) a w) (full : List (Nat × Nat)) :
    ∀ (t : PJ) (n : Nat) (listed : Array Bool) (live : Bool) (a : Act) (w : World), pjOk ops full t n listed live = true → Closed .any ops listed → listed.size = ops.size → (live = true → S w) →
      wpJX P ops Q S t a w → wpAX P .any ops Q S (fun j => kindOf full j != 3) n listed a w := by
  intro t
  induction t with
  | stop =>
    intro n listed live a w hok _ _ _ h
    simp only [pjOk, Bool.and_eq_true, beq_iff_eq, List.isEmpty_iff] at hok
    rw [hok.1]
    exact ⟨hok.2, h⟩
  | op i k r ih =>
    intro n listed live a w hok hcl hsz hS h
    match n, k with
    | 0, 0 => simp [pjOk] at hok
    | 0, 1 => simp [pjOk] at hok
    | 0, 2 => simp [pjOk] at hok
    | 0, k + 3 => simp [pjOk] at hok
    | n + 1, 0 =>
      simp only [pjOk, Bool.and_eq_true] at hok
      obtain ⟨o, v, ho, hy, hr⟩ := h
      refine wpAX_first (T := fun _ => True) ho (Region.noSelect_spec hs) hQ (fun _ _ _ _ _ _ _ _ _ _ => trivial) n listed a w hcl (Region.free_spec ho hok.1.2) (by simpa using hok.1.1) hy trivial ?_
      exact ih n _ live _ w hok.2 (hcl.set (by simpa using hok.1.1)) (by simpa using hsz) hS hr
    | n + 1, 1 =>
      simp only [pjOk, Bool.and_eq_true] at hok
      obtain ⟨o, v, ho, hy, hr⟩ := h
      have hready : i ∈ Region.ready .any ops listed := by simpa using hok.1.1.1.2
      refine wpAX_first (T := S) ho (Region.noSelect_spec hs) hQ ?_ n listed a w hcl (Region.free_spec ho hok.1.1.2) hready hy (hS hok.1.1.1.1) ?_
      · intro listed' j hcl' hj hun hji w w' hSw hk
        have hjs : j < ops.size := by
          obtain ⟨_, oj, hoj, _⟩ := mem_ready.1 hj
          exact (Array.getElem?_eq_some_iff.1 hoj).1
        have h1 := List.all_eq_true.1 hok.1.2 j (List.mem_range.2 hjs)
        simp only [Bool.or_eq_true] at h1
        rcases h1 with h1 | h1
        · have := isPre_listed hcl' _ _ _ h1 (.inr hj)
          rw [getD_tf hun] at this
          cases this
        · exact hk h1 hSw
      · exact ih n _ live _ w hok.2 (hcl.set hready) (by simpa using hsz) hS hr
    | n + 1, 2 =>
      simp only [pjOk, Bool.and_eq_true, beq_iff_eq] at hok
      have hrd := hok.1
      refine ⟨fun h0 => (by rw [hrd] at h0; cases h0), fun j hj => ?_⟩
      have hj' := hj
      rw [hrd, List.mem_singleton] at hj'
      subst hj'
      exact wpOX_mono (fun a' w' h' => ⟨fun _ _ => h'.1, ih n _ live a' w' hok.2 (hcl.set hj) (by simpa using hsz) (fun _ => h'.1) h'.2⟩) h
    | n + 1, 3 =>
      simp only [pjOk, Bool.and_eq_true, beq_iff_eq] at hok
      have hrd := hok.1.1
      refine ⟨fun h0 => (by rw [hrd] at h0; cases h0), fun j hj => ?_⟩
      have hj' := hj
      rw [hrd, List.mem_singleton] at hj'
      subst hj'
      exact wpOX_mono (fun a' w' h' => ⟨fun hx => by simp [hok.1.2] at hx, ih n _ false a' w' hok.2 (hcl.set hj) (by simpa using hsz) (fun h0 => by cases h0) h'⟩) h
    | n + 1, k + 4 => simp [pjOk] at hok
  | fork i r j s ihr ihs =>
    intro n listed live a w hok hcl hsz hS h
    match n with
    | 0 => simp [pjOk] at hok
    | n + 1 =>
      simp only [pjOk, Bool.and_eq_true, beq_iff_eq] at hok
      have hrd := hok.1.1
      refine ⟨fun h0 => (by rw [hrd] at h0; cases h0), fun m hm => ?_⟩
      have hm' := hm
      rw [hrd, List.mem_cons, List.mem_singleton] at hm'
      rcases hm' with rfl | rfl
      · exact wpOX_mono (fun a' w' h' => ⟨fun _ _ => h'.1, ihr n _ live a' w' hok.1.2 (hcl.set hm) (by simpa using hsz) (fun _ => h'.1) h'.2⟩) h.1
      · exact wpOX_mono (fun a' w' h' => ⟨fun _ _ => h'.1, ihs n _ live a' w' hok.2 (hcl.set hm) (by simpa using hsz) (fun _ => h'.1) h'.2⟩) h.2
  | par anc e l r ih =>
    intro n listed live a w hok hcl hsz hS h
    simp only [pjOk, Bool.and_eq_true] at hok
    obtain ⟨⟨hlen, hanc⟩, hok⟩ := hok
    have hlen' := Nat.le_of_ble_eq_true hlen
    split at hok
    · cases hok
    rename_i listed' hpl
    simp only [Bool.and_eq_true] at hok
    obtain ⟨hbar, hok⟩ := hok
    obtain ⟨p1, p2, p3, p4, p5⟩ := parL_spec hpl hcl
    obtain ⟨I, hI0, hI1, hI2⟩ := h
    generalize hl : l.map (·.1) = is at *
    have hll : is.length = l.length := by rw [← hl]; simp
    have key : ∀ (m : Nat) (lc : Array Bool) (a : Act) (w : World), Closed .any ops lc → lc.size = ops.size → (∀ i, listed.getD i false = true → lc.getD i false = true) → (∀ i, lc.getD i false = true → listed.getD i false = true ∨ i ∈ is) →
        (is.filter fun k => !lc.getD k false).length = m → (live = true → S w) → I (fun i => i ∈ is ∧ lc.getD i false = true) a w → wpAX P .any ops Q S (fun j => kindOf full j != 3) (n - l.length + m) lc a w := by
      intro m
      induction m with
      | zero =>
        intro lc a w hc hsz' h1 h2 hm hS' hI
        have hall : ∀ i ∈ is, lc.getD i false = true := fun i hi => by
          have h0 := List.length_eq_zero_iff.1 hm
          have := List.filter_eq_nil_iff.1 h0 i hi
          simpa using this
        have hlc : lc = listed' := by
          apply Array.ext (by rw [hsz', p2, hsz])
          intro i hi1 hi2
          have e := p5 i
          have e1 : lc.getD i false = lc[i] := by simp [hi1]
          have e2 : listed'.getD i false = listed'[i] := by simp [hi2]
          rw [← e1, ← e2]
          cases hb : lc.getD i false with
          | true => exact (e.2 (h2 i hb)).symm
          | false =>
            cases hb' : listed'.getD i false with
            | false => rfl
            | true =>
              rcases e.1 hb' with h3 | h3
              · rw [h1 i h3] at hb; cases hb
              · rw [hall i h3] at hb; cases hb
        subst hlc
        exact ih _ _ live a w hok p1 hsz' hS' (hI2 _ a w (fun i hi => ⟨hi, hall i hi⟩) hI)
      | succ m ihm =>
        intro lc a w hc hsz' h1 h2 hm hS' hI
        obtain ⟨i0, hi0⟩ := List.exists_mem_of_length_pos (l := is.filter fun k => !lc.getD k false) (by omega)
        obtain ⟨hi0, hu0⟩ := List.mem_filter.1 hi0
        have hu0' : lc.getD i0 false = false := by simpa using hu0
        have hbd : ∀ i ∈ is, i < ops.size := fun i hi => by
          have := p4 i hi
          rcases Nat.lt_or_ge i listed.size with h' | h'
          · omega
          · simp [Array.getElem?_eq_none h'] at this
        have hne := parL_first hpl lc (by rw [hsz', hsz]) h1 ⟨i0, hi0, getD_f (by rw [hsz']; exact hbd i0 hi0) hu0'⟩
        refine ⟨fun h0 => absurd h0 hne, fun i hi => ?_⟩
        obtain ⟨hun, oi, hoi, hall⟩ := mem_ready.1 hi
        have hin : i ∈ is := by
          have his : i < ops.size := (Array.getElem?_eq_some_iff.1 hoi).1
          have hb := List.all_eq_true.1 hbar i (List.mem_range.2 his)
          simp only [Bool.or_eq_true] at hb
          rcases hb with hb | hb
          · have e : listed'.getD i false = true := by
              have : i < listed'.size := by rw [p2, hsz]; exact his
              simp [this] at hb ⊢; exact hb
            rcases (p5 i).1 e with h3 | h3
            · have := getD_tt (h1 i h3); rw [hun] at this; cases this
            · exact h3
          · have := preB_listed hanc (List.all_eq_true.1 hb i0 hi0) hc hsz' (.inr hi)
            rw [hu0'] at this
            cases this
        have hsi : i < lc.size := by rw [hsz']; exact hbd i hin
        refine wpOX_mono (fun a' w' h' => ⟨fun _ _ => h'.1, ?_⟩) (hI1 _ i a w hI hin (fun hd => by rw [getD_tf hun] at hd; cases hd.2) (fun k hk hp => ⟨hk, preB_listed hanc hp hc hsz' (.inr hi)⟩))
        refine ihm _ a' w' (hc.set hi) (by simpa using hsz') (fun j hj => ?_) (fun j hj => ?_) ?_ (fun _ => h'.1) ?_
        · by_cases hij : i = j
          · subst hij; simp [hsi]
          · rw [getD_set_ne false hij]; exact h1 j hj
        · by_cases hij : i = j
          · subst hij; exact .inr hin
          · rw [getD_set_ne false hij] at hj; exact h2 j hj
        · have := filt_len p3 hin hun
          omega
        · have e : (fun j => j ∈ is ∧ (lc.setIfInBounds i true).getD j false = true) = fun k => (k ∈ is ∧ lc.getD k false = true) ∨ k = i := by
            funext k
            apply propext
            by_cases hik : i = k
            · subst hik; simp [hsi, hin]
            · rw [getD_set_ne false hik]
              simp [Ne.symm hik]
          rw [e]
          exact h'.2
    have e0 : (is.filter fun k => !listed.getD k false) = is := List.filter_eq_self.2 fun k hk => by rw [getD_tf (p4 k hk)]; rfl
    have := key is.length listed a w hcl hsz (fun _ h => h) (fun _ h => .inl h) (by rw [e0]) hS (by
      have e : (fun i => i ∈ is ∧ listed.getD i false = true) = fun _ => False := by
        funext k
        apply propext
        refine ⟨fun h => ?_, fun h => h.elim⟩
        rw [getD_tf (p4 k h.1)] at h
        cases h.2
      rw [e]
      exact hI0)
    rw [hll] at this
    rw [Nat.sub_add_cancel hlen'] at this
    exact this
def pjB (ops : Array Oper) (full : List (Nat × Nat)) (t : PJ) : Bool := Region.noSelect ops && pjOk ops full t ops.size (Array.replicate ops.size false) true
theorem wpIn_pjX {ro : Option Nat} (S : World → Prop) (full : List (Nat × Nat)) (t : PJ) {id : Nat} {a : Act} {w : World} (hm : P.follows .mixedOrders = true) (hok : pjB ops full t = true) (hn : ops.toList.all ndO = true)
    (hQ : ∀ c a d v w, Q (.panic c) (a.put d v) w → Q (.panic c) a w) (hS : S w.drew) (h : wpJX P ops Q S t a w.drew) : (Code.region id ops true).wpIn (FR ro) 0 P Q a w := by
  simp only [pjB, Bool.and_eq_true] at hok
  refine wpIn_region_any hm ?_
  exact wpAX.anyIn hn _ _ _ _ (wpAX_of_pj (P := P) (Q := Q) (S := S) hok.1 hQ full t _ _ true a w.drew hok.2 Closed.start (by simp) (fun _ => hS) h)
end
end Go.Tl
