/- Joined texts: Ev0, Ev1, Ev2. -/
import Derived.Test.YtilhflfbbfeakaaTL
section
namespace Go.Ev
open Go Go.RowKit Go.Tl
set_option linter.unusedVariables false
set_option linter.unusedSimpArgs false
noncomputable section
inductive Tre (α : Type) where
  | e
  | n (l : Tre α) (x : Option α) (r : Tre α)
  deriving Inhabited
section
variable {α : Type}
def Tre.force {β : Type} (t : Tre α) (k : Tre α → β) : β := Tre.rec (motive := fun _ => β) (k .e) (fun l x r _ _ => k (.n l x r)) t
theorem Tre.force_eq {β : Type} (t : Tre α) (k : Tre α → β) : t.force k = k t := by cases t <;> rfl
def Tre.get (t : Tre α) : Nat → Option α :=
  Tre.rec (motive := fun _ => Nat → Option α) (fun _ => none) (fun _ x _ gl gr k => Nat.rec (motive := fun _ => Option α) x (fun j _ => Bool.rec (gr (Nat.div j 2)) (gl (Nat.div j 2)) (Nat.beq (Nat.mod j 2) 0)) k) t
def Tre.sgl (y : Option α) (f : Nat) : Nat → Tre α :=
  Nat.rec (motive := fun _ => Nat → Tre α) (fun _ => .n .e y .e) (fun _ ih k => Nat.rec (motive := fun _ => Tre α) (.n .e y .e) (fun j _ => Bool.rec ((ih (Nat.div j 2)).force fun r => .n .e none r) ((ih (Nat.div j 2)).force fun l => .n l none .e) (Nat.beq (Nat.mod j 2) 0)) k) f
def Tre.ins (y : Option α) (t : Tre α) : Nat → Tre α :=
  Tre.rec (motive := fun _ => Nat → Tre α) (fun k => sgl y k k) (fun l x r sl sr k => Nat.rec (motive := fun _ => Tre α) (.n l y r) (fun j _ => Bool.rec ((sr (Nat.div j 2)).force fun r' => .n l x r') ((sl (Nat.div j 2)).force fun l' => .n l' x r) (Nat.beq (Nat.mod j 2) 0)) k) t
def Tre.set (_ : Nat) (t : Tre α) (k : Nat) (y : Option α) : Option (Tre α) := (Tre.ins y t k).force fun t' => some t'
theorem bool_rec {β : Type} (a b : β) (c : Bool) : @Bool.rec (fun _ => β) a b c = cond c b a := by cases c <;> rfl
theorem Tre.get_e (k : Nat) : (Tre.e : Tre α).get k = none := rfl
theorem Tre.get_0 (l r : Tre α) (x : Option α) : (Tre.n l x r).get 0 = x := rfl
theorem Tre.get_s (l r : Tre α) (x : Option α) (k : Nat) : (Tre.n l x r).get (k + 1) = cond (Nat.beq (Nat.mod k 2) 0) (l.get (Nat.div k 2)) (r.get (Nat.div k 2)) := bool_rec _ _ _
theorem Tre.ins_0 (l r : Tre α) (x y : Option α) : (Tre.n l x r).ins y 0 = .n l y r := rfl
theorem Tre.ins_s (l r : Tre α) (x y : Option α) (k : Nat) : (Tre.n l x r).ins y (k + 1) = cond (Nat.beq (Nat.mod k 2) 0) (.n (l.ins y (Nat.div k 2)) x r) (.n l x (r.ins y (Nat.div k 2))) := (bool_rec _ _ _).trans (by rw [Tre.force_eq, Tre.force_eq]; rfl)
theorem Tre.sgl_0 (y : Option α) (f : Nat) : Tre.sgl y f 0 = .n .e y .e := by cases f <;> rfl
theorem Tre.sgl_s (y : Option α) (f k : Nat) : Tre.sgl y (f + 1) (k + 1) = cond (Nat.beq (Nat.mod k 2) 0) (.n (Tre.sgl y f (Nat.div k 2)) none .e) (.n .e none (Tre.sgl y f (Nat.div k 2))) := (bool_rec _ _ _).trans (by rw [Tre.force_eq, Tre.force_eq]; rfl)
theorem half_ne {j k : Nat} (h : j ≠ k) (h2 : Nat.mod j 2 = Nat.mod k 2) : Nat.div j 2 ≠ Nat.div k 2 := fun e => h (by
  have a := Nat.div_add_mod j 2
  have b := Nat.div_add_mod k 2
  have e' : j / 2 = k / 2 := e
  have h2' : j % 2 = k % 2 := h2
  omega)
theorem odd_one {k : Nat} (h : Nat.beq (Nat.mod k 2) 0 = false) : Nat.mod k 2 = 1 := by
  have : k % 2 ≠ 0 := fun e => by rw [show Nat.mod k 2 = 0 from e] at h; cases h
  show k % 2 = 1
  omega
theorem Tre.side {l l' r : Tre α} {x : Option α} {k : Nat} {y : Option α} (hl : l'.get (Nat.div k 2) = y ∧ ∀ j, j ≠ Nat.div k 2 → l'.get j = l.get j) :
    (Nat.beq (Nat.mod k 2) 0 = true → (Tre.n l' x r).get (k + 1) = y ∧ ∀ j, j ≠ k + 1 → (Tre.n l' x r).get j = (Tre.n l x r).get j) ∧
    (Nat.beq (Nat.mod k 2) 0 = false → (Tre.n r x l').get (k + 1) = y ∧ ∀ j, j ≠ k + 1 → (Tre.n r x l').get j = (Tre.n r x l).get j) := by
  refine ⟨fun hb => ⟨by rw [Tre.get_s, hb]; exact hl.1, fun j hj => ?_⟩, fun hb => ⟨by rw [Tre.get_s, hb]; exact hl.1, fun j hj => ?_⟩⟩
  · cases j with
    | zero => rfl
    | succ j =>
      rw [Tre.get_s, Tre.get_s]
      cases hj2 : Nat.beq (Nat.mod j 2) 0 with
      | true => exact hl.2 _ (half_ne (fun e => hj (by rw [e])) ((Nat.eq_of_beq_eq_true hj2).trans (Nat.eq_of_beq_eq_true hb).symm))
      | false => rfl
  · cases j with
    | zero => rfl
    | succ j =>
      rw [Tre.get_s, Tre.get_s]
      cases hj2 : Nat.beq (Nat.mod j 2) 0 with
      | true => rfl
      | false => exact hl.2 _ (half_ne (fun e => hj (by rw [e])) ((odd_one hj2).trans (odd_one hb).symm))
theorem Tre.sgl_get (y : Option α) : ∀ (f k : Nat), k ≤ f → (Tre.sgl y f k).get k = y ∧ ∀ j, j ≠ k → (Tre.sgl y f k).get j = none := by
  intro f
  induction f with
  | zero =>
    intro k hk
    have : k = 0 := by omega
    subst this
    rw [Tre.sgl_0]
    refine ⟨rfl, fun j hj => ?_⟩
    cases j with
    | zero => exact absurd rfl hj
    | succ j => rw [Tre.get_s]; cases Nat.beq (Nat.mod j 2) 0 <;> rfl
  | succ f ih =>
    intro k hk
    cases k with
    | zero =>
      rw [Tre.sgl_0]
      refine ⟨rfl, fun j hj => ?_⟩
      cases j with
      | zero => exact absurd rfl hj
      | succ j => rw [Tre.get_s]; cases Nat.beq (Nat.mod j 2) 0 <;> rfl
    | succ k =>
      have hd : Nat.div k 2 ≤ f := by have : k / 2 ≤ k := Nat.div_le_self _ _; show k / 2 ≤ f; omega
      have h1 := ih _ hd
      have h2 : (Tre.sgl y f (Nat.div k 2)).get (Nat.div k 2) = y ∧ ∀ j, j ≠ Nat.div k 2 → (Tre.sgl y f (Nat.div k 2)).get j = (Tre.e : Tre α).get j := h1
      have hs := Tre.side (x := none) (r := .e) h2
      have hz : ∀ j, (Tre.n (.e : Tre α) none .e).get j = none := fun j => by
        cases j with
        | zero => rfl
        | succ j => rw [Tre.get_s]; cases Nat.beq (Nat.mod j 2) 0 <;> rfl
      rw [Tre.sgl_s]
      cases hb : Nat.beq (Nat.mod k 2) 0 with
      | true => obtain ⟨g1, g2⟩ := hs.1 hb; exact ⟨g1, fun j hj => (g2 j hj).trans (hz j)⟩
      | false => obtain ⟨g1, g2⟩ := hs.2 hb; exact ⟨g1, fun j hj => (g2 j hj).trans (hz j)⟩
theorem Tre.ins_get (y : Option α) : ∀ (t : Tre α) (k : Nat), (t.ins y k).get k = y ∧ ∀ j, j ≠ k → (t.ins y k).get j = t.get j := by
  intro t
  induction t with
  | e => intro k; exact Tre.sgl_get y k k (Nat.le_refl _)
  | n l x r ihl ihr =>
    intro k
    cases k with
    | zero =>
      rw [Tre.ins_0]
      refine ⟨rfl, fun j hj => ?_⟩
      cases j with
      | zero => exact absurd rfl hj
      | succ j => rw [Tre.get_s, Tre.get_s]
    | succ k =>
      rw [Tre.ins_s]
      cases hb : Nat.beq (Nat.mod k 2) 0 with
      | true => exact (Tre.side (x := x) (r := r) (ihl (Nat.div k 2))).1 hb
      | false => exact (Tre.side (x := x) (r := l) (ihr (Nat.div k 2))).2 hb
theorem Tre.set_get : ∀ (f : Nat) (t t' : Tre α) (k : Nat) (y : Option α), Tre.set f t k y = some t' → t'.get k = y ∧ ∀ j, j ≠ k → t'.get j = t.get j := by
  intro f t t' k y h
  unfold Tre.set at h
  rw [Tre.force_eq] at h
  cases h
  exact Tre.ins_get y t k
def lget (l : List α) : Nat → Option α :=
  List.rec (motive := fun _ => Nat → Option α) (fun _ => none) (fun x _ ih k => Nat.rec (motive := fun _ => Option α) (some x) (fun j _ => ih j) k) l
theorem lget_eq : ∀ (l : List α) (k : Nat), lget l k = l[k]?
  | [], k => by simp [lget]
  | x :: l, 0 => rfl
  | x :: l, k + 1 => (lget_eq l k).trans (by simp)
def Tre.all (f : Nat → α → Bool) : Tre α → Bool
  | .e => true
  | .n l x r => (match x with | some y => f 0 y | none => true) && Tre.all (fun j => f (2 * j + 1)) l && Tre.all (fun j => f (2 * j + 2)) r
theorem Tre.all_get : ∀ (t : Tre α) (f : Nat → α → Bool), t.all f = true → ∀ k x, t.get k = some x → f k x = true := by
  intro t
  induction t with
  | e => intro f _ k x h; rw [Tre.get_e] at h; cases h
  | n l y r ihl ihr =>
    intro f h k x hk
    simp only [Tre.all, Bool.and_eq_true] at h
    cases k with
    | zero =>
      rw [Tre.get_0] at hk
      subst hk
      exact h.1.1
    | succ k =>
      rw [Tre.get_s] at hk
      cases hb : Nat.beq (Nat.mod k 2) 0 with
      | true =>
        rw [hb] at hk
        have h1 := ihl _ h.1.2 _ _ hk
        have e0 : k % 2 = 0 := Nat.eq_of_beq_eq_true hb
        have e : 2 * Nat.div k 2 + 1 = k + 1 := by show 2 * (k / 2) + 1 = k + 1; omega
        rwa [e] at h1
      | false =>
        rw [hb] at hk
        have h1 := ihr _ h.2 _ _ hk
        have e0 : k % 2 ≠ 0 := fun e => by rw [show Nat.mod k 2 = 0 from e] at hb; cases hb
        have e : 2 * Nat.div k 2 + 2 = k + 1 := by show 2 * (k / 2) + 2 = k + 1; omega
        rwa [e] at h1
end
structure Rb where
  b : Nat
  κ : Nat
  sz : Nat
  deriving Inhabited
def scB : Value → Bool
  | .bool _ => true
  | .int _ _ => true
  | .string _ => true
  | .nilFunc => true
  | .nilIface => true
  | .pointer none => true
  | .slice none 0 0 => true
  | .map none => true
  | _ => false
inductive VR (ρ : Nat → Rb) (D : Nat → Prop) : Value → Value → Prop where
  | sc {v : Value} (h : scB v = true) : VR ρ D v v
  | ptr {i o : Nat} (h : D i) : VR ρ D (.pointer (some ⟨i, o, none⟩)) (.pointer (some ⟨(ρ i).b, o, none⟩))
  | sl {i o l n : Nat} (h : D i) (hz : 0 < (ρ i).sz) (ho : o = l * (ρ i).sz) (hn : l + n ≤ (ρ i).κ) : VR ρ D (.slice (some ⟨i, o, none⟩) n 1) (.slice (some ⟨(ρ i).b, o, none⟩) n ((ρ i).κ - l))
  | s0 {i o : Nat} (h : D i) : VR ρ D (.slice (some ⟨i, o, none⟩) 0 0) (.slice (some ⟨(ρ i).b, o, none⟩) 0 0)
  | mp {i : Nat} (h : D i) : VR ρ D (.map (some i)) (.map (some (ρ i).b))
  | yl {i : Nat} (h : D i) : VR ρ D (.func (.yield i) #[] #[]) (.func (.yield (ρ i).b) #[] #[])
  | fn {g : FuncId} {cs vs ds us : Array Value} (hl : cs.size = vs.size) (h : ∀ (j : Nat) (x y : Value), cs[j]? = some x → vs[j]? = some y → VR ρ D x y)
      (hl' : ds.size = us.size) (h' : ∀ (j : Nat) (x y : Value), ds[j]? = some x → us[j]? = some y → VR ρ D x y) : VR ρ D (.func (.func g) cs ds) (.func (.func g) vs us)
  | ag {cs vs : Array Value} (hl : cs.size = vs.size) (h : ∀ (j : Nat) (x y : Value), cs[j]? = some x → vs[j]? = some y → VR ρ D x y) : VR ρ D (.agg cs) (.agg vs)
  | tu {cs vs : Array Value} (hl : cs.size = vs.size) (h : ∀ (j : Nat) (x y : Value), cs[j]? = some x → vs[j]? = some y → VR ρ D x y) : VR ρ D (.tuple cs) (.tuple vs)
def VRs (ρ : Nat → Rb) (D : Nat → Prop) (xs ys : List Value) : Prop := xs.length = ys.length ∧ ∀ (j : Nat) (x y : Value), xs[j]? = some x → ys[j]? = some y → VR ρ D x y
section
variable {ρ ρ' : Nat → Rb} {D D' : Nat → Prop}
theorem VR.mono {x v : Value} (h : VR ρ D x v) (hD : ∀ i, D i → D' i ∧ ρ' i = ρ i) : VR ρ' D' x v := by
  induction h with
  | sc h => exact .sc h
  | ptr h => obtain ⟨h1, h2⟩ := hD _ h; rw [← h2]; exact .ptr h1
  | sl h hz ho hn => obtain ⟨h1, h2⟩ := hD _ h; rw [← h2] at hz ho hn ⊢; exact .sl h1 hz ho hn
  | s0 h => obtain ⟨h1, h2⟩ := hD _ h; rw [← h2]; exact .s0 h1
  | mp h => obtain ⟨h1, h2⟩ := hD _ h; rw [← h2]; exact .mp h1
  | yl h => obtain ⟨h1, h2⟩ := hD _ h; rw [← h2]; exact .yl h1
  | fn hl _ hl' _ ih ih' => exact .fn hl ih hl' ih'
  | ag hl _ ih => exact .ag hl ih
  | tu hl _ ih => exact .tu hl ih
theorem arr_same {P : Value → Value → Prop} {cs vs us : Array Value} (h1 : cs.size = vs.size) (h2 : cs.size = us.size) (h : ∀ (j : Nat) (x y z : Value), cs[j]? = some x → vs[j]? = some y → us[j]? = some z → z = y) : us = vs := by
  apply Array.ext
  · omega
  · intro j hj hj'
    exact h j cs[j] vs[j] us[j] (Array.getElem?_eq_getElem _) (Array.getElem?_eq_getElem _) (Array.getElem?_eq_getElem _)
theorem VR.func {x v : Value} (h : VR ρ D x v) : ∀ {v'}, VR ρ' D' x v' → (∀ i, D i → ρ' i = ρ i) → v' = v := by
  induction h with
  | sc h => intro v' h' _; cases h' <;> first | rfl | simp [scB] at h
  | ptr h => intro v' h' hr; cases h' with | sc h => simp [scB] at h | ptr _ => rw [hr _ h]
  | sl h hz ho hn =>
    intro v' h' hr
    cases h' with
    | sc h => simp [scB] at h
    | @sl _ _ l' _ h' hz' ho' hn' =>
      rw [hr _ h] at *
      rw [ho] at ho'
      have := Nat.eq_of_mul_eq_mul_right hz ho'
      rw [this]
  | s0 h => intro v' h' hr; cases h' with | sc h => simp [scB] at h | s0 _ => rw [hr _ h]
  | mp h => intro v' h' hr; cases h' with | sc h => simp [scB] at h | mp _ => rw [hr _ h]
  | yl h => intro v' h' hr; cases h' with | sc h => simp [scB] at h | yl _ => rw [hr _ h]
  | fn hl _ hl' _ ih ih' =>
    intro v' h' hr
    cases h' with
    | sc h => simp [scB] at h
    | fn k1 k2 k3 k4 =>
      rw [arr_same (P := fun _ _ => True) hl k1 (fun j x y z a b c => ih j x y a b (k2 j x z a c) hr), arr_same (P := fun _ _ => True) hl' k3 (fun j x y z a b c => ih' j x y a b (k4 j x z a c) hr)]
  | ag hl _ ih =>
    intro v' h' hr
    cases h' with
    | sc h => simp [scB] at h
    | ag k1 k2 => rw [arr_same (P := fun _ _ => True) hl k1 (fun j x y z a b c => ih j x y a b (k2 j x z a c) hr)]
  | tu hl _ ih =>
    intro v' h' hr
    cases h' with
    | sc h => simp [scB] at h
    | tu k1 k2 => rw [arr_same (P := fun _ _ => True) hl k1 (fun j x y z a b c => ih j x y a b (k2 j x z a c) hr)]
theorem VR.scal {x v : Value} (h : VR ρ D x v) (hs : scB x = true) : v = x := by cases h <;> first | rfl | simp [scB] at hs
theorem VRs.nil : VRs ρ D [] [] := ⟨rfl, fun j x y h => by simp at h⟩
theorem VRs.cons {x v : Value} {xs vs : List Value} (h : VR ρ D x v) (hs : VRs ρ D xs vs) : VRs ρ D (x :: xs) (v :: vs) := by
  refine ⟨by simp [hs.1], fun j y u hy hu => ?_⟩
  cases j with
  | zero => simp at hy hu; subst hy; subst hu; exact h
  | succ j => simp at hy hu; exact hs.2 j y u hy hu
theorem VRs.append {xs ys vs us : List Value} (h : VRs ρ D xs vs) (h' : VRs ρ D ys us) : VRs ρ D (xs ++ ys) (vs ++ us) := by
  refine ⟨by simp [h.1, h'.1], fun j y u hy hu => ?_⟩
  rcases Nat.lt_or_ge j xs.length with hj | hj
  · rw [List.getElem?_append_left hj] at hy
    rw [List.getElem?_append_left (by rw [← h.1]; exact hj)] at hu
    exact h.2 j y u hy hu
  · rw [List.getElem?_append_right hj] at hy
    rw [List.getElem?_append_right (by rw [← h.1]; exact hj)] at hu
    rw [← h.1] at hu
    exact h'.2 _ y u hy hu
theorem VRs.take {xs vs : List Value} (h : VRs ρ D xs vs) (n : Nat) : VRs ρ D (xs.take n) (vs.take n) := by
  refine ⟨by simp [h.1], fun i y u hy hu => ?_⟩
  rw [List.getElem?_take] at hy hu
  split at hy
  · rename_i hi; rw [if_pos hi] at hu; exact h.2 i y u hy hu
  · cases hy
theorem VRs.drop {xs vs : List Value} (h : VRs ρ D xs vs) (n : Nat) : VRs ρ D (xs.drop n) (vs.drop n) := by
  refine ⟨by simp [h.1], fun i y u hy hu => ?_⟩
  rw [List.getElem?_drop] at hy hu
  exact h.2 _ y u hy hu
theorem VRs.mono {xs vs : List Value} (h : VRs ρ D xs vs) (hD : ∀ i, D i → D' i ∧ ρ' i = ρ i) : VRs ρ' D' xs vs := ⟨h.1, fun j x y hx hy => (h.2 j x y hx hy).mono hD⟩
theorem VRs.get {xs vs : List Value} (h : VRs ρ D xs vs) {j : Nat} {x : Value} (hx : xs[j]? = some x) : ∃ v, vs[j]? = some v ∧ VR ρ D x v := by
  have hj : j < vs.length := by rw [← h.1]; exact (List.getElem?_eq_some_iff.1 hx).1
  exact ⟨_, List.getElem?_eq_getElem hj, h.2 j x _ hx (List.getElem?_eq_getElem hj)⟩
theorem VRs.scals {xs vs : List Value} (h : VRs ρ D xs vs) (hs : xs.all scB = true) : vs = xs := by
  apply List.ext_getElem?
  intro j
  rcases Nat.lt_or_ge j xs.length with hj | hj
  · have hj' : j < vs.length := by rw [← h.1]; exact hj
    rw [List.getElem?_eq_getElem hj, List.getElem?_eq_getElem hj', (h.2 j _ _ (List.getElem?_eq_getElem hj) (List.getElem?_eq_getElem hj')).scal (List.all_eq_true.1 hs _ (List.getElem_mem hj))]
  · rw [List.getElem?_eq_none hj, List.getElem?_eq_none (by rw [← h.1]; exact hj)]
theorem VRs.sc {xs : List Value} (hs : xs.all scB = true) : VRs ρ D xs xs := ⟨rfl, fun j x y hx hy => by rw [hx] at hy; cases hy; exact .sc (List.all_eq_true.1 hs _ (List.mem_of_getElem? hx))⟩
theorem VRs.func {xs vs vs' : List Value} (h : VRs ρ D xs vs) (h' : VRs ρ' D' xs vs') (hr : ∀ i, D i → ρ' i = ρ i) : vs' = vs := by
  apply List.ext_getElem?
  intro j
  rcases Nat.lt_or_ge j xs.length with hj | hj
  · have h1 : j < vs.length := by rw [← h.1]; exact hj
    have h2 : j < vs'.length := by rw [← h'.1]; exact hj
    rw [List.getElem?_eq_getElem h1, List.getElem?_eq_getElem h2, (h.2 j _ _ (List.getElem?_eq_getElem hj) (List.getElem?_eq_getElem h1)).func (h'.2 j _ _ (List.getElem?_eq_getElem hj) (List.getElem?_eq_getElem h2)) hr]
  · rw [List.getElem?_eq_none (l := vs) (by rw [← h.1]; exact hj), List.getElem?_eq_none (l := vs') (by rw [← h'.1]; exact hj)]
theorem VR.agL {xs vs : List Value} (h : VRs ρ D xs vs) : VR ρ D (.agg xs.toArray) (.agg vs.toArray) := .ag (by simpa using h.1) (fun j x y hx hy => h.2 j x y (by simpa using hx) (by simpa using hy))
theorem VR.tuL {xs vs : List Value} (h : VRs ρ D xs vs) : VR ρ D (.tuple xs.toArray) (.tuple vs.toArray) := .tu (by simpa using h.1) (fun j x y hx hy => h.2 j x y (by simpa using hx) (by simpa using hy))
theorem VR.agI {cs : Array Value} {v : Value} (h : VR ρ D (.agg cs) v) : ∃ vs : Array Value, v = .agg vs ∧ VRs ρ D cs.toList vs.toList := by
  cases h with
  | sc h => simp [scB] at h
  | ag hl h => exact ⟨_, rfl, by simpa using hl, fun j x y hx hy => h j x y (by simpa using hx) (by simpa using hy)⟩
theorem VR.tuI {cs : Array Value} {v : Value} (h : VR ρ D (.tuple cs) v) : ∃ vs : Array Value, v = .tuple vs ∧ VRs ρ D cs.toList vs.toList := by
  cases h with
  | sc h => simp [scB] at h
  | tu hl h => exact ⟨_, rfl, by simpa using hl, fun j x y hx hy => h j x y (by simpa using hx) (by simpa using hy)⟩
def oneB : Value → Bool
  | .agg _ => false
  | .tuple _ => false
  | _ => true
def cellsL : Value → List Value
  | .agg cs => cs.toList
  | v => [v]
theorem cells_toList (v : Value) : v.cells.toList = cellsL v := by cases v <;> rfl
theorem VR.one {x v : Value} (h : VR ρ D x v) (ho : oneB x = true) : v.oneCell' = true := by
  cases h with
  | sc h => cases x <;> simp_all [oneB, Value.oneCell', scB]
  | ag => simp [oneB] at ho
  | tu => simp [oneB] at ho
  | _ => rfl
theorem VR.cells {x v : Value} (h : VR ρ D x v) : VRs ρ D (cellsL x) (cellsL v) := by
  cases h with
  | sc h =>
    cases x with
    | agg cs => simp [scB] at h
    | _ => exact .cons (.sc h) .nil
  | ag hl h => exact ⟨by simpa [cellsL] using hl, fun j x y hx hy => h j x y (by simpa [cellsL] using hx) (by simpa [cellsL] using hy)⟩
  | ptr h => exact .cons (.ptr h) .nil
  | sl a b c d => exact .cons (.sl a b c d) .nil
  | s0 h => exact .cons (.s0 h) .nil
  | mp h => exact .cons (.mp h) .nil
  | yl h => exact .cons (.yl h) .nil
  | fn a b c d => exact .cons (.fn a b c d) .nil
  | tu a b => exact .cons (.tu a b) .nil
theorem VRs.ones {xs vs : List Value} (h : VRs ρ D xs vs) (ho : xs.all oneB = true) : ∀ v ∈ vs, v.oneCell' = true := fun v hv => by
  obtain ⟨j, hj, rfl⟩ := List.getElem_of_mem hv
  have hj' : j < xs.length := by rw [h.1]; exact hj
  exact (h.2 j _ _ (List.getElem?_eq_getElem hj') (List.getElem?_eq_getElem hj)).one (List.all_eq_true.1 ho _ (List.getElem_mem hj'))
end
def scq : Value → Value → Bool
  | .int .i64 a, .int .i64 b => decide (a = b)
  | .bool a, .bool b => a == b
  | _, _ => false
def scqs : List Value → List Value → Bool
  | [], [] => true
  | x :: xs, y :: ys => scq x y && scqs xs ys
  | _, _ => false
def kOk : List Bool → List Value → Bool
  | [], [] => true
  | true :: ks, .int .i64 _ :: vs => kOk ks vs
  | false :: ks, .bool _ :: vs => kOk ks vs
  | _, _ => false
def keyOk (kk : Option (List Bool)) : Value → Bool
  | .agg cs => match kk with | some ks => kOk ks cs.toList | none => false
  | .int .i64 _ => kk.isNone
  | _ => false
def keyEq : Value → Value → Bool
  | .agg a, .agg b => scqs a.toList b.toList
  | .int .i64 a, .int .i64 b => decide (a = b)
  | _, _ => false
inductive MO where
  | cl (T : TypeId) (sz : Nat) (ex : Bool) (cs : List Value)
  | mp (kk : Option (List Bool)) (es : List (Value × Value × Nat)) (ck : Nat)
  | lp (st : LoopState) (pe : Option Code) (f N : Nat) (s : Tre Value) (ps : List Tmp) (as body : Code) (d : Nat)
  | df
  | dead
def MO.live : MO → Bool
  | .dead => false
  | _ => true
def dom (m : Tre MO) (i : Nat) : Prop := ∃ o, m.get i = some o
def SR (ρ : Nat → Rb) (D : Nat → Prop) (s : Tre Value) (tmps : Array Value) : Prop := ∀ d x, s.get d = some x → ∃ v, tmps[d]? = some v ∧ VR ρ D x v
inductive ME (ρ : Nat → Rb) (D : Nat → Prop) : List (Value × Value × Nat) → List MapEntry → Prop where
  | nil : ME ρ D [] []
  | cons {k x : Value} {n : Nat} {e : MapEntry} {r : List (Value × Value × Nat)} {es : List MapEntry} (hk : e.key = k) (hn : e.born = n) (hv : VR ρ D x e.val) (h : ME ρ D r es) : ME ρ D ((k, x, n) :: r) (e :: es)
def OR (ρ : Nat → Rb) (D : Nat → Prop) (w : World) (i : Nat) : MO → Prop
  | .cl T sz ex cs => ∃ xs : List Value, w.heap[(ρ i).b]? = some (.cells xs.toArray T (0, 0)) ∧ xs.length = (ρ i).κ * (ρ i).sz ∧ (ρ i).sz = sz ∧ 0 < sz ∧ (ρ i).κ ≤ maxLen ∧ cs.length ≤ xs.length ∧ (ex = true → cs.length = xs.length) ∧ VRs ρ D cs (xs.take cs.length)
  | .mp kk es ck => ∃ tes : List MapEntry, w.heap[(ρ i).b]? = some (.map tes.toArray ck) ∧ ME ρ D es tes ∧ ∀ e ∈ es, keyOk kk e.1 = true
  | .lp st pe f N s ps as body d => ∃ g tmps, w.heap[(ρ i).b]? = some (.loop { state := st, pending := pe, fn := g, tmps := tmps, params := ps.toArray, assign := as, body := body, defers := (ρ d).b }) ∧ tmps.size = N ∧ SR ρ D s tmps ∧ D d
  | .df => w.heap[(ρ i).b]? = some (.deferred (some []))
  | .dead => True
structure W0 where
  w : World
  CP : Nat → Code → Prop
  F : Nat → Prop := fun b => b < w.heap.size
  hF : ∀ b, F b → b < w.heap.size := by intro b h; exact h
def LpOk (CP : Nat → Code → Prop) : MO → Prop
  | .lp _ _ f _ _ _ as body _ => CP f as ∧ CP f body
  | _ => True
structure MS (w0 : W0) (ρ : Nat → Rb) (m : Tre MO) (w : World) : Prop where
  os : w.os = w0.w.os
  tape : w.tape = w0.w.tape
  output : w.output = w0.w.output
  size : w0.w.heap.size ≤ w.heap.size
  old : ∀ b, w0.F b → w.heap[b]? = w0.w.heap[b]?
  obj : ∀ i o, m.get i = some o → OR ρ (dom m) w i o
  cp : ∀ i o, m.get i = some o → LpOk w0.CP o
  lo : ∀ i o, m.get i = some o → o.live = true → ¬ w0.F (ρ i).b
  inj : ∀ i j o o', m.get i = some o → m.get j = some o' → o.live = true → o'.live = true → (ρ i).b = (ρ j).b → i = j
def Le (ρ : Nat → Rb) (m : Tre MO) (ρ' : Nat → Rb) (m' : Tre MO) : Prop := ∀ i, dom m i → dom m' i ∧ ρ' i = ρ i
theorem Le.refl {ρ : Nat → Rb} {m : Tre MO} : Le ρ m ρ m := fun _ h => ⟨h, rfl⟩
theorem Le.trans {ρ ρ' ρ'' : Nat → Rb} {m m' m'' : Tre MO} (h : Le ρ m ρ' m') (h' : Le ρ' m' ρ'' m'') : Le ρ m ρ'' m'' := fun i hi =>
  ⟨(h' i (h i hi).1).1, ((h' i (h i hi).1).2).trans (h i hi).2⟩
section
variable {ρ ρ' : Nat → Rb} {D D' : Nat → Prop} {w w' : World} {w0 : W0} {m m' : Tre MO}
theorem SR.mono {s : Tre Value} {t : Array Value} (h : SR ρ D s t) (hD : ∀ i, D i → D' i ∧ ρ' i = ρ i) : SR ρ' D' s t := fun d x hx => by
  obtain ⟨v, h1, h2⟩ := h d x hx
  exact ⟨v, h1, h2.mono hD⟩
theorem ME.mono {es : List (Value × Value × Nat)} {tes : List MapEntry} (h : ME ρ D es tes) (hD : ∀ i, D i → D' i ∧ ρ' i = ρ i) : ME ρ' D' es tes := by
  induction h with
  | nil => exact .nil
  | cons hk hn hv _ ih => exact .cons hk hn (hv.mono hD) ih
theorem ME.back {es : List (Value × Value × Nat)} {tes0 tes : List MapEntry} (h0 : ME ρ D es tes0) (h : ME ρ' D' es tes) (hD : ∀ i, D i → ρ' i = ρ i) : ME ρ D es tes := by
  induction h0 generalizing tes with
  | nil => cases h; exact .nil
  | cons hk hn hv _ ih =>
    cases h with
    | cons hk' hn' hv' h' =>
      refine .cons hk' hn' ?_ (ih h')
      rw [hv.func hv' hD]
      exact hv
theorem OR.mono {i : Nat} {o : MO} (h : OR ρ D w i o) (hi : o.live = true → ρ' i = ρ i) (hD : ∀ i, D i → D' i ∧ ρ' i = ρ i) (hw : o.live = true → w'.heap[(ρ i).b]? = w.heap[(ρ i).b]?) : OR ρ' D' w' i o := by
  cases o with
  | cl T sz ex cs =>
    obtain ⟨xs, h1, h2, h3, h4, h5, h6, h8, h7⟩ := h
    have e := hi rfl
    exact ⟨xs, by rw [e, hw rfl, h1], by rw [e, h2], by rw [e, h3], h4, by rw [e]; exact h5, h6, h8, h7.mono hD⟩
  | mp kk es ck =>
    obtain ⟨tes, h1, h2, h3⟩ := h
    have e := hi rfl
    exact ⟨tes, by rw [e, hw rfl, h1], h2.mono hD, h3⟩
  | lp st pe f N s ps as body d =>
    obtain ⟨g, tmps, h1, h2, h3, h4⟩ := h
    have e := hi rfl
    exact ⟨g, tmps, by rw [e, hw rfl, h1, (hD d h4).2], h2, h3.mono hD, (hD d h4).1⟩
  | df => have e := hi rfl; show w'.heap[(ρ' i).b]? = _; rw [e, hw rfl]; exact h
  | dead => trivial
theorem OR.lt {i : Nat} {o : MO} (h : OR ρ D w i o) (hl : o.live = true) : (ρ i).b < w.heap.size := by
  cases o with
  | cl T sz ex cs => obtain ⟨xs, h1, _⟩ := h; exact (Array.getElem?_eq_some_iff.1 h1).1
  | mp kk es ck => obtain ⟨tes, h1, _⟩ := h; exact (Array.getElem?_eq_some_iff.1 h1).1
  | lp => obtain ⟨g, tmps, h1, _⟩ := h; exact (Array.getElem?_eq_some_iff.1 h1).1
  | df => exact (Array.getElem?_eq_some_iff.1 h).1
  | dead => simp [MO.live] at hl
theorem OR.back {i : Nat} {o : MO} (h0 : OR ρ D w i o) (h : OR ρ' D' w' i o) (hi : o.live = true → ρ' i = ρ i) (hD : ∀ i, D i → ρ' i = ρ i) : OR ρ D w' i o := by
  cases o with
  | cl T sz ex cs =>
    obtain ⟨xs0, a1, a2, a3, a4, a5, a6, a8, a7⟩ := h0
    obtain ⟨xs, h1, h2, h3, h4, h5, h6, h8, h7⟩ := h
    have e := hi rfl
    have := a7.func h7 hD
    exact ⟨xs, by rw [← e, h1], by rw [← e, h2], by rw [← e, h3], h4, by rw [← e]; exact h5, h6, h8, by rw [this]; exact a7⟩
  | mp kk es ck =>
    obtain ⟨tes0, a1, a2, a3⟩ := h0
    obtain ⟨tes, h1, h2, h3⟩ := h
    have e := hi rfl
    exact ⟨tes, by rw [← e, h1], a2.back h2 hD, a3⟩
  | lp st pe f N s ps as body d =>
    obtain ⟨g0, t0, a1, a2, a3, a4⟩ := h0
    obtain ⟨g, tmps, h1, h2, h3, h4⟩ := h
    have e := hi rfl
    refine ⟨g, tmps, by rw [← e, h1, hD d a4], h2, fun k x hx => ?_, a4⟩
    obtain ⟨v0, b1, b2⟩ := a3 k x hx
    obtain ⟨v, c1, c2⟩ := h3 k x hx
    refine ⟨v, c1, ?_⟩
    rw [b2.func c2 hD]
    exact b2
  | df => have e := hi rfl; show w'.heap[(ρ i).b]? = _; rw [← e]; exact h
  | dead => trivial
theorem MS.grow (H : MS w0 ρ m w) (hos : w'.os = w.os) (ht : w'.tape = w.tape) (ho : w'.output = w.output) (hs : w.heap.size ≤ w'.heap.size) (hb : ∀ b, b < w.heap.size → w'.heap[b]? = w.heap[b]?) : MS w0 ρ m w' :=
  ⟨hos.trans H.os, ht.trans H.tape, ho.trans H.output, Nat.le_trans H.size hs, fun b h => (hb b (Nat.lt_of_lt_of_le (w0.hF b h) H.size)).trans (H.old b h),
    fun i o hi => (H.obj i o hi).mono (fun _ => rfl) (fun _ h => ⟨h, rfl⟩) (fun hl => hb _ ((H.obj i o hi).lt hl)), H.cp, H.lo, H.inj⟩
theorem MS.drew (H : MS w0 ρ m w) : MS w0 ρ m w.drew := H.grow rfl rfl rfl (Nat.le_refl _) (fun _ _ => rfl)
def upd (ρ : Nat → Rb) (i : Nat) (r : Rb) (j : Nat) : Rb := if j = i then r else ρ j
theorem upd_same {i : Nat} {r : Rb} : upd ρ i r i = r := by simp [upd]
theorem upd_other {i j : Nat} {r : Rb} (h : j ≠ i) : upd ρ i r j = ρ j := by simp [upd, h]
theorem dom_set {f i : Nat} {o : MO} (h : Tre.set f m i (some o) = some m') : ∀ j, dom m' j ↔ dom m j ∨ j = i := fun j => by
  obtain ⟨h1, h2⟩ := Tre.set_get _ _ _ _ _ h
  by_cases hj : j = i
  · subst hj; exact ⟨fun _ => .inr rfl, fun _ => ⟨o, h1⟩⟩
  · unfold dom; rw [h2 j hj]; exact ⟨.inl, fun h => h.resolve_right hj⟩
theorem MS.push (H : MS w0 ρ m w) {f i : Nat} {o : MO} {r : Rb} (hf : m.get i = none) (hm : Tre.set f m i (some o) = some m') (hos : w'.os = w.os) (ht : w'.tape = w.tape) (ho : w'.output = w.output) (hs : w.heap.size ≤ w'.heap.size)
    (hb0 : ∀ b, w0.F b → w'.heap[b]? = w.heap[b]?) (hb1 : ∀ j x, m.get j = some x → x.live = true → w'.heap[(ρ j).b]? = w.heap[(ρ j).b]?) (hr : ¬ w0.F r.b) (hr' : ∀ j x, m.get j = some x → x.live = true → (ρ j).b ≠ r.b) (hO : (∀ j, dom m j → dom m' j ∧ upd ρ i r j = ρ j) → OR (upd ρ i r) (dom m') w' i o) (hc : LpOk w0.CP o := by trivial) : MS w0 (upd ρ i r) m' w' ∧ Le ρ m (upd ρ i r) m' := by
  obtain ⟨h1, h2⟩ := Tre.set_get _ _ _ _ _ hm
  have hne : ∀ j, dom m j → j ≠ i := fun j ⟨x, hx⟩ e => by rw [e, hf] at hx; cases hx
  have hLe : Le ρ m (upd ρ i r) m' := fun j hj => ⟨(dom_set hm j).2 (.inl hj), upd_other (hne j hj)⟩
  refine ⟨⟨hos.trans H.os, ht.trans H.tape, ho.trans H.output, Nat.le_trans H.size hs, fun b h => (hb0 b h).trans (H.old b h), fun j x hx => ?_, fun j x hx => ?_, fun j x hx hl => ?_, fun j k x y hx hy hlx hly he => ?_⟩, hLe⟩
  · by_cases hj : j = i
    · subst hj; rw [h1] at hx; cases hx; exact hO hLe
    · rw [h2 j hj] at hx
      exact (H.obj j x hx).mono (fun _ => (hLe j ⟨x, hx⟩).2) hLe (fun hl => hb1 j x hx hl)
  · by_cases hj : j = i
    · subst hj; rw [h1] at hx; cases hx; exact hc
    · rw [h2 j hj] at hx; exact H.cp j x hx
  · by_cases hj : j = i
    · subst hj; rw [h1] at hx; cases hx; rw [upd_same]; exact hr
    · rw [h2 j hj] at hx; rw [upd_other hj]; exact H.lo j x hx hl
  · by_cases hj : j = i
    · by_cases hk : k = i
      · rw [hj, hk]
      · exfalso
        subst hj
        rw [h2 k hk] at hy
        rw [upd_same, upd_other hk] at he
        exact hr' k y hy hly he.symm
    · by_cases hk : k = i
      · exfalso
        subst hk
        rw [h2 j hj] at hx
        rw [upd_other hj, upd_same] at he
        exact hr' j x hx hlx he
      · rw [h2 j hj] at hx
        rw [h2 k hk] at hy
        rw [upd_other hj, upd_other hk] at he
        exact H.inj j k x y hx hy hlx hly he
theorem MS.new (H : MS w0 ρ m w) {f i : Nat} {o : MO} {x : Obj} {κ sz : Nat} (hf : m.get i = none) (hm : Tre.set f m i (some o) = some m')
    (hO : (∀ j, dom m j → dom m' j ∧ upd ρ i ⟨w.heap.size, κ, sz⟩ j = ρ j) → OR (upd ρ i ⟨w.heap.size, κ, sz⟩) (dom m') (w.alloc x) i o) (hc : LpOk w0.CP o := by trivial) : MS w0 (upd ρ i ⟨w.heap.size, κ, sz⟩) m' (w.alloc x) ∧ Le ρ m (upd ρ i ⟨w.heap.size, κ, sz⟩) m' :=
  H.push hf hm rfl rfl rfl (by simp) (fun b hb => alloc_old w x b (Nat.lt_of_lt_of_le (w0.hF b hb) H.size)) (fun j y hy hl => alloc_old w x _ ((H.obj j y hy).lt hl)) (fun hb => by have h1 := w0.hF _ hb; have h2 := H.size; have h3 : w.heap.size < w0.w.heap.size := h1; omega) (fun j y hy hl e => by have := (H.obj j y hy).lt hl; simp at e; omega) hO hc
theorem MS.put (H : MS w0 ρ m w) {f i : Nat} {o o' : MO} (hi : m.get i = some o) (hl : o.live = true) (hm : Tre.set f m i (some o') = some m') (hos : w'.os = w.os) (ht : w'.tape = w.tape) (ho : w'.output = w.output) (hs : w.heap.size ≤ w'.heap.size)
    (hb : ∀ b, b < w.heap.size → b ≠ (ρ i).b → w'.heap[b]? = w.heap[b]?) (hO : (∀ j, dom m j → dom m' j) → OR ρ (dom m') w' i o') (hc : LpOk w0.CP o' := by trivial) : MS w0 ρ m' w' ∧ Le ρ m ρ m' := by
  obtain ⟨h1, h2⟩ := Tre.set_get _ _ _ _ _ hm
  have hd : ∀ j, dom m j → dom m' j := fun j hj => (dom_set hm j).2 (.inl hj)
  have hdr : ∀ j, dom m' j → dom m j := fun j hj => ((dom_set hm j).1 hj).elim id (fun e => ⟨o, e ▸ hi⟩)
  have hlo := H.lo i o hi hl
  refine ⟨⟨hos.trans H.os, ht.trans H.tape, ho.trans H.output, Nat.le_trans H.size hs, fun b h => (hb b (Nat.lt_of_lt_of_le (w0.hF b h) H.size) (fun e => hlo (e ▸ h))).trans (H.old b h), fun j x hx => ?_, fun j x hx => ?_, fun j x hx hlx => ?_, fun j k x y hx hy hlx hly he => ?_⟩, fun j hj => ⟨hd j hj, rfl⟩⟩
  · by_cases hj : j = i
    · subst hj; rw [h1] at hx; cases hx; exact hO hd
    · rw [h2 j hj] at hx
      exact (H.obj j x hx).mono (fun _ => rfl) (fun k hk => ⟨hd k hk, rfl⟩) (fun hlx => hb _ ((H.obj j x hx).lt hlx) (fun e => hj (H.inj j i x o hx hi hlx hl e)))
  · by_cases hj : j = i
    · subst hj; rw [h1] at hx; cases hx; exact hc
    · rw [h2 j hj] at hx; exact H.cp j x hx
  · by_cases hj : j = i
    · subst hj; exact hlo
    · rw [h2 j hj] at hx; exact H.lo j x hx hlx
  · by_cases hj : j = i
    · by_cases hk : k = i
      · rw [hj, hk]
      · subst hj
        rw [h2 k hk] at hy
        exact (H.inj k j y o hy hi hly hl he.symm).symm
    · by_cases hk : k = i
      · subst hk
        rw [h2 j hj] at hx
        exact H.inj j k x o hx hi hlx hl he
      · rw [h2 j hj] at hx
        rw [h2 k hk] at hy
        exact H.inj j k x y hx hy hlx hly he
end
def vin : Nat → Tre MO → Value → Bool
  | 0, _, _ => false
  | _ + 1, m, .pointer (some a) => (m.get a.block).isSome
  | _ + 1, m, .slice (some a) _ _ => (m.get a.block).isSome
  | _ + 1, m, .map (some i) => (m.get i).isSome
  | n + 1, m, .func (.func _) a b => a.toList.all (vin n m) && b.toList.all (vin n m)
  | n + 1, m, .agg a => a.toList.all (vin n m)
  | n + 1, m, .tuple a => a.toList.all (vin n m)
  | _ + 1, _, v => scB v
def objIn (m : Tre MO) : MO → Bool
  | .cl _ _ _ cs => cs.all (vin 9 m)
  | .mp _ es _ => es.all fun e => vin 9 m e.2.1
  | .lp _ _ _ _ _ _ _ _ _ => false
  | .df => true
  | .dead => true
section
variable {ρ : Nat → Rb} {D : Nat → Prop} {m : Tre MO} {w : World}
theorem isSome_dom {i : Nat} (h : (m.get i).isSome = true) : dom m i := Option.isSome_iff_exists.1 h
theorem VR.shrink : ∀ (n : Nat) {x v : Value}, vin n m x = true → VR ρ D x v → VR ρ (dom m) x v := by
  intro n
  induction n with
  | zero => intro x v h; simp [vin] at h
  | succ n ih =>
    intro x v h hv
    have hl : ∀ {cs vs : Array Value}, cs.toList.all (vin n m) = true → (∀ (j : Nat) (x y : Value), cs[j]? = some x → vs[j]? = some y → VR ρ D x y) → ∀ (j : Nat) (x y : Value), cs[j]? = some x → vs[j]? = some y → VR ρ (dom m) x y := fun {cs vs} hc hh j x y hx hy =>
      ih (List.all_eq_true.1 hc x (by rw [← Array.getElem?_toList] at hx; exact List.mem_of_getElem? hx)) (hh j x y hx hy)
    cases hv with
    | sc h' => exact .sc h'
    | ptr h' => exact .ptr (isSome_dom h)
    | sl h' a b c => exact .sl (isSome_dom h) a b c
    | s0 h' => exact .s0 (isSome_dom h)
    | mp h' => exact .mp (isSome_dom h)
    | yl h' => simp [vin, scB] at h
    | fn a b c d =>
      simp only [vin, Bool.and_eq_true] at h
      exact .fn a (hl h.1 b) c (hl h.2 d)
    | ag a b => exact .ag a (hl h b)
    | tu a b => exact .tu a (hl h b)
theorem OR.shrink {i : Nat} {o : MO} (h : OR ρ D w i o) (ho : objIn m o = true) : OR ρ (dom m) w i o := by
  cases o with
  | cl T sz ex cs =>
    obtain ⟨xs, h1, h2, h3, h4, h5, h6, h8, h7⟩ := h
    exact ⟨xs, h1, h2, h3, h4, h5, h6, h8, h7.1, fun j x y hx hy => VR.shrink 9 (List.all_eq_true.1 ho x (List.mem_of_getElem? hx)) (h7.2 j x y hx hy)⟩
  | mp kk es ck =>
    obtain ⟨tes, h1, h2, h3⟩ := h
    refine ⟨tes, h1, ?_, h3⟩
    have ho' : ∀ e ∈ es, vin 9 m e.2.1 = true := List.all_eq_true.1 ho
    clear h1 h3 ho
    induction h2 with
    | nil => exact .nil
    | cons hk hn hv _ ih => exact .cons hk hn (VR.shrink 9 (ho' _ List.mem_cons_self) hv) (ih (fun e he => ho' e (List.mem_cons_of_mem _ he)))
  | lp => simp [objIn] at ho
  | df => exact h
  | dead => trivial
end
end
end Go.Ev
end
section
namespace Go.Ev
open Go Go.RowKit Go.Tl
set_option linter.unusedVariables false
set_option linter.unusedSimpArgs false
noncomputable section
theorem kOk_sc : ∀ {ks : List Bool} {vs : List Value}, kOk ks vs = true → vs.all scB = true
  | [], [], _ => rfl
  | true :: ks, .int .i64 _ :: vs, h => by simp only [List.all_cons, scB, Bool.true_and]; exact kOk_sc (ks := ks) h
  | false :: ks, .bool _ :: vs, h => by simp only [List.all_cons, scB, Bool.true_and]; exact kOk_sc (ks := ks) h
  | [], _ :: _, h => by simp [kOk] at h
  | true :: _, [], h => by simp [kOk] at h
  | false :: _, [], h => by simp [kOk] at h
theorem kOk_cell : ∀ {ks : List Bool} {vs : List Value}, kOk ks vs = true → ∀ v ∈ vs, (∃ n, v = .int .i64 n) ∨ ∃ b, v = .bool b
  | [], [], _ => fun v hv => by cases hv
  | true :: ks, .int .i64 n :: vs, h => fun v hv => by
    rcases List.mem_cons.1 hv with rfl | hv
    · exact .inl ⟨n, rfl⟩
    · exact kOk_cell (ks := ks) h v hv
  | false :: ks, .bool b :: vs, h => fun v hv => by
    rcases List.mem_cons.1 hv with rfl | hv
    · exact .inr ⟨b, rfl⟩
    · exact kOk_cell (ks := ks) h v hv
  | [], _ :: _, h => by simp [kOk] at h
  | true :: _, [], h => by simp [kOk] at h
  | false :: _, [], h => by simp [kOk] at h
theorem scqs_iff : ∀ {ks : List Bool} {xs ys : List Value}, kOk ks xs = true → kOk ks ys = true → (scqs xs ys = true ↔ xs = ys)
  | [], [], [], _, _ => by simp [scqs]
  | true :: ks, .int .i64 a :: xs, .int .i64 b :: ys, h, h' => by
    have := scqs_iff (ks := ks) (xs := xs) (ys := ys) h h'
    simp [scqs, scq, this]
  | false :: ks, .bool a :: xs, .bool b :: ys, h, h' => by
    have := scqs_iff (ks := ks) (xs := xs) (ys := ys) h h'
    simp [scqs, scq, this]
  | [], _ :: _, _, h, _ => by simp [kOk] at h
  | true :: _, [], _, h, _ => by simp [kOk] at h
  | false :: _, [], _, h, _ => by simp [kOk] at h
  | [], [], _ :: _, _, h => by simp [kOk] at h
  | true :: _, .int .i64 _ :: _, [], _, h => by simp [kOk] at h
  | false :: _, .bool _ :: _, [], _, h => by simp [kOk] at h
structure TD where
  siz : Tre (Nat × Bool)
  elm : Tre (Nat × Nat × Nat)
  arr : Tre (Nat × Nat × Nat)
  fld : Tre (List (Nat × Nat × Bool))
  knd : Tre IntKind
  eqs : Tre (List Bool)
  zer : List (Nat × Value)
  bls : Tre Unit
  deriving Inhabited
def blsB (P : Program) (t : Nat) (_ : Unit) : Bool :=
  match P.underlying t with
  | some .bool => true
  | _ => false
def fldsB (P : Program) (t : Nat) (l : List (Nat × Nat × Bool)) : Bool :=
  match P.underlying t with
  | some (.struct fs) => (fs.toList.map fun f => (f.offset, (P.info? f.type).map (·.size), (P.underlying f.type).map aggB)) == l.map fun x => (x.1, some x.2.1, some x.2.2)
  | _ => false
def kndB (P : Program) (t : Nat) (k : IntKind) : Bool :=
  match P.underlying t with
  | some (.int k') => k' == k
  | _ => false
structure TX (P : Program) (D : TD) : Prop where
  sizOk : D.siz.all (fun t x => sizB P (t, x)) = true
  elmOk : D.elm.all (fun t x => elmB P (t, x)) = true
  arrOk : D.arr.all (fun t x => arrB P (t, x)) = true
  fldOk : D.fld.all (fldsB P) = true
  kndOk : D.knd.all (kndB P) = true
  eqOk : ∀ t ks, D.eqs.get t = some ks → P.eqGuardType P.depth t = false ∧ ∀ as bs w, kOk ks as = true → kOk ks bs = true → (Op.equal t (.agg as.toArray) (.agg bs.toArray)).run P w = .ok (scqs as bs) w
  zerOk : zOk P D.zer
  zerSc : D.zer.all (fun p => (match p.2 with | .agg cs => cs.toList | v => [v]).all scB) = true
  mixed : P.follows .mixedOrders = true
  blOk : D.bls.all (blsB P) = true
section
variable {P : Program} {D : TD} (X : TX P D)
include X
theorem TX.siz_at {t n : Nat} {b : Bool} (h : D.siz.get t = some (n, b)) : ∃ j d, P.info? t = some j ∧ j.size = n ∧ n ≠ 0 ∧ P.underlying t = some d ∧ aggB d = b := by
  have hb := Tre.all_get _ _ X.sizOk _ _ h
  simp only [sizB, Bool.and_eq_true] at hb
  obtain ⟨h1, h2⟩ := hb
  split at h1
  · rename_i j hj
    split at h2
    · rename_i d hd
      simp only [Bool.and_eq_true, beq_iff_eq, bne_iff_ne] at h1 h2
      exact ⟨j, d, hj, h1.1, fun e => h1.2 (h1.1.trans e), hd, h2⟩
    · cases h2
  · cases h1
theorem TX.elm_at {t e n b : Nat} (h : D.elm.get t = some (e, n, b)) : ∃ j, P.underlying t = some (.slice e) ∧ P.info? e = some j ∧ j.size = n ∧ j.bytes = b ∧ n ≠ 0 := by
  have hb := Tre.all_get _ _ X.elmOk _ _ h
  simp only [elmB, Bool.and_eq_true] at hb
  obtain ⟨h1, h2⟩ := hb
  split at h1
  · rename_i u hu
    split at h2
    · rename_i j hj
      simp only [Bool.and_eq_true, beq_iff_eq, bne_iff_ne] at h1 h2
      subst h1
      exact ⟨j, hu, hj, h2.1.1, h2.1.2, fun e => h2.2 (h2.1.1.trans e)⟩
    · cases h2
  · cases h1
theorem TX.arr_at {t n e m : Nat} (h : D.arr.get t = some (n, e, m)) : ∃ j, P.underlying t = some (.array n e) ∧ P.info? e = some j ∧ j.size = m ∧ m ≠ 0 := by
  have hb := Tre.all_get _ _ X.arrOk _ _ h
  simp only [arrB, Bool.and_eq_true] at hb
  obtain ⟨h1, h2⟩ := hb
  split at h1
  · rename_i k u hu
    split at h2
    · rename_i j hj
      simp only [Bool.and_eq_true, beq_iff_eq, bne_iff_ne] at h1 h2
      obtain ⟨h3, h4⟩ := h1
      subst h3; subst h4
      exact ⟨j, hu, hj, h2.1, fun e => h2.2 (h2.1.trans e)⟩
    · cases h2
  · cases h1
theorem TX.fld_at {t : Nat} {l : List (Nat × Nat × Bool)} (h : D.fld.get t = some l) : ∃ fs, P.underlying t = some (.struct fs) ∧ (fs.toList.map fun f => (f.offset, (P.info? f.type).map (·.size), (P.underlying f.type).map aggB)) = l.map fun x => (x.1, some x.2.1, some x.2.2) := by
  have hb := Tre.all_get _ _ X.fldOk _ _ h
  simp only [fldsB] at hb
  split at hb
  · rename_i fs hu
    exact ⟨fs, hu, by simpa using hb⟩
  · cases hb
theorem TX.fld1 {t i off n : Nat} {ag : Bool} {l : List (Nat × Nat × Bool)} (h : D.fld.get t = some l) (hi : l[i]? = some (off, n, ag)) : ∃ fs f j d, P.underlying t = some (.struct fs) ∧ fs[i]? = some f ∧ f.offset = off ∧ P.info? f.type = some j ∧ j.size = n ∧ P.underlying f.type = some d ∧ aggB d = ag := by
  obtain ⟨fs, hu, e⟩ := X.fld_at h
  have e1 := congrArg (fun l => l[i]?) e
  simp only [List.getElem?_map, hi, Option.map_some] at e1
  cases hf : fs.toList[i]? with
  | none => rw [hf] at e1; cases e1
  | some f =>
    rw [hf] at e1
    simp only [Option.map_some, Option.some.injEq, Prod.mk.injEq] at e1
    obtain ⟨h1, h2, h3⟩ := e1
    obtain ⟨j, hj, hj'⟩ := Option.map_eq_some_iff.1 h2
    obtain ⟨d, hd, hd'⟩ := Option.map_eq_some_iff.1 h3
    exact ⟨fs, f, j, d, hu, by simpa using hf, h1, hj, hj', hd, hd'⟩
theorem TX.knd_at {t : Nat} {k : IntKind} (h : D.knd.get t = some k) : P.underlying t = some (.int k) := by
  have hb := Tre.all_get _ _ X.kndOk _ _ h
  simp only [kndB] at hb
  split at hb
  · rename_i k' hu
    rw [hu, beq_iff_eq.1 hb]
  · cases hb
theorem TX.bl_at {t : Nat} {u : Unit} (h : D.bls.get t = some u) : P.underlying t = some .bool := by
  have hb := Tre.all_get _ _ X.blOk _ _ h
  simp only [blsB] at hb
  split at hb
  · rename_i hu
    exact hu
  · cases hb
theorem TX.zer_at {t : Nat} {z : Value} (h : f2 D.zer t = some z) : ∃ i, P.info? t = some i ∧ i.zero = some z := by
  obtain ⟨i, hi, hz⟩ := Option.map_eq_some_iff.1 (zOk_at X.zerOk h)
  exact ⟨i, hi, hz⟩
end
def lk (s : Tre Value) : Operand → Option Value
  | .tmp t => s.get t
  | .const v => cond (scB v) (some v) none
  | .func f => some (.func (.func f) #[] #[])
  | .global _ => none
def lks (s : Tre Value) : List Operand → Option (List Value)
  | [] => some []
  | x :: xs => match lk s x with
    | none => none
    | some v => match lks s xs with
      | none => none
      | some vs => some (v :: vs)
section
variable {ρ : Nat → Rb} {D : Nat → Prop} {s : Tre Value} {a : Act}
theorem lk_eval (h : SR ρ D s a.tmps) {x : Operand} {v : Value} (hx : lk s x = some v) : VR ρ D v (a.eval x) := by
  cases x with
  | tmp t =>
    obtain ⟨u, hu, hr⟩ := h t v hx
    simp [Act.eval, hu]; exact hr
  | const c =>
    simp only [lk] at hx
    cases hc : scB c with
    | true => rw [hc] at hx; simp at hx; subst hx; exact .sc hc
    | false => rw [hc] at hx; simp at hx
  | func f => simp [lk] at hx; subst hx; exact .fn rfl (fun j x y h => by simp at h) rfl (fun j x y h => by simp at h)
  | global g => simp [lk] at hx
theorem lks_eval (h : SR ρ D s a.tmps) : ∀ {xs : List Operand} {vs : List Value}, lks s xs = some vs → VRs ρ D vs (xs.map a.eval)
  | [], vs, hx => by simp [lks] at hx; subst hx; exact .nil
  | x :: xs, vs, hx => by
    simp only [lks] at hx
    split at hx
    · cases hx
    · rename_i v hv
      split at hx
      · cases hx
      · rename_i us hus
        simp at hx
        subst hx
        exact .cons (lk_eval h hv) (lks_eval h hus)
end
def inK : IntKind → Int → Bool
  | .i64, .ofNat n => Nat.blt n 4611686018427387904
  | .i64, .negSucc n => Nat.blt n 4611686018427387904
  | .u64, .ofNat n => Nat.blt n 4611686018427387904
  | _, _ => false
theorem blt_iff' {a b : Nat} (h : Nat.blt a b = true) : a < b := Nat.le_of_ble_eq_true h
theorem inK_wrap {k : IntKind} {n : Int} (h : inK k n = true) : k.wrap n = n := by
  cases k <;> cases n <;> simp only [inK, reduceCtorEq] at h
  · rename_i n
    have := blt_iff' h
    rw [IntKind.wrap_i64]
    simp only [Int.ofNat_eq_natCast]
    omega
  · rename_i n
    have := blt_iff' h
    rw [IntKind.wrap_i64]
    simp only [Int.negSucc_eq]
    omega
  · rename_i n
    have := blt_iff' h
    unfold IntKind.wrap
    simp only [IntKind.bits, IntKind.signed, Bool.false_and, Bool.false_eq_true, if_false, Int.ofNat_eq_natCast]
    omega
def retI (k : IntKind) (n : Int) : Option Value := cond (inK k n) (some (.int k n)) none
theorem retI_some {k : IntKind} {n : Int} {v : Value} (h : retI k n = some v) : v = .int k (k.wrap n) := by
  unfold retI at h
  cases hb : inK k n with
  | true => rw [hb] at h; simp at h; rw [inK_wrap hb]; exact h.symm
  | false => rw [hb] at h; simp at h
def ltI (a b : Int) : Bool := decide (a < b)
def evInt (op : BinOp) (k : IntKind) (a b : Int) : Option Value :=
  match op with
  | .add => retI k (a + b)
  | .sub => retI k (a - b)
  | .mul => retI k (a * b)
  | .quo => cond (decide (b = 0)) none (retI k (a.tdiv b))
  | .rem => cond (decide (b = 0)) none (some (.int k (a.tmod b)))
  | .lss => some (.bool (decide (a < b)))
  | .leq => some (.bool (decide (a ≤ b)))
  | .gtr => some (.bool (decide (b < a)))
  | .geq => some (.bool (decide (b ≤ a)))
  | .eql => some (.bool (decide (a = b)))
  | .neq => some (.bool (!decide (a = b)))
  | _ => none
def nilB : Value → Option Bool
  | .pointer none => some true
  | .pointer (some _) => some false
  | .slice none _ _ => some true
  | .slice (some _) _ _ => some false
  | .map none => some true
  | .map (some _) => some false
  | .nilFunc => some true
  | .func _ _ _ => some false
  | _ => none
def ikq : IntKind → IntKind → Bool
  | .i64, .i64 => true
  | .u64, .u64 => true
  | .i32, .i32 => true
  | .u8, .u8 => true
  | _, _ => false
theorem ikq_eq {a b : IntKind} (h : ikq a b = true) : a = b := by cases a <;> cases b <;> first | rfl | simp [ikq] at h
def eqAgg (T : TD) (t : TypeId) (xs ys : List Value) : Option Bool :=
  match T.eqs.get t with
  | some ks => cond (kOk ks xs && kOk ks ys) (some (scqs xs ys)) none
  | none => none
def evBin (T : TD) (op : BinOp) (t : TypeId) (u v : Value) : Option Value :=
  match u, v with
  | .int k a, .int k' b => cond (ikq k k') (evInt op k a b) none
  | .agg xs, .agg ys => match op with
    | .eql => (eqAgg T t xs.toList ys.toList).map .bool
    | .neq => (eqAgg T t xs.toList ys.toList).map fun b => .bool (!b)
    | _ => none
  | .slice a _ _, .slice none 0 0 => match T.elm.get t with
    | none => none
    | some _ => match op with
      | .eql => some (.bool a.isNone)
      | .neq => some (.bool (!a.isNone))
      | _ => none
  | .bool a, .bool b => match T.bls.get t with
    | none => none
    | some _ => match op with
      | .eql => some (.bool (cond a b (!b)))
      | .neq => some (.bool (cond a (!b) b))
      | _ => none
  | _, _ => none
theorem evInt_run {P : Program} {op : BinOp} {k : IntKind} {a b : Int} {r : Value} (h : evInt op k a b = some r) (t : TypeId) (x y : Operand) (w : World) :
    (do eqGuard op t x y (.int k a) (.int k b); binOp op t (.int k a) (.int k b) : Sem Value).run P w = .ok r w := by
  cases op <;> simp only [evInt, reduceCtorEq] at h
  case add => rw [retI_some h]; simp [go_sem]
  case sub => rw [retI_some h]; simp [go_sem]
  case mul => rw [retI_some h]; simp [go_sem]
  case quo =>
    by_cases hb : b = 0
    · simp [hb] at h
    · simp only [hb, decide_false, cond_false] at h
      rw [retI_some h]; simp [go_sem, hb]
  case rem =>
    by_cases hb : b = 0
    · simp [hb] at h
    · simp only [hb, decide_false, cond_false, Option.some.injEq] at h
      subst h; simp [go_sem, hb]
  case lss => cases h; simp [go_sem]
  case leq => cases h; simp [go_sem]
  case gtr => cases h; simp [go_sem]
  case geq => cases h; simp [go_sem]
  case eql => cases h; simp only [go_sem]; simp; exact beq_dec _ _
  case neq => cases h; simp only [go_sem]; simp [bne, beq_dec]
theorem eqGuard_agg {P : Program} {op : BinOp} {t : TypeId} {x y : Operand} {xs ys : Array Value} {w : World} (h : P.eqGuardType P.depth t = false) (hop : op = .eql ∨ op = .neq) : (eqGuard op t x y (.agg xs) (.agg ys)).run P w = .ok () w := by
  rcases hop with rfl | rfl <;> simp [eqGuard, h]
theorem evBin_run {P : Program} {T : TD} (X : TX P T) {ρ : Nat → Rb} {Dm : Nat → Prop} {op : BinOp} {t : TypeId} {u v r tu tv : Value} (h : evBin T op t u v = some r) (hu : VR ρ Dm u tu) (hv : VR ρ Dm v tv) (x y : Operand) :
    scB r = true ∧ ∀ w, (do eqGuard op t x y tu tv; binOp op t tu tv : Sem Value).run P w = .ok r w := by
  unfold evBin at h
  split at h
  · rename_i k a k' b
    have e1 := hu.scal rfl
    have e2 := hv.scal rfl
    subst e1; subst e2
    cases hk : ikq k k' with
    | false => rw [hk] at h; simp at h
    | true =>
      rw [hk] at h
      simp only [cond_true] at h
      have := ikq_eq hk
      subst this
      refine ⟨?_, fun w => evInt_run h t x y w⟩
      cases op <;> simp only [evInt, reduceCtorEq] at h <;> first | (rw [retI_some h]; rfl) | (cases h; rfl) | (revert h; cases hb : decide (b = 0) <;> intro h <;> simp at h <;> first | (rw [retI_some h]; rfl) | (subst h; rfl))
  · rename_i xs ys
    obtain ⟨xs', rfl, hx⟩ := hu.agI
    obtain ⟨ys', rfl, hy⟩ := hv.agI
    have main : ∀ b, eqAgg T t xs.toList ys.toList = some b → P.eqGuardType P.depth t = false ∧ ∀ w, (Op.equal t (.agg xs') (.agg ys')).run P w = .ok b w := fun b hb => by
      unfold eqAgg at hb
      split at hb
      · rename_i ks hks
        obtain ⟨g1, g2⟩ := X.eqOk t ks hks
        cases hc : (kOk ks xs.toList && kOk ks ys.toList) with
        | false => rw [hc] at hb; simp at hb
        | true =>
          rw [hc] at hb
          simp only [Bool.and_eq_true] at hc
          simp only [cond_true, Option.some.injEq] at hb
          have e1 := hx.scals (kOk_sc hc.1)
          have e2 := hy.scals (kOk_sc hc.2)
          refine ⟨g1, fun w => ?_⟩
          have := g2 xs.toList ys.toList w hc.1 hc.2
          rw [← e1, ← e2] at this
          simp only [Array.toArray_toList] at this
          rw [this, ← hb, e1, e2]
      · cases hb
    split at h
    · obtain ⟨b, hb, rfl⟩ := Option.map_eq_some_iff.1 h
      obtain ⟨g1, g2⟩ := main b hb
      refine ⟨rfl, fun w => ?_⟩
      rw [Sem.run_bind, eqGuard_agg g1 (.inl rfl)]
      simp [binOp, g2]
    · obtain ⟨b, hb, rfl⟩ := Option.map_eq_some_iff.1 h
      obtain ⟨g1, g2⟩ := main b hb
      refine ⟨rfl, fun w => ?_⟩
      rw [Sem.run_bind, eqGuard_agg g1 (.inr rfl)]
      simp [binOp, g2]
    · cases h
  · rename_i ad n c
    have e2 := hv.scal rfl
    subst e2
    split at h
    · cases h
    rename_i p ht
    obtain ⟨e, sz, bt⟩ := p
    obtain ⟨j, hund, _⟩ := X.elm_at ht
    have main : ∀ (a' : Option Addr) (n' c' d : Nat) w, (Op.equalIn (d + 1) t (.slice a' n' c') (.slice none 0 0)).run P w = .ok a'.isNone w := fun a' n' c' d w => by
      cases a' <;> simp [Op.equalIn, run_underlying hund]
    have hs : ∃ a' n' c', tu = .slice a' n' c' ∧ a'.isNone = ad.isNone := by
      cases hu with
      | sc hc => exact ⟨_, _, _, rfl, rfl⟩
      | sl => exact ⟨_, _, _, rfl, rfl⟩
      | s0 => exact ⟨_, _, _, rfl, rfl⟩
    obtain ⟨a', n', c', rfl, hn⟩ := hs
    have hg : ∀ op w, (eqGuard op t x y (.slice a' n' c') (.slice none 0 0)).run P w = .ok () w := fun op w => by
      cases op <;> simp [eqGuard]
    split at h
    · cases h
      exact ⟨rfl, fun w => by rw [Sem.run_bind, hg]; simp only [Result.andThen_ok, binOp]; simp [Op.equal, Op.maxDepth, main a' n' c' 9999, hn]⟩
    · cases h
      exact ⟨rfl, fun w => by rw [Sem.run_bind, hg]; simp only [Result.andThen_ok, binOp]; simp [Op.equal, Op.maxDepth, main a' n' c' 9999, hn]⟩
    · cases h
  · rename_i a b
    have e1 := hu.scal rfl
    have e2 := hv.scal rfl
    subst e1; subst e2
    split at h
    · cases h
    rename_i u ht
    have hund := X.bl_at ht
    have main : ∀ (d : Nat) w, (Op.equalIn (d + 1) t (.bool a) (.bool b)).run P w = .ok (a == b) w := fun d w => by
      simp [Op.equalIn, run_underlying hund]
    have hq : ∀ w, (Op.equal t (.bool a) (.bool b)).run P w = .ok (a == b) w := fun w => by
      simp [Op.equal, Op.maxDepth, main 9999]
    have hg : ∀ op w, (eqGuard op t x y (.bool a) (.bool b)).run P w = .ok () w := fun op w => by
      cases op <;> simp [eqGuard]
    split at h
    · cases h
      refine ⟨rfl, fun w => ?_⟩
      rw [Sem.run_bind, hg]
      simp only [Result.andThen_ok, binOp, Sem.run_bind, hq, Sem.run_pure]
      cases a <;> cases b <;> rfl
    · cases h
      refine ⟨rfl, fun w => ?_⟩
      rw [Sem.run_bind, hg]
      simp only [Result.andThen_ok, binOp, Sem.run_bind, hq, Sem.run_pure]
      cases a <;> cases b <;> rfl
    · cases h
  · cases h
def spL (cs : List Value) (off : Nat) (ys : List Value) : List Value := cs.take off ++ ys ++ cs.drop (off + ys.length)
def fillL (place : Nat → Option (Nat × Nat)) : List Value → List (Nat × Value) → Option (List Value)
  | cs, [] => some cs
  | cs, (i, v) :: r => match place i with
    | none => none
    | some (off, sz) => cond (Nat.beq (cellsL v).length sz && Nat.ble (off + sz) cs.length) (fillL place (spL cs off (cellsL v)) r) none
def lkp (s : Tre Value) : List (Nat × Operand) → Option (List (Nat × Value))
  | [] => some []
  | (i, x) :: r => match lk s x with
    | none => none
    | some v => match lkp s r with
      | none => none
      | some vs => some ((i, v) :: vs)
section
variable {ρ : Nat → Rb} {Dm : Nat → Prop}
def PRs (ρ : Nat → Rb) (Dm : Nat → Prop) (xs ys : List (Nat × Value)) : Prop := xs.map (·.1) = ys.map (·.1) ∧ VRs ρ Dm (xs.map (·.2)) (ys.map (·.2))
theorem lkp_eval {s : Tre Value} {a : Act} (h : SR ρ Dm s a.tmps) : ∀ {xs : List (Nat × Operand)} {vs : List (Nat × Value)}, lkp s xs = some vs → PRs ρ Dm vs (xs.map fun p => (p.1, a.eval p.2))
  | [], vs, hx => by simp [lkp] at hx; subst hx; exact ⟨rfl, .nil⟩
  | (i, x) :: xs, vs, hx => by
    simp only [lkp] at hx
    split at hx
    · cases hx
    · rename_i v hv
      split at hx
      · cases hx
      · rename_i us hus
        simp at hx
        subst hx
        have ih := lkp_eval h hus
        exact ⟨by simpa using ih.1, .cons (lk_eval h hv) ih.2⟩
theorem fill_sound {place : Nat → Option (Nat × Nat)} : ∀ (ps : List (Nat × Value)) (cs cs' : List Value) (cells : Array Value) (tps : List (Nat × Value)), fillL place cs ps = some cs' → VRs ρ Dm cs cells.toList → PRs ρ Dm ps tps →
    ∃ cells', Instr.fill place cells tps = some cells' ∧ VRs ρ Dm cs' cells'.toList
  | [], cs, cs', cells, tps, h, hc, hp => by
    have : tps = [] := by have := hp.1; cases tps with | nil => rfl | cons a b => simp at this
    subst this
    simp [fillL] at h
    subst h
    exact ⟨cells, rfl, hc⟩
  | (i, v) :: ps, cs, cs', cells, tps, h, hc, hp => by
    cases tps with
    | nil => have := hp.1; simp at this
    | cons tp tps =>
      obtain ⟨i', tv⟩ := tp
      have h1 := hp.1
      simp only [List.map_cons, List.cons.injEq] at h1
      obtain ⟨rfl, h1⟩ := h1
      have hv : VR ρ Dm v tv := hp.2.2 0 v tv rfl rfl
      have hp' : PRs ρ Dm ps tps := ⟨h1, by have := hp.2.1; simpa using this, fun j x y hx hy => hp.2.2 (j + 1) x y (by simpa using hx) (by simpa using hy)⟩
      simp only [fillL] at h
      split at h
      · cases h
      · rename_i off sz hpl
        cases hb : (Nat.beq (cellsL v).length sz && Nat.ble (off + sz) cs.length) with
        | false => rw [hb] at h; simp at h
        | true =>
          rw [hb] at h
          simp only [cond_true] at h
          simp only [Bool.and_eq_true] at hb
          have hn := Nat.eq_of_beq_eq_true hb.1
          have hle := Nat.le_of_ble_eq_true hb.2
          have hcl := hv.cells
          have hcsl := hc.1
          have hvs : tv.cells.size = sz := by rw [← Array.length_toList, cells_toList, ← hcl.1, hn]
          have hfit : off + tv.cells.size ≤ cells.size := by rw [hvs]; simp at hcsl; omega
          have hf := fold_set off tv.cells.toList 0 cells (by simpa using hfit)
          have e0 : (Array.foldl (fun (cs : Array Value) (p : Value × Nat) => cs.setIfInBounds (off + p.2) p.1) cells tv.cells.zipIdx) = (tv.cells.toList.zipIdx 0).foldl (fun (cs : Array Value) (p : Value × Nat) => cs.setIfInBounds (off + p.2) p.1) cells := by
            rw [← Array.foldl_toList, Array.toList_zipIdx]
          have hnew : VRs ρ Dm (spL cs off (cellsL v)) ((tv.cells.toList.zipIdx 0).foldl (fun (cs : Array Value) (p : Value × Nat) => cs.setIfInBounds (off + p.2) p.1) cells).toList := by
            rw [hf]
            simp only [spL, Nat.add_zero]
            rw [cells_toList, hcl.1]
            exact ((hc.take off).append hcl).append (hc.drop _)
          obtain ⟨cells', h3, h4⟩ := fill_sound ps _ cs' _ tps h hnew hp'
          refine ⟨cells', ?_, h4⟩
          simp only [Instr.fill, hpl]
          rw [e0]
          simp only [Bool.or_eq_true, decide_eq_true_eq]
          rw [if_neg (by simp; omega)]
          exact h3
end
def plF (l : List (Nat × Nat × Bool)) (i : Nat) : Option (Nat × Nat) := (l[i]?).map fun x => (x.1, x.2.1)
def evBuild (T : TD) (s : Tre Value) (t : TypeId) (parts : List (Nat × Operand)) : Option Value :=
  match f2 T.zer t with
  | none => none
  | some z => match lkp s parts with
    | none => none
    | some ps => match T.fld.get t with
      | some l => (fillL (plF l) (cellsL z) ps).map fun cs => .agg cs.toArray
      | none => match T.arr.get t with
        | some (_, _, m) => (fillL (fun i => some (i * m, m)) (cellsL z) ps).map fun cs => .agg cs.toArray
        | none => none
theorem TX.zer_cells {P : Program} {T : TD} (X : TX P T) {t : TypeId} {z : Value} (h : f2 T.zer t = some z) : (cellsL z).all scB = true := by
  have := List.all_eq_true.1 X.zerSc _ (f2_mem h)
  cases z <;> exact this
theorem run_places' {P : Program} {w : World} : ∀ (fs : List Field) (l : List (Nat × Nat × Bool)), (fs.map fun f => (f.offset, (P.info? f.type).map (·.size), (P.underlying f.type).map aggB)) = l.map (fun x => (x.1, some x.2.1, some x.2.2)) →
    (fs.mapM fun f => (do pure (f.offset, ← sizeOf f.type) : Sem (Nat × Nat))).run P w = .ok (l.map fun x => (x.1, x.2.1)) w
  | [], [], _ => by simp
  | [], p :: l, h => by simp at h
  | f :: fs, [], h => by simp at h
  | f :: fs, p :: l, h => by
    simp only [List.map_cons, List.cons.injEq, Prod.mk.injEq] at h
    obtain ⟨⟨h1, h2, _⟩, h3⟩ := h
    obtain ⟨j, hj, hjs⟩ := Option.map_eq_some_iff.1 h2
    have ih := run_places' (w := w) fs l h3
    rw [List.mapM_cons]
    simp only [Sem.run_bind, run_sizeOf' hj, Result.andThen_ok, Sem.run_pure] at ih ⊢
    rw [ih]
    simp [h1, hjs]
section
variable {P : Program} {T : TD} (X : TX P T) {ρ : Nat → Rb} {Dm : Nat → Prop} {s : Tre Value} {a : Act} {o : Oper}
include X
theorem evBuild_run {t : TypeId} {parts : Array (Nat × Operand)} {v : Value} (h : evBuild T s t parts.toList = some v) (hs : SR ρ Dm s a.tmps) : ∃ tv, VR ρ Dm v tv ∧ ∀ w, (Instr.build t (parts.map fun (i, x) => (i, a.eval x))).run P w = .ok tv w := by
  unfold evBuild at h
  split at h
  · cases h
  rename_i z hz
  split at h
  · cases h
  rename_i ps hps
  obtain ⟨i, hi, hiz⟩ := X.zer_at hz
  have hzc : VRs ρ Dm (cellsL z) z.cells.toList := by rw [cells_toList]; exact .sc (X.zer_cells hz)
  have hp := lkp_eval hs hps
  have hmap' : (Array.map (fun x => match x with | (i, x) => (i, a.eval x)) parts) = (parts.map fun p => (p.1, a.eval p.2)) := rfl
  have hmap : (parts.map fun p => (p.1, a.eval p.2)).toList = parts.toList.map fun p => (p.1, a.eval p.2) := by simp
  split at h
  · rename_i l hl
    obtain ⟨cs, hcs, rfl⟩ := Option.map_eq_some_iff.1 h
    obtain ⟨fs, hu, he⟩ := X.fld_at hl
    have hpl : plF l = ((l.map fun x => (x.1, x.2.1)).toArray[·]?) := by funext j; simp [plF]
    obtain ⟨cells', h1, h2⟩ := fill_sound (ρ := ρ) (Dm := Dm) _ _ _ z.cells _ hcs hzc hp
    rw [hpl] at h1
    refine ⟨.agg cells', ?_, fun w => ?_⟩
    · have := VR.agL h2
      simpa using this
    have hm : (fs.mapM fun f => (do pure (f.offset, ← sizeOf f.type) : Sem (Nat × Nat))).run P w = .ok (l.map fun x => (x.1, x.2.1)).toArray w := by
      have e : fs = fs.toList.toArray := by simp
      rw [e, List.mapM_toArray, Sem.run_map]
      rw [run_places' fs.toList l he]
      rfl
    simp only [hmap', Instr.build, Sem.run_bind, zeroValue, typeInfo, run_program, hi, hiz, Result.andThen_ok, Sem.run_pure, run_underlying hu, hm, hmap, h1]
  · split at h
    · rename_i n e m ha
      obtain ⟨cs, hcs, rfl⟩ := Option.map_eq_some_iff.1 h
      obtain ⟨j, hu, hj, hjs, _⟩ := X.arr_at ha
      obtain ⟨cells', h1, h2⟩ := fill_sound (ρ := ρ) (Dm := Dm) _ _ _ z.cells _ hcs hzc hp
      refine ⟨.agg cells', ?_, fun w => ?_⟩
      · have := VR.agL h2
        simpa using this
      simp only [hmap', Instr.build, Sem.run_bind, zeroValue, typeInfo, run_program, hi, hiz, Result.andThen_ok, Sem.run_pure, run_underlying hu, run_sizeOf' hj, hjs, hmap, h1]
    · cases h
end
def partL (ag : Bool) (n : Nat) (cs : List Value) (off : Nat) : Option Value :=
  cond ag (cond (Nat.ble (off + n) cs.length) (some (.agg ((cs.drop off).take n).toArray)) none) (cs[off]?)
theorem part_run {P : Program} {ρ : Nat → Rb} {Dm : Nat → Prop} {t : TypeId} {j : TypeInfo} {d : TypeDesc} {ag : Bool} {n off : Nat} {cs : List Value} {tcs : Array Value} {v : Value} (hj : P.info? t = some j) (hn : j.size = n) (hd : P.underlying t = some d) (ha : aggB d = ag) (hc : VRs ρ Dm cs tcs.toList) (h : partL ag n cs off = some v) :
    ∃ tv, VR ρ Dm v tv ∧ ∀ w, (part t tcs off).run P w = .ok tv w := by
  unfold partL at h
  cases ag with
  | true =>
    simp only [cond_true] at h
    cases hb : Nat.ble (off + n) cs.length with
    | false => rw [hb] at h; simp at h
    | true =>
      rw [hb] at h
      simp only [cond_true, Option.some.injEq] at h
      subst h
      refine ⟨.agg (tcs.extract off (off + n)), ?_, fun w => by simp [part, run_isAgg' hd, ha, run_sizeOf' hj, hn]⟩
      have := VR.agL ((hc.drop off).take n)
      have e : tcs.extract off (off + n) = ((tcs.toList.drop off).take n).toArray := by
        apply Array.ext'
        simp [List.take_drop]
      rw [e]
      exact this
  | false =>
    simp only [cond_false] at h
    obtain ⟨tv, h1, h2⟩ := hc.get h
    refine ⟨tv, h2, fun w => ?_⟩
    have h1' : tcs[off]? = some tv := by simpa using h1
    simp [part, run_isAgg' hd, ha, h1']
def evIx (n : Nat) (i : Int) : Option Nat := match i with
  | .ofNat k => cond (Nat.blt k n) (some k) none
  | .negSucc _ => none
theorem evIx_spec {n k : Nat} {i : Int} (h : evIx n i = some k) : 0 ≤ i ∧ i < n ∧ i.toNat = k := by
  unfold evIx at h
  split at h
  · rename_i j
    cases hb : Nat.blt j n with
    | false => rw [hb] at h; simp at h
    | true =>
      rw [hb] at h
      simp at h
      subst h
      have := blt_iff' hb
      refine ⟨?_, ?_, ?_⟩ <;> simp <;> omega
  · cases h
def evBd (x : Option Operand) (s : Tre Value) (n d : Nat) : Option Nat := match x with
  | none => some d
  | some x => match lk s x with
    | some (.int _ i) => evIx (n + 1) i
    | _ => none
def evSlice (T : TD) (m : Tre MO) (s : Tre Value) (t : TypeId) (x : Operand) (lo hi mx : Option Operand) : Option Value :=
  match lk s x with
  | some (.slice (some ⟨i, o, none⟩) n 1) => match T.elm.get t with
    | none => none
    | some (_, sz, _) => match m.get i with
      | some (.cl _ sz' _ _) => cond (Nat.beq sz sz') (match mx with
        | none => match evBd hi s n n with
          | none => none
          | some h => match evBd lo s h 0 with
            | none => none
            | some l => cond (Nat.beq l 0 || Nat.blt l n) (some (.slice (some ⟨i, o + l * sz, none⟩) (h - l) 1)) none
        | some mx => match evBd (some mx) s n n with
          | some 0 => match evBd hi s 0 0 with
            | none => none
            | some _ => match evBd lo s 0 0 with
              | none => none
              | some _ => cond hi.isSome (some (.slice (some ⟨i, o, none⟩) 0 0)) none
          | _ => none) none
      | _ => none
  | some (.slice none 0 0) => match T.elm.get t with
    | none => none
    | some _ => match evBd mx s 0 0 with
      | none => none
      | some _ => match evBd hi s 0 0 with
        | none => none
        | some _ => match evBd lo s 0 0 with
          | none => none
          | some _ => cond (hi.isSome || mx.isNone) (some (.slice none 0 0)) none
  | some (.pointer (some ⟨i, 0, none⟩)) => match T.arr.get t with
    | some (n, _, 1) => match m.get i with
      | some (.cl _ 1 true cs) => cond (Nat.beq cs.length n && lo.isNone && hi.isNone && mx.isNone && Nat.blt 0 n) (some (.slice (some ⟨i, 0, none⟩) n 1)) none
      | _ => none
    | _ => none
  | _ => none
theorem evBd_some {ρ : Nat → Rb} {Dm : Nat → Prop} {s : Tre Value} {a : Act} (hs : SR ρ Dm s a.tmps) {x : Operand} {n d r : Nat} (h : evBd (some x) s n d = some r) : ∃ k i, a.eval x = .int k i ∧ 0 ≤ i ∧ i ≤ n ∧ i.toNat = r := by
  unfold evBd at h
  simp only at h
  split at h
  · rename_i k i hx
    obtain ⟨h1, h2, h3⟩ := evIx_spec h
    exact ⟨k, i, (lk_eval hs hx).scal rfl, h1, by omega, h3⟩
  · cases h
theorem bound_run {P : Program} {k : IntKind} {i : Int} {y : Nat} {c : BoundsCode} (h0 : 0 ≤ i) (h1 : i ≤ y) (w : World) : (Instr.sliceBound (.int k i) y c).run P w = .ok i.toNat w := by
  simp [Instr.sliceBound, asIntOf, h0, h1]
section
variable {P : Program} {T : TD} (X : TX P T) {ρ : Nat → Rb} {m : Tre MO} {s : Tre Value} {a : Act} {w0 : W0} {w1 : World}
theorem bounds_run {isS : Bool} {n c d0 : Nat} {lo hi : Option Operand} {h l : Nat} (hs : SR ρ (dom m) s a.tmps) (hn : n ≤ c) (hh : evBd hi s n n = some h) (hl : evBd lo s h 0 = some l) (w : World) :
    (Instr.sliceBounds isS n c (lo.map a.eval) (hi.map a.eval) none).run P w = .ok (l, h, c) w ∧ l ≤ h ∧ h ≤ n := by
  have hhn : h ≤ n := by
    cases hi with
    | none => simp [evBd] at hh; omega
    | some x => obtain ⟨k, i, _, h1, h2, h3⟩ := evBd_some hs hh; omega
  have hlh : l ≤ h := by
    cases lo with
    | none => simp [evBd] at hl; omega
    | some x => obtain ⟨k, i, _, h1, h2, h3⟩ := evBd_some hs hl; omega
  refine ⟨?_, hlh, hhn⟩
  have H : (match hi.map a.eval with | some v => Instr.sliceBound v c (if isS then .sliceAcap else .sliceAlen) | none => pure n : Sem Nat).run P w = .ok h w := by
    cases hi with
    | none => simp [evBd] at hh; subst hh; simp
    | some x =>
      obtain ⟨k, i, e, h1, h2, h3⟩ := evBd_some hs hh
      simp only [Option.map_some, e]
      rw [bound_run h1 (by omega), h3]
  have L : (match lo.map a.eval with | some v => Instr.sliceBound v h .sliceB | none => pure 0 : Sem Nat).run P w = .ok l w := by
    cases lo with
    | none => simp [evBd] at hl; subst hl; simp
    | some x =>
      obtain ⟨k, i, e, h1, h2, h3⟩ := evBd_some hs hl
      simp only [Option.map_some, e]
      rw [bound_run h1 (by omega), h3]
  cases hi with
  | none =>
    simp [evBd] at hh
    subst hh
    cases lo with
    | none => simp [evBd] at hl; subst hl; simp [Instr.sliceBounds]
    | some y =>
      simp only [Option.map_some] at L
      simp [Instr.sliceBounds, L]
  | some x =>
    simp only [Option.map_some] at H
    cases lo with
    | none => simp [evBd] at hl; subst hl; simp [Instr.sliceBounds, H]
    | some y =>
      simp only [Option.map_some] at L
      simp [Instr.sliceBounds, H, L]
theorem bounds_max0 {isS : Bool} {n c d e1 : Nat} {lo hi : Option Operand} {mx : Operand} {h l : Nat} (hs : SR ρ (dom m) s a.tmps) (hn : n ≤ c) (hm : evBd (some mx) s n d = some 0) (hh : evBd hi s 0 0 = some h) (hl : evBd lo s 0 0 = some l) (hi' : hi.isSome = true) (w : World) :
    (Instr.sliceBounds isS n c (lo.map a.eval) (hi.map a.eval) (some (a.eval mx))).run P w = .ok (0, 0, 0) w := by
  obtain ⟨k, i, e, h1, h2, h3⟩ := evBd_some hs hm
  have M : ∀ cd, (Instr.sliceBound (a.eval mx) c cd).run P w = .ok 0 w := fun cd => by rw [e, bound_run h1 (by omega), h3]
  cases hi with
  | none => simp at hi'
  | some x =>
    obtain ⟨k2, i2, e2, g1, g2, g3⟩ := evBd_some hs hh
    have i20 : i2 = 0 := by omega
    subst i20
    have H : ∀ cd, (Instr.sliceBound (a.eval x) 0 cd).run P w = .ok 0 w := fun cd => by rw [e2, bound_run (by omega) (by omega)]; rfl
    cases lo with
    | none => simp [Instr.sliceBounds, M, H]
    | some y =>
      obtain ⟨k3, i3, e3, g1, g2, g3⟩ := evBd_some hs hl
      have i30 : i3 = 0 := by omega
      subst i30
      have L : ∀ cd, (Instr.sliceBound (a.eval y) 0 cd).run P w = .ok 0 w := fun cd => by rw [e3, bound_run (by omega) (by omega)]; rfl
      simp [Instr.sliceBounds, M, H, L]
include X
theorem evSlice_run {t : TypeId} {x : Operand} {lo hi mx : Option Operand} {v : Value} (h : evSlice T m s t x lo hi mx = some v) (hM : MS w0 ρ m w1) (hs : SR ρ (dom m) s a.tmps) :
    ∃ tv, VR ρ (dom m) v tv ∧ ∀ w, (Instr.sliceAt t (a.eval x) (lo.map a.eval) (hi.map a.eval) (mx.map a.eval)).run P w = .ok tv w := by
  unfold evSlice at h
  split at h
  · rename_i i o n hx
    split at h
    · cases h
    rename_i e sz bt ht
    obtain ⟨j, hund, hj, hjs, hjb, hne⟩ := X.elm_at ht
    split at h
    · rename_i T' sz' ex cs hmi
      obtain ⟨xs, _, _, hsz, _⟩ := hM.obj _ _ hmi
      have hxv := lk_eval hs hx
      generalize a.eval x = xv at *
      cases hb : Nat.beq sz sz' with
      | false => rw [hb] at h; simp at h
      | true =>
        rw [hb] at h
        simp only [cond_true] at h
        have hsz' := Nat.eq_of_beq_eq_true hb
        cases hxv with
        | sc hc => simp [scB] at hc
        | @sl _ _ l0 _ hD hz ho hn =>
          split at h
          · split at h
            · cases h
            rename_i hh hhe
            split at h
            · cases h
            rename_i l hle
            cases hc : (Nat.beq l 0 || Nat.blt l n) with
            | false => rw [hc] at h; simp at h
            | true =>
              rw [hc] at h
              simp only [cond_true, Option.some.injEq] at h
              subst h
              have hb := fun w => bounds_run (P := P) (isS := true) (d0 := 0) (c := (ρ i).κ - l0) hs (by omega) hhe hle w
              obtain ⟨_, h1, h2⟩ := hb w1
              have hcl : l = 0 ∨ l < n := by
                simp only [Bool.or_eq_true] at hc
                exact hc.imp Nat.eq_of_beq_eq_true blt_iff'
              refine ⟨.slice (some ⟨(ρ i).b, o + l * sz, none⟩) (hh - l) ((ρ i).κ - (l0 + l)), ?_, fun w => ?_⟩
              · refine .sl hD hz ?_ (by omega)
                rw [ho, hsz', ← hsz, Nat.add_mul]
              · have hif : (if (ρ i).κ - l0 = l then (some ⟨(ρ i).b, o, none⟩ : Option Addr) else (some (⟨(ρ i).b, o, none⟩ : Addr)).map (·.add (l * sz))) = some ⟨(ρ i).b, o + l * sz, none⟩ := by
                  split
                  · rename_i he
                    have : l = 0 := by omega
                    subst this
                    simp
                  · simp [Addr.add_lit]
                simp only [Instr.sliceAt, Sem.run_bind, run_underlying hund, Result.andThen_ok, Instr.slice, (hb w).1, Option.map_none, run_sizeOf' hj, hjs, Sem.run_pure, hif]
                congr 2
                omega
          · rename_i mxo
            split at h
            · rename_i hm0
              split at h
              · cases h
              rename_i hh hhe
              split at h
              · cases h
              rename_i l hle
              cases hc : hi.isSome with
              | false => rw [hc] at h; simp at h
              | true =>
                rw [hc] at h
                simp only [cond_true, Option.some.injEq] at h
                subst h
                refine ⟨_, .s0 hD, fun w => ?_⟩
                have hb := bounds_max0 (P := P) (isS := true) (e1 := 0) (c := (ρ i).κ - l0) hs (by omega) hm0 hhe hle hc w
                simp [Instr.sliceAt, Sem.run_bind, run_underlying hund, Instr.slice, hb, run_sizeOf' hj, hjs]
            · cases h
    · cases h
  · rename_i hx
    split at h
    · cases h
    rename_i p ht
    obtain ⟨e, sz, bt⟩ := p
    obtain ⟨j, hund, hj, hjs, hjb, hne⟩ := X.elm_at ht
    have hxv := (lk_eval hs hx).scal rfl
    split at h
    · cases h
    rename_i mm hmm
    split at h
    · cases h
    rename_i hh hhe
    split at h
    · cases h
    rename_i l hle
    cases hc : (hi.isSome || mx.isNone) with
    | false => rw [hc] at h; simp at h
    | true =>
      rw [hc] at h
      simp only [cond_true, Option.some.injEq] at h
      subst h
      refine ⟨_, .sc rfl, fun w => ?_⟩
      cases mx with
      | none =>
        have hb := (bounds_run (P := P) (isS := true) (d0 := 0) (n := 0) (c := 0) hs (Nat.le_refl _) hhe (by
          have : hh = 0 := by
            cases hi with
            | none => simp [evBd] at hhe; omega
            | some y => obtain ⟨k, i, _, _, _, _⟩ := evBd_some hs hhe; omega
          rw [this]; exact hle) w)
        have hl0 : l = 0 ∧ hh = 0 := by omega
        obtain ⟨rfl, rfl⟩ := hl0
        simp [Instr.sliceAt, Sem.run_bind, run_underlying hund, Instr.slice, hxv, hb.1, run_sizeOf' hj, hjs]
      | some y =>
        simp only [Option.isNone_some, Bool.or_false] at hc
        have hmm0 : mm = 0 := by obtain ⟨k, i, _, _, _, _⟩ := evBd_some hs hmm; omega
        subst hmm0
        have hb := bounds_max0 (P := P) (isS := true) (e1 := 0) (n := 0) (c := 0) hs (Nat.le_refl _) hmm hhe hle hc w
        simp [Instr.sliceAt, Sem.run_bind, run_underlying hund, Instr.slice, hxv, hb, run_sizeOf' hj, hjs]
  · rename_i i hx
    split at h
    · rename_i n e ha
      obtain ⟨j, hund, hj, hjs, hne⟩ := X.arr_at ha
      split at h
      · rename_i T' cs hmi
        obtain ⟨xs, _, hk, hsz, _, _, hle, hex, _⟩ := hM.obj _ _ hmi
        cases hc : (Nat.beq cs.length n && lo.isNone && hi.isNone && mx.isNone && Nat.blt 0 n) with
        | false => rw [hc] at h; simp at h
        | true =>
          rw [hc] at h
          simp only [cond_true, Option.some.injEq] at h
          subst h
          simp only [Bool.and_eq_true, Option.isNone_iff_eq_none] at hc
          obtain ⟨⟨⟨⟨c1, rfl⟩, rfl⟩, rfl⟩, c5⟩ := hc
          have c1 := Nat.eq_of_beq_eq_true c1
          have c5 := blt_iff' c5
          have hxv := lk_eval hs hx
          generalize a.eval x = xv at *
          have hkn : (ρ i).κ = n := by rw [hsz, Nat.mul_one] at hk; rw [← hk, ← hex rfl, c1]
          cases hxv with
          | sc hc => simp [scB] at hc
          | ptr hD =>
            refine ⟨.slice (some ⟨(ρ i).b, 0, none⟩) n ((ρ i).κ - 0), .sl (l := 0) hD (by omega) (by simp) (by omega), fun w => ?_⟩
            obtain ⟨n, rfl⟩ : ∃ k, n = k + 1 := ⟨n - 1, by omega⟩
            simp [Instr.sliceAt, Instr.sureAddr, Sem.run_bind, run_underlying hund, Instr.sliceBounds, run_sizeOf' hj, hjs, hkn, Addr.add_lit]
      · cases h
    · cases h
  · cases h
end
def evB (T : TD) (b : Builtin) (vs : List Value) (ts : List TypeId) : Option Value :=
  match b, vs, ts with
  | .len, [.slice _ n _], [t] => match T.elm.get t with | some _ => some (.int .i64 n) | none => none
  | .max, [.int k a, .int k' b], _ => cond (ikq k k') (some (.int k (cond (decide (a < b)) b a))) none
  | .min, [.int k a, .int k' b], _ => cond (ikq k k') (some (.int k (cond (decide (b < a)) b a))) none
  | _, _, _ => none
def ePpick (s : Tre Value) (c a b : Operand) : Option Value := match lk s c with
  | some (.bool t) => cond t (lk s a) (lk s b)
  | _ => none
def ePnil (s : Tre Value) (x : Operand) : Option Value := match lk s x with
  | some (.pointer (some ⟨j, o, none⟩)) => some (.pointer (some ⟨j, o, none⟩))
  | _ => none
def ePbin (T : TD) (s : Tre Value) (op : BinOp) (t : TypeId) (x y : Operand) : Option Value := match lk s x with
  | none => none
  | some u => match lk s y with
    | none => none
    | some v => evBin T op t u v
def ePun (s : Tre Value) (op : UnOp) (x : Operand) : Option Value := match op, lk s x with
  | .not, some (.bool b) => some (.bool (!b))
  | .neg, some (.int k n) => retI k (0 - n)
  | _, _ => none
def ePconv (T : TD) (s : Tre Value) (src dst : TypeId) (x : Operand) : Option Value := match lk s x, T.knd.get src, T.knd.get dst with
  | some (.int _ n), some _, some k' => retI k' n
  | _, _, _ => none
def ePfun (s : Tre Value) (fn : Fn) (first captured : Array Operand) : Option Value := match fn with
  | .func f => match lks s first.toList with
    | none => none
    | some xs => match lks s captured.toList with
      | none => none
      | some ys => some (.func (.func f) xs.toArray ys.toArray)
  | _ => none
def ePfa (T : TD) (s : Tre Value) (t : TypeId) (x : Operand) (i : Nat) : Option Value := match lk s x with
  | some (.pointer (some ⟨j, o, none⟩)) => match T.fld.get t with
    | none => none
    | some l => match l[i]? with
      | none => none
      | some (off, n, _) => cond (Nat.beq n 0) none (some (.pointer (some ⟨j, o + off, none⟩)))
  | _ => none
def ePfld (T : TD) (s : Tre Value) (t : TypeId) (x : Operand) (i : Nat) : Option Value := match lk s x with
  | some (.agg cs) => match T.fld.get t with
    | none => none
    | some l => match l[i]? with
      | none => none
      | some (off, n, ag) => partL ag n cs.toList off
  | _ => none
def ePia (T : TD) (s : Tre Value) (t : TypeId) (x y : Operand) : Option Value := match lk s y with
  | some (.int _ i) => match lk s x with
    | some (.slice (some ⟨j, o, none⟩) n _) => match T.elm.get t with
      | none => none
      | some (_, sz, _) => match evIx n i with
        | none => none
        | some k => some (.pointer (some ⟨j, o + k * sz, none⟩))
    | some (.pointer (some ⟨j, o, none⟩)) => match T.arr.get t with
      | none => none
      | some (n, _, sz) => match evIx n i with
        | none => none
        | some k => some (.pointer (some ⟨j, o + k * sz, none⟩))
    | _ => none
  | _ => none
def ePix (T : TD) (s : Tre Value) (t : TypeId) (x y : Operand) : Option Value := match lk s y with
  | some (.int _ i) => match lk s x with
    | some (.agg cs) => match T.arr.get t with
      | none => none
      | some (n, e, sz) => match T.siz.get e with
        | none => none
        | some (n', ag) => match evIx n i with
          | none => none
          | some k => partL ag n' cs.toList (k * sz)
    | _ => none
  | _ => none
def ePex (s : Tre Value) (x : Operand) (i : Nat) : Option Value := match lk s x with
  | some (.tuple vs) => vs.toList[i]?
  | _ => none
def ePcall (T : TD) (s : Tre Value) (c : Call) : Option Value := match c with
  | { callee := .builtin b, args := xs, argTypes := ts } => match lks s xs.toList with
    | none => none
    | some vs => evB T b vs ts.toList
  | _ => none
def evP (T : TD) (m : Tre MO) (s : Tre Value) : Op → Option Value
  | .move x => lk s x
  | .assign x => lk s x
  | .pick c a b => ePpick s c a b
  | .nilCheck x => ePnil s x
  | .binOp op t x y _ => ePbin T s op t x y
  | .unOp op _ x => ePun s op x
  | .convert src dst x => ePconv T s src dst x
  | .makeFunc fn first captured => ePfun s fn first captured
  | .build t parts => evBuild T s t parts.toList
  | .slice t x lo hi mx => evSlice T m s t x lo hi mx
  | .fieldAddr t x i => ePfa T s t x i
  | .field t x i => ePfld T s t x i
  | .indexAddr t x y => ePia T s t x y
  | .index t x y => ePix T s t x y
  | .extract x i => ePex s x i
  | .call c => ePcall T s c
  | _ => none
theorem arr1 {α : Type} {a : Array α} {x : α} (h : a.toList = [x]) : a = #[x] := by apply Array.ext'; simpa using h
theorem VRs.one {ρ : Nat → Rb} {D : Nat → Prop} {x : Value} {vs : List Value} (h : VRs ρ D [x] vs) : ∃ v, vs = [v] ∧ VR ρ D x v := by
  match vs, h.1 with
  | [v], _ => exact ⟨v, rfl, h.2 0 x v rfl rfl⟩
theorem VRs.two {ρ : Nat → Rb} {D : Nat → Prop} {x y : Value} {vs : List Value} (h : VRs ρ D [x, y] vs) : ∃ v u, vs = [v, u] ∧ VR ρ D x v ∧ VR ρ D y u := by
  match vs, h.1 with
  | [v, u], _ => exact ⟨v, u, rfl, h.2 0 x v rfl rfl, h.2 1 y u rfl rfl⟩
section
variable {P : Program} {T : TD} (X : TX P T) {ρ : Nat → Rb} {m : Tre MO} {s : Tre Value} {a : Act} {w0 : W0} {w1 : World} {o : Oper}
include X
theorem evB_run {b : Builtin} {vs : List Value} {xs : Array Operand} {ts : Array TypeId} {v : Value} (h : evB T b vs ts.toList = some v) {ty : TypeId} {cb : Array Bool} (hv : VRs ρ (dom m) vs (xs.toList.map a.eval)) :
    ∃ tv, VR ρ (dom m) v tv ∧ ∀ w, (builtin b ts ty cb (xs.map a.eval)).run P w = .ok (.value tv) w := by
  have hxs : xs.map a.eval = (xs.toList.map a.eval).toArray := by rw [← Array.toList_map]
  rw [hxs]
  generalize xs.toList.map a.eval = us at *
  unfold evB at h
  split at h
  · rename_i ad n c t heq
    split at h
    · rename_i p ht
      obtain ⟨e, sz, bt⟩ := p
      obtain ⟨j, hund, _⟩ := X.elm_at ht
      cases h
      obtain ⟨u, rfl, hu⟩ := hv.one
      have := arr1 heq
      subst this
      refine ⟨_, .sc rfl, fun w => ?_⟩
      cases hu <;> simp [builtin, Builtin.len_, run_underlying hund, goInt]
    · cases h
  · rename_i k x k' y
    cases hk : ikq k k' with
    | false => rw [hk] at h; simp at h
    | true =>
      rw [hk] at h
      have := ikq_eq hk
      subst this
      obtain ⟨u, u', rfl, h1, h2⟩ := hv.two
      have e1 := h1.scal rfl
      have e2 := h2.scal rfl
      subst e1; subst e2
      simp only [cond_true, Option.some.injEq] at h
      subst h
      refine ⟨_, .sc rfl, fun w => ?_⟩
      by_cases hlt : x < y <;> simp [builtin, Builtin.max_, Builtin.max2, hlt]
  · rename_i k x k' y
    cases hk : ikq k k' with
    | false => rw [hk] at h; simp at h
    | true =>
      rw [hk] at h
      have := ikq_eq hk
      subst this
      obtain ⟨u, u', rfl, h1, h2⟩ := hv.two
      have e1 := h1.scal rfl
      have e2 := h2.scal rfl
      subst e1; subst e2
      simp only [cond_true, Option.some.injEq] at h
      subst h
      refine ⟨_, .sc rfl, fun w => ?_⟩
      by_cases hlt : y < x <;> simp [builtin, Builtin.min_, Builtin.min2, hlt]
  · cases h
theorem evP_run {v : Value} (h : evP T m s o.op = some v) (hM : MS w0 ρ m w1) (hs : SR ρ (dom m) s a.tmps) : ∃ tv, VR ρ (dom m) v tv ∧ ∀ w, (execOp a.eval o).run P w = .ok (.value tv) w := by
  cases ho : o.op <;> rw [ho] at h <;> simp only [evP, reduceCtorEq] at h
  case move x => exact ⟨_, lk_eval hs h, fun w => by simp only [execOp, ho]; rfl⟩
  case assign x => exact ⟨_, lk_eval hs h, fun w => by simp only [execOp, ho]; rfl⟩
  case pick c x y =>
    unfold ePpick at h
    split at h
    · rename_i t hc
      have e := (lk_eval hs hc).scal rfl
      cases t with
      | true => exact ⟨_, lk_eval hs h, fun w => by simp only [execOp, ho, e]; rfl⟩
      | false => exact ⟨_, lk_eval hs h, fun w => by simp only [execOp, ho, e]; rfl⟩
    · cases h
  case nilCheck x =>
    unfold ePnil at h
    split at h
    · rename_i j o' hx
      cases h
      have hv := lk_eval hs hx
      refine ⟨_, hv, fun w => ?_⟩
      generalize hxe : a.eval x = xv at *
      cases hv with
      | sc hc => simp [scB] at hc
      | ptr hD => simp [execOp, ho, hxe]
    · cases h
  case binOp op t x y t' =>
    unfold ePbin at h
    split at h
    · cases h
    rename_i u hu
    split at h
    · cases h
    rename_i v' hv
    obtain ⟨h1, h2⟩ := evBin_run X h (lk_eval hs hu) (lk_eval hs hv) x y
    exact ⟨_, .sc h1, fun w => by
      simp only [execOp, ho]
      rw [Sem.run_bind, h2 w]
      rfl⟩
  case unOp op t x =>
    unfold ePun at h
    split at h
    · rename_i b hx
      cases h
      have e := (lk_eval hs hx).scal rfl
      exact ⟨_, .sc rfl, fun w => by simp [execOp, ho, e, Op.unary]⟩
    · rename_i k n hx
      rw [retI_some h]
      have e := (lk_eval hs hx).scal rfl
      have hr : ∀ w, (Op.unary .neg (.int k n)).run P w = .ok (.int k (k.wrap (0 - n))) w := fun w => by simp [Op.unary, go_sem]
      exact ⟨_, .sc rfl, fun w => by simp only [execOp, ho, e, Sem.run_bind, hr]; rfl⟩
    · cases h
  case convert src dst x =>
    unfold ePconv at h
    split at h
    · rename_i k n k1 k' hx h1 h2
      rw [retI_some h]
      have e := (lk_eval hs hx).scal rfl
      exact ⟨_, .sc rfl, fun w => by simp [execOp, ho, e, convert, run_underlying (X.knd_at h1), run_underlying (X.knd_at h2), Conv.intToInt]⟩
    · cases h
  case makeFunc fn first captured =>
    unfold ePfun at h
    split at h
    · rename_i f
      split at h
      · cases h
      rename_i xs hxs
      split at h
      · cases h
      rename_i ys hys
      cases h
      have h1 := lks_eval hs hxs
      have h2 := lks_eval hs hys
      refine ⟨.func (.func f) (first.map a.eval) (captured.map a.eval), ?_, fun w => by simp [execOp, ho, Instr.makeFunc]⟩
      refine .fn (by simpa using h1.1) (fun j x y hx hy => ?_) (by simpa using h2.1) (fun j x y hx hy => ?_)
      · exact h1.2 j x y (by simpa using hx) (by simpa using hy)
      · exact h2.2 j x y (by simpa using hx) (by simpa using hy)
    · cases h
  case build t parts =>
    obtain ⟨tv, h1, h2⟩ := evBuild_run X h hs
    exact ⟨tv, h1, fun w => by simp only [execOp, ho, Sem.run_bind, h2 w]; rfl⟩
  case slice t x lo hi mx =>
    obtain ⟨tv, h1, h2⟩ := evSlice_run X h hM hs
    exact ⟨tv, h1, fun w => by simp only [execOp, ho, Sem.run_bind, h2 w]; rfl⟩
  case fieldAddr t x i =>
    unfold ePfa at h
    split at h
    · rename_i j o' hx
      split at h
      · cases h
      rename_i l hl
      split at h
      · cases h
      rename_i off n ag hi
      cases hb : Nat.beq n 0 with
      | true => rw [hb] at h; simp at h
      | false =>
        rw [hb] at h
        simp only [cond_false, Option.some.injEq] at h
        subst h
        obtain ⟨fs, f, jj, d, hu, hf, hoff, hj, hjs, hd, hag⟩ := X.fld1 hl hi
        have hn : n ≠ 0 := fun e => by subst e; simp at hb
        have hv := lk_eval hs hx
        generalize hxe : a.eval x = xv at *
        cases hv with
        | sc hc => simp [scB] at hc
        | ptr hD => exact ⟨_, .ptr hD, fun w => by simp [execOp, ho, hxe, Instr.fieldAt, run_underlying hu, hf, Instr.sureAddr, fieldPlace, run_sizeOf' hj, hjs, hn, hoff, Addr.add_lit]⟩
    · cases h
  case field t x i =>
    unfold ePfld at h
    split at h
    · rename_i cs hx
      split at h
      · cases h
      rename_i l hl
      split at h
      · cases h
      rename_i off n ag hi
      obtain ⟨fs, f, jj, d, hu, hf, hoff, hj, hjs, hd, hag⟩ := X.fld1 hl hi
      obtain ⟨tcs, e, hc⟩ := (lk_eval hs hx).agI
      obtain ⟨tv, h1, h2⟩ := part_run hj hjs hd hag hc h
      exact ⟨tv, h1, fun w => by simp [execOp, ho, e, Instr.field, run_underlying hu, hf, asAgg, hoff, h2]⟩
    · cases h
  case indexAddr t x y =>
    unfold ePia at h
    split at h
    · rename_i k i hy
      have ey := (lk_eval hs hy).scal rfl
      split at h
      · rename_i j o' n c hx
        split at h
        · cases h
        rename_i e sz bt ht
        obtain ⟨jj, hund, hj, hjs, _, hne⟩ := X.elm_at ht
        split at h
        · cases h
        rename_i kk hkk
        cases h
        obtain ⟨h0, h1, h2⟩ := evIx_spec hkk
        have hv := lk_eval hs hx
        generalize hxe : a.eval x = xv at *
        cases hv with
        | sc hc => simp [scB] at hc
        | sl hD hz hoo hn => exact ⟨_, .ptr hD, fun w => by simp [execOp, ho, hxe, ey, Instr.indexAt, asIntOf, run_underlying hund, run_sizeOf' hj, h0, h1, hjs, h2, Addr.add_lit]⟩
        | s0 hD => exact absurd h1 (by omega)
      · rename_i j o' hx
        split at h
        · cases h
        rename_i n e sz ht
        obtain ⟨jj, hund, hj, hjs, hne⟩ := X.arr_at ht
        split at h
        · cases h
        rename_i kk hkk
        cases h
        obtain ⟨h0, h1, h2⟩ := evIx_spec hkk
        have hv := lk_eval hs hx
        generalize hxe : a.eval x = xv at *
        cases hv with
        | sc hc => simp [scB] at hc
        | ptr hD => exact ⟨_, .ptr hD, fun w => by simp [execOp, ho, hxe, ey, Instr.indexAt, asIntOf, run_underlying hund, run_sizeOf' hj, h0, h1, hjs, h2, Addr.add_lit, Instr.sureAddr]⟩
      · cases h
    · cases h
  case index t x y =>
    unfold ePix at h
    split at h
    · rename_i k i hy
      have ey := (lk_eval hs hy).scal rfl
      split at h
      · rename_i cs hx
        split at h
        · cases h
        rename_i n e sz ht
        obtain ⟨jj, hund, hj, hjs, hne⟩ := X.arr_at ht
        split at h
        · cases h
        rename_i n' ag hsz
        obtain ⟨j2, d, hj2, hjn, hne2, hd, hag⟩ := X.siz_at hsz
        split at h
        · cases h
        rename_i kk hkk
        obtain ⟨h0, h1, h2⟩ := evIx_spec hkk
        obtain ⟨tcs, e1, hc⟩ := (lk_eval hs hx).agI
        obtain ⟨tv, g1, g2⟩ := part_run hj2 hjn hd hag hc h
        exact ⟨tv, g1, fun w => by simp [execOp, ho, e1, ey, Instr.index, asIntOf, run_underlying hund, h0, h1, h2, run_sizeOf' hj, hjs, g2]⟩
      · cases h
    · cases h
  case extract x i =>
    unfold ePex at h
    split at h
    · rename_i vs hx
      obtain ⟨us, e, hu⟩ := (lk_eval hs hx).tuI
      obtain ⟨tv, h1, h2⟩ := hu.get h
      have h1' : us[i]? = some tv := by simpa using h1
      exact ⟨tv, h2, fun w => by simp [execOp, ho, e, Instr.extract, h1']⟩
    · cases h
  case call c =>
    obtain ⟨callee, xs, ts⟩ := c
    cases callee with
    | builtin b =>
      simp only [ePcall] at h
      split at h
      · cases h
      rename_i vs hvs
      have h1 := lks_eval hs hvs
      obtain ⟨tv, g1, g2⟩ := evB_run X h (ty := o.type) (cb := xs.map fun | .const _ => true | _ => false) h1
      refine ⟨tv, g1, fun w => ?_⟩
      have := g2 w
      simp only [execOp, ho, resolve, Sem.run_bind, Sem.run_pure, Result.andThen_ok, invoke]
      exact this
    | value f => simp [ePcall] at h
    | invoke r mth => simp [ePcall] at h
end
end
end Go.Ev
end
section
namespace Go.Ev
open Go Go.RowKit Go.Tl
set_option linter.unusedVariables false
set_option linter.unusedSimpArgs false
noncomputable section
structure MP where
  kk : Option (List Bool)
  z : Value
  deriving Inhabited
def findM (k : Value) : List (Value × Value × Nat) → Nat → Option (Nat × Value × Nat)
  | [], _ => none
  | (k', v, n) :: r, i => cond (keyEq k k') (some (i, v, n)) (findM k r (i + 1))
def findE (k : Value) : List MapEntry → Nat → Option (Nat × Value)
  | [], _ => none
  | e :: es, i => cond (keyEq k e.key) (some (i, e.val)) (findE k es (i + 1))
def MX (P : Program) (t : TypeId) (p : MP) : Prop := ∃ kt vt, P.underlying t = some (.map kt vt) ∧ (cellsL p.z).all scB = true ∧ (∀ w, (zeroValue vt).run P w = .ok p.z w) ∧
  (∀ e k w, keyOk p.kk k = true → (Instr.checkKey e 10000 kt k).run P w = .ok () w) ∧ (∀ k (es : List MapEntry) w, keyOk p.kk k = true → (∀ e ∈ es, keyOk p.kk e.key = true) → (Instr.findKey kt k es).run P w = .ok (findE k es 0) w)
def blq : List Bool → List Bool → Bool
  | [], [] => true
  | true :: a, true :: b => blq a b
  | false :: a, false :: b => blq a b
  | _, _ => false
theorem blq_eq : ∀ {a b : List Bool}, blq a b = true → a = b
  | [], [], _ => rfl
  | true :: a, true :: b, h => by rw [blq_eq (a := a) (b := b) h]
  | false :: a, false :: b, h => by rw [blq_eq (a := a) (b := b) h]
  | [], _ :: _, h => by simp [blq] at h
  | true :: _, [], h => by simp [blq] at h
  | false :: _, [], h => by simp [blq] at h
  | true :: _, false :: _, h => by simp [blq] at h
  | false :: _, true :: _, h => by simp [blq] at h
def kkq : Option (List Bool) → Option (List Bool) → Bool
  | none, none => true
  | some a, some b => blq a b
  | _, _ => false
theorem kkq_eq {a b : Option (List Bool)} (h : kkq a b = true) : a = b := by
  cases a <;> cases b <;> simp only [kkq, Bool.false_eq_true] at h
  · rfl
  · rw [blq_eq h]
theorem keyOk_val {ρ : Nat → Rb} {D : Nat → Prop} {kk : Option (List Bool)} {k v : Value} (h : keyOk kk k = true) (hv : VR ρ D k v) : v = k := by
  cases k with
  | agg cs =>
    obtain ⟨vs, rfl, hc⟩ := hv.agI
    cases kk with
    | none => simp [keyOk] at h
    | some ks =>
      have := hc.scals (kOk_sc h)
      have : vs = cs := by apply Array.ext'; exact this
      rw [this]
  | int k n => exact hv.scal rfl
  | _ => simp [keyOk] at h
theorem keyEq_iff {kk : Option (List Bool)} {k k' : Value} (h : keyOk kk k = true) (h' : keyOk kk k' = true) : keyEq k k' = true ↔ k = k' := by
  cases k with
  | agg cs =>
    cases kk with
    | none => simp [keyOk] at h
    | some ks =>
      cases k' with
      | agg cs' =>
        have := scqs_iff (ks := ks) (xs := cs.toList) (ys := cs'.toList) h h'
        simp only [keyEq, this]
        constructor
        · intro e; congr 1; apply Array.ext'; exact e
        · intro e; cases e; rfl
      | int q n => cases q <;> simp [keyOk] at h'
      | _ => simp [keyOk] at h'
  | int q n =>
    cases q <;> simp [keyOk] at h
    subst h
    cases k' with
    | int q' n' => cases q' <;> simp [keyOk] at h' <;> simp [keyEq]
    | agg cs' => simp [keyOk] at h'
    | _ => simp [keyOk] at h'
  | _ => simp [keyOk] at h
section
variable {ρ : Nat → Rb} {D : Nat → Prop}
theorem find_rel {k : Value} : ∀ {es : List (Value × Value × Nat)} {tes : List MapEntry} (h : ME ρ D es tes) (j : Nat),
    (findM k es j = none ∧ findE k tes j = none) ∨ (∃ i x n e, findM k es j = some (j + i, x, n) ∧ findE k tes j = some (j + i, e.val) ∧ es[i]? = some (e.key, x, n) ∧ tes[i]? = some e ∧ keyEq k e.key = true ∧ VR ρ D x e.val ∧ e.born = n)
  | [], tes, h, j => by cases h; exact .inl ⟨rfl, rfl⟩
  | (k', x, n) :: es, tes, h, j => by
    cases h with
    | @cons _ _ _ e _ tes hk hn hv h =>
      cases hb : keyEq k k' with
      | true => exact .inr ⟨0, x, n, e, by simp [findM, hb], by simp [findE, hk, hb], by simp [hk], rfl, by rw [hk]; exact hb, hv, hn⟩
      | false =>
        rcases find_rel h (j + 1) with ⟨h1, h2⟩ | ⟨i, x', n', e', h1, h2, h3, h4, h5, h6, h7⟩
        · exact .inl ⟨by simp only [findM, hb, cond_false]; exact h1, by simp only [findE, hk, hb, cond_false]; exact h2⟩
        · have e1 : j + (i + 1) = j + 1 + i := by omega
          exact .inr ⟨i + 1, x', n', e', by simp only [findM, hb, cond_false]; rw [e1]; exact h1, by simp only [findE, hk, hb, cond_false]; rw [e1]; exact h2, by simpa using h3, by simpa using h4, h5, h6, h7⟩
theorem ME.keys {kk : Option (List Bool)} {es : List (Value × Value × Nat)} {tes : List MapEntry} (h : ME ρ D es tes) (hk : ∀ e ∈ es, keyOk kk e.1 = true) : ∀ e ∈ tes, keyOk kk e.key = true := by
  induction h with
  | nil => intro e he; cases he
  | cons h1 h2 h3 _ ih =>
    intro e he
    rcases List.mem_cons.1 he with rfl | he
    · rw [h1]; exact hk _ List.mem_cons_self
    · exact ih (fun e he => hk e (List.mem_cons_of_mem _ he)) e he
theorem ME.push {es : List (Value × Value × Nat)} {tes : List MapEntry} (h : ME ρ D es tes) {k x : Value} {n : Nat} {e : MapEntry} (hk : e.key = k) (hn : e.born = n) (hv : VR ρ D x e.val) : ME ρ D (es ++ [(k, x, n)]) (tes ++ [e]) := by
  induction h with
  | nil => exact .cons hk hn hv .nil
  | cons a b c _ ih => exact .cons a b c ih
theorem ME.set {es : List (Value × Value × Nat)} {tes : List MapEntry} (h : ME ρ D es tes) : ∀ {i : Nat} {k x : Value} {n : Nat} {e : MapEntry}, e.key = k → e.born = n → VR ρ D x e.val → ME ρ D (es.set i (k, x, n)) (tes.set i e) := by
  induction h with
  | nil => intro i k x n e hk hn hv; exact .nil
  | cons a b c h ih =>
    intro i k x n e hk hn hv
    cases i with
    | zero => exact .cons hk hn hv h
    | succ i => exact .cons a b c (ih hk hn hv)
theorem VR.ofSc {z : Value} (h : (cellsL z).all scB = true) : VR ρ D z z := by
  cases z with
  | agg cs => have := VR.agL (VRs.sc (ρ := ρ) (D := D) (show cs.toList.all scB = true from h)); simpa using this
  | tuple cs => simp [cellsL, scB] at h
  | _ => exact .sc (by simpa [cellsL] using h)
end
structure TM (P : Program) (D : TD) (M : Tre MP) : Prop extends TX P D where
  mpOk : ∀ t p, M.get t = some p → MX P t p
def lookV (ok : Bool) (z : Value) : Option (Nat × Value × Nat) → Value
  | some (_, v, _) => cond ok (.tuple #[v, .bool true]) v
  | none => cond ok (.tuple #[z, .bool false]) z
def eLload (T : TD) (m : Tre MO) (s : Tre Value) (t : TypeId) (x : Operand) : Option (Value × Nat) := match lk s x with
  | some (.pointer (some ⟨i, o, none⟩)) => match T.siz.get t with
    | none => none
    | some (n, ag) => match m.get i with
      | some (.cl _ _ _ cs) => match partL ag n cs o with
        | none => none
        | some v => some (v, i)
      | _ => none
  | _ => none
def eLlook (M : Tre MP) (m : Tre MO) (s : Tre Value) (t : TypeId) (x k : Operand) (ok : Bool) : Option (Value × Nat) := match lk s x with
  | some (.map (some i)) => match lk s k with
    | none => none
    | some kv => match M.get t with
      | none => none
      | some p => match m.get i with
        | some (.mp kk es _) => cond (keyOk p.kk kv && kkq kk p.kk) (some (lookV ok p.z (findM kv es 0), i)) none
        | _ => none
  | _ => none
def evL (T : TD) (M : Tre MP) (m : Tre MO) (s : Tre Value) : Op → Option (Value × Nat)
  | .load t x => eLload T m s t x
  | .lookup t x k ok => eLlook M m s t x k ok
  | _ => none
section
variable {P : Program} {T : TD} {M : Tre MP} (X : TM P T M) {ρ ρ' : Nat → Rb} {D' : Nat → Prop} {m : Tre MO} {s : Tre Value} {a : Act} {o : Oper}
include X
theorem evL_run {v : Value} {i : Nat} (h : evL T M m s o.op = some (v, i)) (hs : SR ρ' D' s a.tmps) (hag : ∀ j, dom m j → ρ' j = ρ j) :
    ∃ ob, m.get i = some ob ∧ ob.live = true ∧ ∀ w, OR ρ (dom m) w i ob → ∃ tv, VR ρ (dom m) v tv ∧ (execOp a.eval o).run P w = .ok (.value tv) w := by
  cases ho : o.op <;> rw [ho] at h <;> simp only [evL, reduceCtorEq] at h
  case load t x =>
    unfold eLload at h
    split at h
    · rename_i j off hx
      split at h
      · cases h
      rename_i n ag ht
      split at h
      · rename_i T' sz ex cs hmi
        split at h
        · cases h
        rename_i v' hv
        cases h
        refine ⟨_, hmi, rfl, fun w hw => ?_⟩
        obtain ⟨xs, h1, h2, h3, h4, h5, h6, h8, h7⟩ := hw
        obtain ⟨jj, d, hj, hjn, hne, hu, hd⟩ := X.siz_at ht
        have hxv := lk_eval hs hx
        generalize hxe : a.eval x = xv at *
        cases hxv with
        | sc hc => simp [scB] at hc
        | ptr hD =>
          rw [hag _ ⟨_, hmi⟩] at hxe
          unfold partL at hv
          cases ag with
          | true =>
            simp only [cond_true] at hv
            cases hb : Nat.ble (off + n) cs.length with
            | false => rw [hb] at hv; simp at hv
            | true =>
              rw [hb] at hv
              have hle := Nat.le_of_ble_eq_true hb
              simp only [cond_true, Option.some.injEq] at hv
              subst hv
              have hr := (h7.drop off).take n
              refine ⟨.agg (((xs.take cs.length).drop off).take n).toArray, .agL hr, ?_⟩
              have hl : (((xs.take cs.length).drop off).take n).length = n := by rw [← hr.1]; simp; omega
              have := run_loadCells' (P := P) (w := w) (b := (ρ i).b) (o := off) (vs := ((xs.take cs.length).drop off).take n) (fun q u hq => by
                rw [List.getElem?_take] at hq
                split at hq
                · rw [List.getElem?_drop, List.getElem?_take] at hq
                  split at hq
                  · simp [World.cell?, h1, hq]
                  · cases hq
                · cases hq)
              rw [hl] at this
              simp [execOp, ho, hxe, Instr.loadAt, Instr.sureAddr, loadVar, run_isAgg' hu, hd, run_sizeOf' hj, hjn, this]
          | false =>
            simp only [cond_false] at hv
            obtain ⟨tv, g1, g2⟩ := h7.get hv
            refine ⟨tv, g2, ?_⟩
            rw [List.getElem?_take] at g1
            split at g1
            · have hc : w.cell? ⟨(ρ i).b, off, none⟩ = some tv := by simp [World.cell?, h1, g1]
              simp [execOp, ho, hxe, Instr.loadAt, Instr.sureAddr, loadVar, run_isAgg' hu, hd, hc]
            · cases g1
      · cases h
    · cases h
  case lookup t x k ok =>
    unfold eLlook at h
    split at h
    · rename_i j hx
      split at h
      · cases h
      rename_i kv hk
      split at h
      · cases h
      rename_i p hp
      split at h
      · rename_i kk es ck hmi
        cases hc : (keyOk p.kk kv && kkq kk p.kk) with
        | false => rw [hc] at h; simp at h
        | true =>
          rw [hc] at h
          simp only [Bool.and_eq_true] at hc
          simp only [cond_true, Option.some.injEq, Prod.mk.injEq] at h
          obtain ⟨rfl, rfl⟩ := h
          refine ⟨_, hmi, rfl, fun w hw => ?_⟩
          obtain ⟨tes, h1, h2, h3⟩ := hw
          obtain ⟨kt, vt, hm, hz1, hz, hchk, hfnd⟩ := X.mpOk t p hp
          have hkk := kkq_eq hc.2
          have ek := keyOk_val hc.1 (lk_eval hs hk)
          have hxv := lk_eval hs hx
          generalize hxe : a.eval x = xv at *
          cases hxv with
          | sc hc => simp [scB] at hc
          | mp hD =>
            rw [hag _ ⟨_, hmi⟩] at hxe
            have hf := hfnd kv tes w hc.1 (by rw [← hkk]; exact h2.keys h3)
            have hg := MapKept.run_getObj_map (P := P) h1
            have hck := hchk
            rcases find_rel (k := kv) h2 0 with ⟨f1, f2⟩ | ⟨i, x', n', e', f1, f2, f3, f4, f5, f6, f7⟩
            · rw [f1]
              rw [f2] at hf
              refine ⟨lookV ok p.z none, ?_, ?_⟩
              · have hzv : VR ρ (dom m) p.z p.z := .ofSc hz1
                cases ok with
                | true => exact .tuL (.cons hzv (.cons (.sc rfl) .nil))
                | false => exact hzv
              · cases ok <;> simp [execOp, ho, hxe, ek, Instr.lookup, run_underlying hm, hg, hck _ _ _ hc.1, hf, hz, Result.andThen, lookV]
            · rw [f1]
              rw [f2] at hf
              refine ⟨cond ok (.tuple #[e'.val, .bool true]) e'.val, ?_, ?_⟩
              · cases ok with
                | true => exact .tuL (.cons f6 (.cons (.sc rfl) .nil))
                | false => exact f6
              · cases ok <;> simp [execOp, ho, hxe, ek, Instr.lookup, run_underlying hm, hg, hck _ _ _ hc.1, hf, Result.andThen]
      · cases h
    · cases h
end
end
end Go.Ev
end
