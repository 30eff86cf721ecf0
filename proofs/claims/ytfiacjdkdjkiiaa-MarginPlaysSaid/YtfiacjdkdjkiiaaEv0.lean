/- A small machine for calls whose arguments are closed: its values and its memory, and what they stand for. No program in sight. -/
import Derived.Test.YtfiacjdkdjkiiaaTL
namespace Go.Ev
open Go Go.RowKit Go.Tl
set_option linter.unusedVariables false
set_option linter.unusedSimpArgs false
noncomputable section
inductive Tre (α : Type) where
  | e
  | n (l : Tre α) (x : Option α) (r : Tre α)
  deriving Inhabited
section
variable {α : Type}
def Tre.force {β : Type} (t : Tre α) (k : Tre α → β) : β := Tre.rec (motive := fun _ => β) (k .e) (fun l x r _ _ => k (.n l x r)) t
theorem Tre.force_eq {β : Type} (t : Tre α) (k : Tre α → β) : t.force k = k t := by cases t <;> rfl
def Tre.get (t : Tre α) : Nat → Option α :=
  Tre.rec (motive := fun _ => Nat → Option α) (fun _ => none) (fun _ x _ gl gr k => Nat.rec (motive := fun _ => Option α) x (fun j _ => Bool.rec (gr (Nat.div j 2)) (gl (Nat.div j 2)) (Nat.beq (Nat.mod j 2) 0)) k) t
def Tre.sgl (y : Option α) (f : Nat) : Nat → Tre α :=
  Nat.rec (motive := fun _ => Nat → Tre α) (fun _ => .n .e y .e) (fun _ ih k => Nat.rec (motive := fun _ => Tre α) (.n .e y .e) (fun j _ => Bool.rec ((ih (Nat.div j 2)).force fun r => .n .e none r) ((ih (Nat.div j 2)).force fun l => .n l none .e) (Nat.beq (Nat.mod j 2) 0)) k) f
def Tre.ins (y : Option α) (t : Tre α) : Nat → Tre α :=
  Tre.rec (motive := fun _ => Nat → Tre α) (fun k => sgl y k k) (fun l x r sl sr k => Nat.rec (motive := fun _ => Tre α) (.n l y r) (fun j _ => Bool.rec ((sr (Nat.div j 2)).force fun r' => .n l x r') ((sl (Nat.div j 2)).force fun l' => .n l' x r) (Nat.beq (Nat.mod j 2) 0)) k) t
def Tre.set (_ : Nat) (t : Tre α) (k : Nat) (y : Option α) : Option (Tre α) := (Tre.ins y t k).force fun t' => some t'
theorem bool_rec {β : Type} (a b : β) (c : Bool) : @Bool.rec (fun _ => β) a b c = cond c b a := by cases c <;> rfl
theorem Tre.get_e (k : Nat) : (Tre.e : Tre α).get k = none := rfl
theorem Tre.get_0 (l r : Tre α) (x : Option α) : (Tre.n l x r).get 0 = x := rfl
theorem Tre.get_s (l r : Tre α) (x : Option α) (k : Nat) : (Tre.n l x r).get (k + 1) = cond (Nat.beq (Nat.mod k 2) 0) (l.get (Nat.div k 2)) (r.get (Nat.div k 2)) := bool_rec _ _ _
theorem Tre.ins_0 (l r : Tre α) (x y : Option α) : (Tre.n l x r).ins y 0 = .n l y r := rfl
theorem Tre.ins_s (l r : Tre α) (x y : Option α) (k : Nat) : (Tre.n l x r).ins y (k + 1) = cond (Nat.beq (Nat.mod k 2) 0) (.n (l.ins y (Nat.div k 2)) x r) (.n l x (r.ins y (Nat.div k 2))) := (bool_rec _ _ _).trans (by rw [Tre.force_eq, Tre.force_eq]; rfl)
theorem Tre.sgl_0 (y : Option α) (f : Nat) : Tre.sgl y f 0 = .n .e y .e := by cases f <;> rfl
theorem Tre.sgl_s (y : Option α) (f k : Nat) : Tre.sgl y (f + 1) (k + 1) = cond (Nat.beq (Nat.mod k 2) 0) (.n (Tre.sgl y f (Nat.div k 2)) none .e) (.n .e none (Tre.sgl y f (Nat.div k 2))) := (bool_rec _ _ _).trans (by rw [Tre.force_eq, Tre.force_eq]; rfl)
theorem half_ne {j k : Nat} (h : j ≠ k) (h2 : Nat.mod j 2 = Nat.mod k 2) : Nat.div j 2 ≠ Nat.div k 2 := fun e => h (by
  have a := Nat.div_add_mod j 2
  have b := Nat.div_add_mod k 2
  have e' : j / 2 = k / 2 := e
  have h2' : j % 2 = k % 2 := h2
  omega)
theorem odd_one {k : Nat} (h : Nat.beq (Nat.mod k 2) 0 = false) : Nat.mod k 2 = 1 := by
  have : k % 2 ≠ 0 := fun e => by rw [show Nat.mod k 2 = 0 from e] at h; cases h
  show k % 2 = 1
  omega
theorem Tre.side {l l' r : Tre α} {x : Option α} {k : Nat} {y : Option α} (hl : l'.get (Nat.div k 2) = y ∧ ∀ j, j ≠ Nat.div k 2 → l'.get j = l.get j) :
    (Nat.beq (Nat.mod k 2) 0 = true → (Tre.n l' x r).get (k + 1) = y ∧ ∀ j, j ≠ k + 1 → (Tre.n l' x r).get j = (Tre.n l x r).get j) ∧
    (Nat.beq (Nat.mod k 2) 0 = false → (Tre.n r x l').get (k + 1) = y ∧ ∀ j, j ≠ k + 1 → (Tre.n r x l').get j = (Tre.n r x l).get j) := by
  refine ⟨fun hb => ⟨by rw [Tre.get_s, hb]; exact hl.1, fun j hj => ?_⟩, fun hb => ⟨by rw [Tre.get_s, hb]; exact hl.1, fun j hj => ?_⟩⟩
  · cases j with
    | zero => rfl
    | succ j =>
      rw [Tre.get_s, Tre.get_s]
      cases hj2 : Nat.beq (Nat.mod j 2) 0 with
      | true => exact hl.2 _ (half_ne (fun e => hj (by rw [e])) ((Nat.eq_of_beq_eq_true hj2).trans (Nat.eq_of_beq_eq_true hb).symm))
      | false => rfl
  · cases j with
    | zero => rfl
    | succ j =>
      rw [Tre.get_s, Tre.get_s]
      cases hj2 : Nat.beq (Nat.mod j 2) 0 with
      | true => rfl
      | false => exact hl.2 _ (half_ne (fun e => hj (by rw [e])) ((odd_one hj2).trans (odd_one hb).symm))
theorem Tre.sgl_get (y : Option α) : ∀ (f k : Nat), k ≤ f → (Tre.sgl y f k).get k = y ∧ ∀ j, j ≠ k → (Tre.sgl y f k).get j = none := by
  intro f
  induction f with
  | zero =>
    intro k hk
    have : k = 0 := by omega
    subst this
    rw [Tre.sgl_0]
    refine ⟨rfl, fun j hj => ?_⟩
    cases j with
    | zero => exact absurd rfl hj
    | succ j => rw [Tre.get_s]; cases Nat.beq (Nat.mod j 2) 0 <;> rfl
  | succ f ih =>
    intro k hk
    cases k with
    | zero =>
      rw [Tre.sgl_0]
      refine ⟨rfl, fun j hj => ?_⟩
      cases j with
      | zero => exact absurd rfl hj
      | succ j => rw [Tre.get_s]; cases Nat.beq (Nat.mod j 2) 0 <;> rfl
    | succ k =>
      have hd : Nat.div k 2 ≤ f := by have : k / 2 ≤ k := Nat.div_le_self _ _; show k / 2 ≤ f; omega
      have h1 := ih _ hd
      have h2 : (Tre.sgl y f (Nat.div k 2)).get (Nat.div k 2) = y ∧ ∀ j, j ≠ Nat.div k 2 → (Tre.sgl y f (Nat.div k 2)).get j = (Tre.e : Tre α).get j := h1
      have hs := Tre.side (x := none) (r := .e) h2
      have hz : ∀ j, (Tre.n (.e : Tre α) none .e).get j = none := fun j => by
        cases j with
        | zero => rfl
        | succ j => rw [Tre.get_s]; cases Nat.beq (Nat.mod j 2) 0 <;> rfl
      rw [Tre.sgl_s]
      cases hb : Nat.beq (Nat.mod k 2) 0 with
      | true => obtain ⟨g1, g2⟩ := hs.1 hb; exact ⟨g1, fun j hj => (g2 j hj).trans (hz j)⟩
      | false => obtain ⟨g1, g2⟩ := hs.2 hb; exact ⟨g1, fun j hj => (g2 j hj).trans (hz j)⟩
theorem Tre.ins_get (y : Option α) : ∀ (t : Tre α) (k : Nat), (t.ins y k).get k = y ∧ ∀ j, j ≠ k → (t.ins y k).get j = t.get j := by
  intro t
  induction t with
  | e => intro k; exact Tre.sgl_get y k k (Nat.le_refl _)
  | n l x r ihl ihr =>
    intro k
    cases k with
    | zero =>
      rw [Tre.ins_0]
      refine ⟨rfl, fun j hj => ?_⟩
      cases j with
      | zero => exact absurd rfl hj
      | succ j => rw [Tre.get_s, Tre.get_s]
    | succ k =>
      rw [Tre.ins_s]
      cases hb : Nat.beq (Nat.mod k 2) 0 with
      | true => exact (Tre.side (x := x) (r := r) (ihl (Nat.div k 2))).1 hb
      | false => exact (Tre.side (x := x) (r := l) (ihr (Nat.div k 2))).2 hb
theorem Tre.set_get : ∀ (f : Nat) (t t' : Tre α) (k : Nat) (y : Option α), Tre.set f t k y = some t' → t'.get k = y ∧ ∀ j, j ≠ k → t'.get j = t.get j := by
  intro f t t' k y h
  unfold Tre.set at h
  rw [Tre.force_eq] at h
  cases h
  exact Tre.ins_get y t k
def lget (l : List α) : Nat → Option α :=
  List.rec (motive := fun _ => Nat → Option α) (fun _ => none) (fun x _ ih k => Nat.rec (motive := fun _ => Option α) (some x) (fun j _ => ih j) k) l
theorem lget_eq : ∀ (l : List α) (k : Nat), lget l k = l[k]?
  | [], k => by simp [lget]
  | x :: l, 0 => rfl
  | x :: l, k + 1 => (lget_eq l k).trans (by simp)
def Tre.all (f : Nat → α → Bool) : Tre α → Bool
  | .e => true
  | .n l x r => (match x with | some y => f 0 y | none => true) && Tre.all (fun j => f (2 * j + 1)) l && Tre.all (fun j => f (2 * j + 2)) r
theorem Tre.all_get : ∀ (t : Tre α) (f : Nat → α → Bool), t.all f = true → ∀ k x, t.get k = some x → f k x = true := by
  intro t
  induction t with
  | e => intro f _ k x h; rw [Tre.get_e] at h; cases h
  | n l y r ihl ihr =>
    intro f h k x hk
    simp only [Tre.all, Bool.and_eq_true] at h
    cases k with
    | zero =>
      rw [Tre.get_0] at hk
      subst hk
      exact h.1.1
    | succ k =>
      rw [Tre.get_s] at hk
      cases hb : Nat.beq (Nat.mod k 2) 0 with
      | true =>
        rw [hb] at hk
        have h1 := ihl _ h.1.2 _ _ hk
        have e0 : k % 2 = 0 := Nat.eq_of_beq_eq_true hb
        have e : 2 * Nat.div k 2 + 1 = k + 1 := by show 2 * (k / 2) + 1 = k + 1; omega
        rwa [e] at h1
      | false =>
        rw [hb] at hk
        have h1 := ihr _ h.2 _ _ hk
        have e0 : k % 2 ≠ 0 := fun e => by rw [show Nat.mod k 2 = 0 from e] at hb; cases hb
        have e : 2 * Nat.div k 2 + 2 = k + 1 := by show 2 * (k / 2) + 2 = k + 1; omega
        rwa [e] at h1
end
structure Rb where
  b : Nat
  κ : Nat
  sz : Nat
  deriving Inhabited
def scB : Value → Bool
  | .bool _ => true
  | .int _ _ => true
  | .string _ => true
  | .nilFunc => true
  | .nilIface => true
  | .pointer none => true
  | .slice none 0 0 => true
  | .map none => true
  | _ => false
inductive VR (ρ : Nat → Rb) (D : Nat → Prop) : Value → Value → Prop where
  | sc {v : Value} (h : scB v = true) : VR ρ D v v
  | ptr {i o : Nat} (h : D i) : VR ρ D (.pointer (some ⟨i, o, none⟩)) (.pointer (some ⟨(ρ i).b, o, none⟩))
  | sl {i o l n : Nat} (h : D i) (hz : 0 < (ρ i).sz) (ho : o = l * (ρ i).sz) (hn : l + n ≤ (ρ i).κ) : VR ρ D (.slice (some ⟨i, o, none⟩) n 1) (.slice (some ⟨(ρ i).b, o, none⟩) n ((ρ i).κ - l))
  | s0 {i o : Nat} (h : D i) : VR ρ D (.slice (some ⟨i, o, none⟩) 0 0) (.slice (some ⟨(ρ i).b, o, none⟩) 0 0)
  | mp {i : Nat} (h : D i) : VR ρ D (.map (some i)) (.map (some (ρ i).b))
  | yl {i : Nat} (h : D i) : VR ρ D (.func (.yield i) #[] #[]) (.func (.yield (ρ i).b) #[] #[])
  | fn {g : FuncId} {cs vs ds us : Array Value} (hl : cs.size = vs.size) (h : ∀ (j : Nat) (x y : Value), cs[j]? = some x → vs[j]? = some y → VR ρ D x y)
      (hl' : ds.size = us.size) (h' : ∀ (j : Nat) (x y : Value), ds[j]? = some x → us[j]? = some y → VR ρ D x y) : VR ρ D (.func (.func g) cs ds) (.func (.func g) vs us)
  | ag {cs vs : Array Value} (hl : cs.size = vs.size) (h : ∀ (j : Nat) (x y : Value), cs[j]? = some x → vs[j]? = some y → VR ρ D x y) : VR ρ D (.agg cs) (.agg vs)
  | tu {cs vs : Array Value} (hl : cs.size = vs.size) (h : ∀ (j : Nat) (x y : Value), cs[j]? = some x → vs[j]? = some y → VR ρ D x y) : VR ρ D (.tuple cs) (.tuple vs)
def VRs (ρ : Nat → Rb) (D : Nat → Prop) (xs ys : List Value) : Prop := xs.length = ys.length ∧ ∀ (j : Nat) (x y : Value), xs[j]? = some x → ys[j]? = some y → VR ρ D x y
section
variable {ρ ρ' : Nat → Rb} {D D' : Nat → Prop}
theorem VR.mono {x v : Value} (h : VR ρ D x v) (hD : ∀ i, D i → D' i ∧ ρ' i = ρ i) : VR ρ' D' x v := by
  induction h with
  | sc h => exact .sc h
  | ptr h => obtain ⟨h1, h2⟩ := hD _ h; rw [← h2]; exact .ptr h1
  | sl h hz ho hn => obtain ⟨h1, h2⟩ := hD _ h; rw [← h2] at hz ho hn ⊢; exact .sl h1 hz ho hn
  | s0 h => obtain ⟨h1, h2⟩ := hD _ h; rw [← h2]; exact .s0 h1
  | mp h => obtain ⟨h1, h2⟩ := hD _ h; rw [← h2]; exact .mp h1
  | yl h => obtain ⟨h1, h2⟩ := hD _ h; rw [← h2]; exact .yl h1
  | fn hl _ hl' _ ih ih' => exact .fn hl ih hl' ih'
  | ag hl _ ih => exact .ag hl ih
  | tu hl _ ih => exact .tu hl ih
theorem arr_same {P : Value → Value → Prop} {cs vs us : Array Value} (h1 : cs.size = vs.size) (h2 : cs.size = us.size) (h : ∀ (j : Nat) (x y z : Value), cs[j]? = some x → vs[j]? = some y → us[j]? = some z → z = y) : us = vs := by
  apply Array.ext
  · omega
  · intro j hj hj'
    exact h j cs[j] vs[j] us[j] (Array.getElem?_eq_getElem _) (Array.getElem?_eq_getElem _) (Array.getElem?_eq_getElem _)
theorem VR.func {x v : Value} (h : VR ρ D x v) : ∀ {v'}, VR ρ' D' x v' → (∀ i, D i → ρ' i = ρ i) → v' = v := by
  induction h with
  | sc h => intro v' h' _; cases h' <;> first | rfl | simp [scB] at h
  | ptr h => intro v' h' hr; cases h' with | sc h => simp [scB] at h | ptr _ => rw [hr _ h]
  | sl h hz ho hn =>
    intro v' h' hr
    cases h' with
    | sc h => simp [scB] at h
    | @sl _ _ l' _ h' hz' ho' hn' =>
      rw [hr _ h] at *
      rw [ho] at ho'
      have := Nat.eq_of_mul_eq_mul_right hz ho'
      rw [this]
  | s0 h => intro v' h' hr; cases h' with | sc h => simp [scB] at h | s0 _ => rw [hr _ h]
  | mp h => intro v' h' hr; cases h' with | sc h => simp [scB] at h | mp _ => rw [hr _ h]
  | yl h => intro v' h' hr; cases h' with | sc h => simp [scB] at h | yl _ => rw [hr _ h]
  | fn hl _ hl' _ ih ih' =>
    intro v' h' hr
    cases h' with
    | sc h => simp [scB] at h
    | fn k1 k2 k3 k4 =>
      rw [arr_same (P := fun _ _ => True) hl k1 (fun j x y z a b c => ih j x y a b (k2 j x z a c) hr), arr_same (P := fun _ _ => True) hl' k3 (fun j x y z a b c => ih' j x y a b (k4 j x z a c) hr)]
  | ag hl _ ih =>
    intro v' h' hr
    cases h' with
    | sc h => simp [scB] at h
    | ag k1 k2 => rw [arr_same (P := fun _ _ => True) hl k1 (fun j x y z a b c => ih j x y a b (k2 j x z a c) hr)]
  | tu hl _ ih =>
    intro v' h' hr
    cases h' with
    | sc h => simp [scB] at h
    | tu k1 k2 => rw [arr_same (P := fun _ _ => True) hl k1 (fun j x y z a b c => ih j x y a b (k2 j x z a c) hr)]
theorem VR.scal {x v : Value} (h : VR ρ D x v) (hs : scB x = true) : v = x := by cases h <;> first | rfl | simp [scB] at hs
theorem VRs.nil : VRs ρ D [] [] := ⟨rfl, fun j x y h => by simp at h⟩
theorem VRs.cons {x v : Value} {xs vs : List Value} (h : VR ρ D x v) (hs : VRs ρ D xs vs) : VRs ρ D (x :: xs) (v :: vs) := by
  refine ⟨by simp [hs.1], fun j y u hy hu => ?_⟩
  cases j with
  | zero => simp at hy hu; subst hy; subst hu; exact h
  | succ j => simp at hy hu; exact hs.2 j y u hy hu
theorem VRs.append {xs ys vs us : List Value} (h : VRs ρ D xs vs) (h' : VRs ρ D ys us) : VRs ρ D (xs ++ ys) (vs ++ us) := by
  refine ⟨by simp [h.1, h'.1], fun j y u hy hu => ?_⟩
  rcases Nat.lt_or_ge j xs.length with hj | hj
  · rw [List.getElem?_append_left hj] at hy
    rw [List.getElem?_append_left (by rw [← h.1]; exact hj)] at hu
    exact h.2 j y u hy hu
  · rw [List.getElem?_append_right hj] at hy
    rw [List.getElem?_append_right (by rw [← h.1]; exact hj)] at hu
    rw [← h.1] at hu
    exact h'.2 _ y u hy hu
theorem VRs.take {xs vs : List Value} (h : VRs ρ D xs vs) (n : Nat) : VRs ρ D (xs.take n) (vs.take n) := by
  refine ⟨by simp [h.1], fun i y u hy hu => ?_⟩
  rw [List.getElem?_take] at hy hu
  split at hy
  · rename_i hi; rw [if_pos hi] at hu; exact h.2 i y u hy hu
  · cases hy
theorem VRs.drop {xs vs : List Value} (h : VRs ρ D xs vs) (n : Nat) : VRs ρ D (xs.drop n) (vs.drop n) := by
  refine ⟨by simp [h.1], fun i y u hy hu => ?_⟩
  rw [List.getElem?_drop] at hy hu
  exact h.2 _ y u hy hu
theorem VRs.mono {xs vs : List Value} (h : VRs ρ D xs vs) (hD : ∀ i, D i → D' i ∧ ρ' i = ρ i) : VRs ρ' D' xs vs := ⟨h.1, fun j x y hx hy => (h.2 j x y hx hy).mono hD⟩
theorem VRs.get {xs vs : List Value} (h : VRs ρ D xs vs) {j : Nat} {x : Value} (hx : xs[j]? = some x) : ∃ v, vs[j]? = some v ∧ VR ρ D x v := by
  have hj : j < vs.length := by rw [← h.1]; exact (List.getElem?_eq_some_iff.1 hx).1
  exact ⟨_, List.getElem?_eq_getElem hj, h.2 j x _ hx (List.getElem?_eq_getElem hj)⟩
theorem VRs.scals {xs vs : List Value} (h : VRs ρ D xs vs) (hs : xs.all scB = true) : vs = xs := by
  apply List.ext_getElem?
  intro j
  rcases Nat.lt_or_ge j xs.length with hj | hj
  · have hj' : j < vs.length := by rw [← h.1]; exact hj
    rw [List.getElem?_eq_getElem hj, List.getElem?_eq_getElem hj', (h.2 j _ _ (List.getElem?_eq_getElem hj) (List.getElem?_eq_getElem hj')).scal (List.all_eq_true.1 hs _ (List.getElem_mem hj))]
  · rw [List.getElem?_eq_none hj, List.getElem?_eq_none (by rw [← h.1]; exact hj)]
theorem VRs.sc {xs : List Value} (hs : xs.all scB = true) : VRs ρ D xs xs := ⟨rfl, fun j x y hx hy => by rw [hx] at hy; cases hy; exact .sc (List.all_eq_true.1 hs _ (List.mem_of_getElem? hx))⟩
theorem VRs.func {xs vs vs' : List Value} (h : VRs ρ D xs vs) (h' : VRs ρ' D' xs vs') (hr : ∀ i, D i → ρ' i = ρ i) : vs' = vs := by
  apply List.ext_getElem?
  intro j
  rcases Nat.lt_or_ge j xs.length with hj | hj
  · have h1 : j < vs.length := by rw [← h.1]; exact hj
    have h2 : j < vs'.length := by rw [← h'.1]; exact hj
    rw [List.getElem?_eq_getElem h1, List.getElem?_eq_getElem h2, (h.2 j _ _ (List.getElem?_eq_getElem hj) (List.getElem?_eq_getElem h1)).func (h'.2 j _ _ (List.getElem?_eq_getElem hj) (List.getElem?_eq_getElem h2)) hr]
  · rw [List.getElem?_eq_none (l := vs) (by rw [← h.1]; exact hj), List.getElem?_eq_none (l := vs') (by rw [← h'.1]; exact hj)]
theorem VR.agL {xs vs : List Value} (h : VRs ρ D xs vs) : VR ρ D (.agg xs.toArray) (.agg vs.toArray) := .ag (by simpa using h.1) (fun j x y hx hy => h.2 j x y (by simpa using hx) (by simpa using hy))
theorem VR.tuL {xs vs : List Value} (h : VRs ρ D xs vs) : VR ρ D (.tuple xs.toArray) (.tuple vs.toArray) := .tu (by simpa using h.1) (fun j x y hx hy => h.2 j x y (by simpa using hx) (by simpa using hy))
theorem VR.agI {cs : Array Value} {v : Value} (h : VR ρ D (.agg cs) v) : ∃ vs : Array Value, v = .agg vs ∧ VRs ρ D cs.toList vs.toList := by
  cases h with
  | sc h => simp [scB] at h
  | ag hl h => exact ⟨_, rfl, by simpa using hl, fun j x y hx hy => h j x y (by simpa using hx) (by simpa using hy)⟩
theorem VR.tuI {cs : Array Value} {v : Value} (h : VR ρ D (.tuple cs) v) : ∃ vs : Array Value, v = .tuple vs ∧ VRs ρ D cs.toList vs.toList := by
  cases h with
  | sc h => simp [scB] at h
  | tu hl h => exact ⟨_, rfl, by simpa using hl, fun j x y hx hy => h j x y (by simpa using hx) (by simpa using hy)⟩
def oneB : Value → Bool
  | .agg _ => false
  | .tuple _ => false
  | _ => true
def cellsL : Value → List Value
  | .agg cs => cs.toList
  | v => [v]
theorem cells_toList (v : Value) : v.cells.toList = cellsL v := by cases v <;> rfl
theorem VR.one {x v : Value} (h : VR ρ D x v) (ho : oneB x = true) : v.oneCell' = true := by
  cases h with
  | sc h => cases x <;> simp_all [oneB, Value.oneCell', scB]
  | ag => simp [oneB] at ho
  | tu => simp [oneB] at ho
  | _ => rfl
theorem VR.cells {x v : Value} (h : VR ρ D x v) : VRs ρ D (cellsL x) (cellsL v) := by
  cases h with
  | sc h =>
    cases x with
    | agg cs => simp [scB] at h
    | _ => exact .cons (.sc h) .nil
  | ag hl h => exact ⟨by simpa [cellsL] using hl, fun j x y hx hy => h j x y (by simpa [cellsL] using hx) (by simpa [cellsL] using hy)⟩
  | ptr h => exact .cons (.ptr h) .nil
  | sl a b c d => exact .cons (.sl a b c d) .nil
  | s0 h => exact .cons (.s0 h) .nil
  | mp h => exact .cons (.mp h) .nil
  | yl h => exact .cons (.yl h) .nil
  | fn a b c d => exact .cons (.fn a b c d) .nil
  | tu a b => exact .cons (.tu a b) .nil
theorem VRs.ones {xs vs : List Value} (h : VRs ρ D xs vs) (ho : xs.all oneB = true) : ∀ v ∈ vs, v.oneCell' = true := fun v hv => by
  obtain ⟨j, hj, rfl⟩ := List.getElem_of_mem hv
  have hj' : j < xs.length := by rw [h.1]; exact hj
  exact (h.2 j _ _ (List.getElem?_eq_getElem hj') (List.getElem?_eq_getElem hj)).one (List.all_eq_true.1 ho _ (List.getElem_mem hj'))
end
def scq : Value → Value → Bool
  | .int .i64 a, .int .i64 b => decide (a = b)
  | .bool a, .bool b => a == b
  | _, _ => false
def scqs : List Value → List Value → Bool
  | [], [] => true
  | x :: xs, y :: ys => scq x y && scqs xs ys
  | _, _ => false
def kOk : List Bool → List Value → Bool
  | [], [] => true
  | true :: ks, .int .i64 _ :: vs => kOk ks vs
  | false :: ks, .bool _ :: vs => kOk ks vs
  | _, _ => false
def keyOk (kk : Option (List Bool)) : Value → Bool
  | .agg cs => match kk with | some ks => kOk ks cs.toList | none => false
  | .int .i64 _ => kk.isNone
  | _ => false
def keyEq : Value → Value → Bool
  | .agg a, .agg b => scqs a.toList b.toList
  | .int .i64 a, .int .i64 b => decide (a = b)
  | _, _ => false
inductive MO where
  | cl (T : TypeId) (sz : Nat) (ex : Bool) (cs : List Value)
  | mp (kk : Option (List Bool)) (es : List (Value × Value × Nat)) (ck : Nat)
  | lp (st : LoopState) (pe : Option Code) (f N : Nat) (s : Tre Value) (ps : List Tmp) (as body : Code) (d : Nat)
  | df
  | dead
def MO.live : MO → Bool
  | .dead => false
  | _ => true
def dom (m : Tre MO) (i : Nat) : Prop := ∃ o, m.get i = some o
def SR (ρ : Nat → Rb) (D : Nat → Prop) (s : Tre Value) (tmps : Array Value) : Prop := ∀ d x, s.get d = some x → ∃ v, tmps[d]? = some v ∧ VR ρ D x v
inductive ME (ρ : Nat → Rb) (D : Nat → Prop) : List (Value × Value × Nat) → List MapEntry → Prop where
  | nil : ME ρ D [] []
  | cons {k x : Value} {n : Nat} {e : MapEntry} {r : List (Value × Value × Nat)} {es : List MapEntry} (hk : e.key = k) (hn : e.born = n) (hv : VR ρ D x e.val) (h : ME ρ D r es) : ME ρ D ((k, x, n) :: r) (e :: es)
def OR (ρ : Nat → Rb) (D : Nat → Prop) (w : World) (i : Nat) : MO → Prop
  | .cl T sz ex cs => ∃ xs : List Value, w.heap[(ρ i).b]? = some (.cells xs.toArray T (0, 0)) ∧ xs.length = (ρ i).κ * (ρ i).sz ∧ (ρ i).sz = sz ∧ 0 < sz ∧ (ρ i).κ ≤ maxLen ∧ cs.length ≤ xs.length ∧ (ex = true → cs.length = xs.length) ∧ VRs ρ D cs (xs.take cs.length)
  | .mp kk es ck => ∃ tes : List MapEntry, w.heap[(ρ i).b]? = some (.map tes.toArray ck) ∧ ME ρ D es tes ∧ ∀ e ∈ es, keyOk kk e.1 = true
  | .lp st pe f N s ps as body d => ∃ g tmps, w.heap[(ρ i).b]? = some (.loop { state := st, pending := pe, fn := g, tmps := tmps, params := ps.toArray, assign := as, body := body, defers := (ρ d).b }) ∧ tmps.size = N ∧ SR ρ D s tmps ∧ D d
  | .df => w.heap[(ρ i).b]? = some (.deferred (some []))
  | .dead => True
structure W0 where
  w : World
  CP : Nat → Code → Prop
  F : Nat → Prop := fun b => b < w.heap.size
  hF : ∀ b, F b → b < w.heap.size := by intro b h; exact h
def LpOk (CP : Nat → Code → Prop) : MO → Prop
  | .lp _ _ f _ _ _ as body _ => CP f as ∧ CP f body
  | _ => True
structure MS (w0 : W0) (ρ : Nat → Rb) (m : Tre MO) (w : World) : Prop where
  os : w.os = w0.w.os
  tape : w.tape = w0.w.tape
  output : w.output = w0.w.output
  size : w0.w.heap.size ≤ w.heap.size
  old : ∀ b, w0.F b → w.heap[b]? = w0.w.heap[b]?
  obj : ∀ i o, m.get i = some o → OR ρ (dom m) w i o
  cp : ∀ i o, m.get i = some o → LpOk w0.CP o
  lo : ∀ i o, m.get i = some o → o.live = true → ¬ w0.F (ρ i).b
  inj : ∀ i j o o', m.get i = some o → m.get j = some o' → o.live = true → o'.live = true → (ρ i).b = (ρ j).b → i = j
def Le (ρ : Nat → Rb) (m : Tre MO) (ρ' : Nat → Rb) (m' : Tre MO) : Prop := ∀ i, dom m i → dom m' i ∧ ρ' i = ρ i
theorem Le.refl {ρ : Nat → Rb} {m : Tre MO} : Le ρ m ρ m := fun _ h => ⟨h, rfl⟩
theorem Le.trans {ρ ρ' ρ'' : Nat → Rb} {m m' m'' : Tre MO} (h : Le ρ m ρ' m') (h' : Le ρ' m' ρ'' m'') : Le ρ m ρ'' m'' := fun i hi =>
  ⟨(h' i (h i hi).1).1, ((h' i (h i hi).1).2).trans (h i hi).2⟩
section
variable {ρ ρ' : Nat → Rb} {D D' : Nat → Prop} {w w' : World} {w0 : W0} {m m' : Tre MO}
theorem SR.mono {s : Tre Value} {t : Array Value} (h : SR ρ D s t) (hD : ∀ i, D i → D' i ∧ ρ' i = ρ i) : SR ρ' D' s t := fun d x hx => by
  obtain ⟨v, h1, h2⟩ := h d x hx
  exact ⟨v, h1, h2.mono hD⟩
theorem ME.mono {es : List (Value × Value × Nat)} {tes : List MapEntry} (h : ME ρ D es tes) (hD : ∀ i, D i → D' i ∧ ρ' i = ρ i) : ME ρ' D' es tes := by
  induction h with
  | nil => exact .nil
  | cons hk hn hv _ ih => exact .cons hk hn (hv.mono hD) ih
theorem ME.back {es : List (Value × Value × Nat)} {tes0 tes : List MapEntry} (h0 : ME ρ D es tes0) (h : ME ρ' D' es tes) (hD : ∀ i, D i → ρ' i = ρ i) : ME ρ D es tes := by
  induction h0 generalizing tes with
  | nil => cases h; exact .nil
  | cons hk hn hv _ ih =>
    cases h with
    | cons hk' hn' hv' h' =>
      refine .cons hk' hn' ?_ (ih h')
      rw [hv.func hv' hD]
      exact hv
theorem OR.mono {i : Nat} {o : MO} (h : OR ρ D w i o) (hi : o.live = true → ρ' i = ρ i) (hD : ∀ i, D i → D' i ∧ ρ' i = ρ i) (hw : o.live = true → w'.heap[(ρ i).b]? = w.heap[(ρ i).b]?) : OR ρ' D' w' i o := by
  cases o with
  | cl T sz ex cs =>
    obtain ⟨xs, h1, h2, h3, h4, h5, h6, h8, h7⟩ := h
    have e := hi rfl
    exact ⟨xs, by rw [e, hw rfl, h1], by rw [e, h2], by rw [e, h3], h4, by rw [e]; exact h5, h6, h8, h7.mono hD⟩
  | mp kk es ck =>
    obtain ⟨tes, h1, h2, h3⟩ := h
    have e := hi rfl
    exact ⟨tes, by rw [e, hw rfl, h1], h2.mono hD, h3⟩
  | lp st pe f N s ps as body d =>
    obtain ⟨g, tmps, h1, h2, h3, h4⟩ := h
    have e := hi rfl
    exact ⟨g, tmps, by rw [e, hw rfl, h1, (hD d h4).2], h2, h3.mono hD, (hD d h4).1⟩
  | df => have e := hi rfl; show w'.heap[(ρ' i).b]? = _; rw [e, hw rfl]; exact h
  | dead => trivial
theorem OR.lt {i : Nat} {o : MO} (h : OR ρ D w i o) (hl : o.live = true) : (ρ i).b < w.heap.size := by
  cases o with
  | cl T sz ex cs => obtain ⟨xs, h1, _⟩ := h; exact (Array.getElem?_eq_some_iff.1 h1).1
  | mp kk es ck => obtain ⟨tes, h1, _⟩ := h; exact (Array.getElem?_eq_some_iff.1 h1).1
  | lp => obtain ⟨g, tmps, h1, _⟩ := h; exact (Array.getElem?_eq_some_iff.1 h1).1
  | df => exact (Array.getElem?_eq_some_iff.1 h).1
  | dead => simp [MO.live] at hl
theorem OR.back {i : Nat} {o : MO} (h0 : OR ρ D w i o) (h : OR ρ' D' w' i o) (hi : o.live = true → ρ' i = ρ i) (hD : ∀ i, D i → ρ' i = ρ i) : OR ρ D w' i o := by
  cases o with
  | cl T sz ex cs =>
    obtain ⟨xs0, a1, a2, a3, a4, a5, a6, a8, a7⟩ := h0
    obtain ⟨xs, h1, h2, h3, h4, h5, h6, h8, h7⟩ := h
    have e := hi rfl
    have := a7.func h7 hD
    exact ⟨xs, by rw [← e, h1], by rw [← e, h2], by rw [← e, h3], h4, by rw [← e]; exact h5, h6, h8, by rw [this]; exact a7⟩
  | mp kk es ck =>
    obtain ⟨tes0, a1, a2, a3⟩ := h0
    obtain ⟨tes, h1, h2, h3⟩ := h
    have e := hi rfl
    exact ⟨tes, by rw [← e, h1], a2.back h2 hD, a3⟩
  | lp st pe f N s ps as body d =>
    obtain ⟨g0, t0, a1, a2, a3, a4⟩ := h0
    obtain ⟨g, tmps, h1, h2, h3, h4⟩ := h
    have e := hi rfl
    refine ⟨g, tmps, by rw [← e, h1, hD d a4], h2, fun k x hx => ?_, a4⟩
    obtain ⟨v0, b1, b2⟩ := a3 k x hx
    obtain ⟨v, c1, c2⟩ := h3 k x hx
    refine ⟨v, c1, ?_⟩
    rw [b2.func c2 hD]
    exact b2
  | df => have e := hi rfl; show w'.heap[(ρ i).b]? = _; rw [← e]; exact h
  | dead => trivial
theorem MS.grow (H : MS w0 ρ m w) (hos : w'.os = w.os) (ht : w'.tape = w.tape) (ho : w'.output = w.output) (hs : w.heap.size ≤ w'.heap.size) (hb : ∀ b, b < w.heap.size → w'.heap[b]? = w.heap[b]?) : MS w0 ρ m w' :=
  ⟨hos.trans H.os, ht.trans H.tape, ho.trans H.output, Nat.le_trans H.size hs, fun b h => (hb b (Nat.lt_of_lt_of_le (w0.hF b h) H.size)).trans (H.old b h),
    fun i o hi => (H.obj i o hi).mono (fun _ => rfl) (fun _ h => ⟨h, rfl⟩) (fun hl => hb _ ((H.obj i o hi).lt hl)), H.cp, H.lo, H.inj⟩
theorem MS.drew (H : MS w0 ρ m w) : MS w0 ρ m w.drew := H.grow rfl rfl rfl (Nat.le_refl _) (fun _ _ => rfl)
def upd (ρ : Nat → Rb) (i : Nat) (r : Rb) (j : Nat) : Rb := if j = i then r else ρ j
theorem upd_same {i : Nat} {r : Rb} : upd ρ i r i = r := by simp [upd]
theorem upd_other {i j : Nat} {r : Rb} (h : j ≠ i) : upd ρ i r j = ρ j := by simp [upd, h]
theorem dom_set {f i : Nat} {o : MO} (h : Tre.set f m i (some o) = some m') : ∀ j, dom m' j ↔ dom m j ∨ j = i := fun j => by
  obtain ⟨h1, h2⟩ := Tre.set_get _ _ _ _ _ h
  by_cases hj : j = i
  · subst hj; exact ⟨fun _ => .inr rfl, fun _ => ⟨o, h1⟩⟩
  · unfold dom; rw [h2 j hj]; exact ⟨.inl, fun h => h.resolve_right hj⟩
theorem MS.push (H : MS w0 ρ m w) {f i : Nat} {o : MO} {r : Rb} (hf : m.get i = none) (hm : Tre.set f m i (some o) = some m') (hos : w'.os = w.os) (ht : w'.tape = w.tape) (ho : w'.output = w.output) (hs : w.heap.size ≤ w'.heap.size)
    (hb0 : ∀ b, w0.F b → w'.heap[b]? = w.heap[b]?) (hb1 : ∀ j x, m.get j = some x → x.live = true → w'.heap[(ρ j).b]? = w.heap[(ρ j).b]?) (hr : ¬ w0.F r.b) (hr' : ∀ j x, m.get j = some x → x.live = true → (ρ j).b ≠ r.b) (hO : (∀ j, dom m j → dom m' j ∧ upd ρ i r j = ρ j) → OR (upd ρ i r) (dom m') w' i o) (hc : LpOk w0.CP o := by trivial) : MS w0 (upd ρ i r) m' w' ∧ Le ρ m (upd ρ i r) m' := by
  obtain ⟨h1, h2⟩ := Tre.set_get _ _ _ _ _ hm
  have hne : ∀ j, dom m j → j ≠ i := fun j ⟨x, hx⟩ e => by rw [e, hf] at hx; cases hx
  have hLe : Le ρ m (upd ρ i r) m' := fun j hj => ⟨(dom_set hm j).2 (.inl hj), upd_other (hne j hj)⟩
  refine ⟨⟨hos.trans H.os, ht.trans H.tape, ho.trans H.output, Nat.le_trans H.size hs, fun b h => (hb0 b h).trans (H.old b h), fun j x hx => ?_, fun j x hx => ?_, fun j x hx hl => ?_, fun j k x y hx hy hlx hly he => ?_⟩, hLe⟩
  · by_cases hj : j = i
    · subst hj; rw [h1] at hx; cases hx; exact hO hLe
    · rw [h2 j hj] at hx
      exact (H.obj j x hx).mono (fun _ => (hLe j ⟨x, hx⟩).2) hLe (fun hl => hb1 j x hx hl)
  · by_cases hj : j = i
    · subst hj; rw [h1] at hx; cases hx; exact hc
    · rw [h2 j hj] at hx; exact H.cp j x hx
  · by_cases hj : j = i
    · subst hj; rw [h1] at hx; cases hx; rw [upd_same]; exact hr
    · rw [h2 j hj] at hx; rw [upd_other hj]; exact H.lo j x hx hl
  · by_cases hj : j = i
    · by_cases hk : k = i
      · rw [hj, hk]
      · exfalso
        subst hj
        rw [h2 k hk] at hy
        rw [upd_same, upd_other hk] at he
        exact hr' k y hy hly he.symm
    · by_cases hk : k = i
      · exfalso
        subst hk
        rw [h2 j hj] at hx
        rw [upd_other hj, upd_same] at he
        exact hr' j x hx hlx he
      · rw [h2 j hj] at hx
        rw [h2 k hk] at hy
        rw [upd_other hj, upd_other hk] at he
        exact H.inj j k x y hx hy hlx hly he
theorem MS.new (H : MS w0 ρ m w) {f i : Nat} {o : MO} {x : Obj} {κ sz : Nat} (hf : m.get i = none) (hm : Tre.set f m i (some o) = some m')
    (hO : (∀ j, dom m j → dom m' j ∧ upd ρ i ⟨w.heap.size, κ, sz⟩ j = ρ j) → OR (upd ρ i ⟨w.heap.size, κ, sz⟩) (dom m') (w.alloc x) i o) (hc : LpOk w0.CP o := by trivial) : MS w0 (upd ρ i ⟨w.heap.size, κ, sz⟩) m' (w.alloc x) ∧ Le ρ m (upd ρ i ⟨w.heap.size, κ, sz⟩) m' :=
  H.push hf hm rfl rfl rfl (by simp) (fun b hb => alloc_old w x b (Nat.lt_of_lt_of_le (w0.hF b hb) H.size)) (fun j y hy hl => alloc_old w x _ ((H.obj j y hy).lt hl)) (fun hb => by have h1 := w0.hF _ hb; have h2 := H.size; have h3 : w.heap.size < w0.w.heap.size := h1; omega) (fun j y hy hl e => by have := (H.obj j y hy).lt hl; simp at e; omega) hO hc
theorem MS.put (H : MS w0 ρ m w) {f i : Nat} {o o' : MO} (hi : m.get i = some o) (hl : o.live = true) (hm : Tre.set f m i (some o') = some m') (hos : w'.os = w.os) (ht : w'.tape = w.tape) (ho : w'.output = w.output) (hs : w.heap.size ≤ w'.heap.size)
    (hb : ∀ b, b < w.heap.size → b ≠ (ρ i).b → w'.heap[b]? = w.heap[b]?) (hO : (∀ j, dom m j → dom m' j) → OR ρ (dom m') w' i o') (hc : LpOk w0.CP o' := by trivial) : MS w0 ρ m' w' ∧ Le ρ m ρ m' := by
  obtain ⟨h1, h2⟩ := Tre.set_get _ _ _ _ _ hm
  have hd : ∀ j, dom m j → dom m' j := fun j hj => (dom_set hm j).2 (.inl hj)
  have hdr : ∀ j, dom m' j → dom m j := fun j hj => ((dom_set hm j).1 hj).elim id (fun e => ⟨o, e ▸ hi⟩)
  have hlo := H.lo i o hi hl
  refine ⟨⟨hos.trans H.os, ht.trans H.tape, ho.trans H.output, Nat.le_trans H.size hs, fun b h => (hb b (Nat.lt_of_lt_of_le (w0.hF b h) H.size) (fun e => hlo (e ▸ h))).trans (H.old b h), fun j x hx => ?_, fun j x hx => ?_, fun j x hx hlx => ?_, fun j k x y hx hy hlx hly he => ?_⟩, fun j hj => ⟨hd j hj, rfl⟩⟩
  · by_cases hj : j = i
    · subst hj; rw [h1] at hx; cases hx; exact hO hd
    · rw [h2 j hj] at hx
      exact (H.obj j x hx).mono (fun _ => rfl) (fun k hk => ⟨hd k hk, rfl⟩) (fun hlx => hb _ ((H.obj j x hx).lt hlx) (fun e => hj (H.inj j i x o hx hi hlx hl e)))
  · by_cases hj : j = i
    · subst hj; rw [h1] at hx; cases hx; exact hc
    · rw [h2 j hj] at hx; exact H.cp j x hx
  · by_cases hj : j = i
    · subst hj; exact hlo
    · rw [h2 j hj] at hx; exact H.lo j x hx hlx
  · by_cases hj : j = i
    · by_cases hk : k = i
      · rw [hj, hk]
      · subst hj
        rw [h2 k hk] at hy
        exact (H.inj k j y o hy hi hly hl he.symm).symm
    · by_cases hk : k = i
      · subst hk
        rw [h2 j hj] at hx
        exact H.inj j k x o hx hi hlx hl he
      · rw [h2 j hj] at hx
        rw [h2 k hk] at hy
        exact H.inj j k x y hx hy hlx hly he
end
def vin : Nat → Tre MO → Value → Bool
  | 0, _, _ => false
  | _ + 1, m, .pointer (some a) => (m.get a.block).isSome
  | _ + 1, m, .slice (some a) _ _ => (m.get a.block).isSome
  | _ + 1, m, .map (some i) => (m.get i).isSome
  | n + 1, m, .func (.func _) a b => a.toList.all (vin n m) && b.toList.all (vin n m)
  | n + 1, m, .agg a => a.toList.all (vin n m)
  | n + 1, m, .tuple a => a.toList.all (vin n m)
  | _ + 1, _, v => scB v
def objIn (m : Tre MO) : MO → Bool
  | .cl _ _ _ cs => cs.all (vin 9 m)
  | .mp _ es _ => es.all fun e => vin 9 m e.2.1
  | .lp _ _ _ _ _ _ _ _ _ => false
  | .df => true
  | .dead => true
section
variable {ρ : Nat → Rb} {D : Nat → Prop} {m : Tre MO} {w : World}
theorem isSome_dom {i : Nat} (h : (m.get i).isSome = true) : dom m i := Option.isSome_iff_exists.1 h
theorem VR.shrink : ∀ (n : Nat) {x v : Value}, vin n m x = true → VR ρ D x v → VR ρ (dom m) x v := by
  intro n
  induction n with
  | zero => intro x v h; simp [vin] at h
  | succ n ih =>
    intro x v h hv
    have hl : ∀ {cs vs : Array Value}, cs.toList.all (vin n m) = true → (∀ (j : Nat) (x y : Value), cs[j]? = some x → vs[j]? = some y → VR ρ D x y) → ∀ (j : Nat) (x y : Value), cs[j]? = some x → vs[j]? = some y → VR ρ (dom m) x y := fun {cs vs} hc hh j x y hx hy =>
      ih (List.all_eq_true.1 hc x (by rw [← Array.getElem?_toList] at hx; exact List.mem_of_getElem? hx)) (hh j x y hx hy)
    cases hv with
    | sc h' => exact .sc h'
    | ptr h' => exact .ptr (isSome_dom h)
    | sl h' a b c => exact .sl (isSome_dom h) a b c
    | s0 h' => exact .s0 (isSome_dom h)
    | mp h' => exact .mp (isSome_dom h)
    | yl h' => simp [vin, scB] at h
    | fn a b c d =>
      simp only [vin, Bool.and_eq_true] at h
      exact .fn a (hl h.1 b) c (hl h.2 d)
    | ag a b => exact .ag a (hl h b)
    | tu a b => exact .tu a (hl h b)
theorem OR.shrink {i : Nat} {o : MO} (h : OR ρ D w i o) (ho : objIn m o = true) : OR ρ (dom m) w i o := by
  cases o with
  | cl T sz ex cs =>
    obtain ⟨xs, h1, h2, h3, h4, h5, h6, h8, h7⟩ := h
    exact ⟨xs, h1, h2, h3, h4, h5, h6, h8, h7.1, fun j x y hx hy => VR.shrink 9 (List.all_eq_true.1 ho x (List.mem_of_getElem? hx)) (h7.2 j x y hx hy)⟩
  | mp kk es ck =>
    obtain ⟨tes, h1, h2, h3⟩ := h
    refine ⟨tes, h1, ?_, h3⟩
    have ho' : ∀ e ∈ es, vin 9 m e.2.1 = true := List.all_eq_true.1 ho
    clear h1 h3 ho
    induction h2 with
    | nil => exact .nil
    | cons hk hn hv _ ih => exact .cons hk hn (VR.shrink 9 (ho' _ List.mem_cons_self) hv) (ih (fun e he => ho' e (List.mem_cons_of_mem _ he)))
  | lp => simp [objIn] at ho
  | df => exact h
  | dead => trivial
end
end
end Go.Ev
