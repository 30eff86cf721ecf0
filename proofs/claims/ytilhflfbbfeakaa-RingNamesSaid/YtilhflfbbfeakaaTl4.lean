/- Code over plain trees: single operations, lists of them, conditions, loops, calls. -/
import Derived.Test.YtilhflfbbfeakaaTl3
import Derived.Test.YtilhflfbbfeakaaTl0
import Derived.Scope
namespace Go.Tl
open Go Go.RowKit
set_option linter.unusedVariables false
set_option linter.unusedSimpArgs false

/-- an operation: what holds behind it; of the blocks that there were it writes those of md alone -/
def AOp (P : Program) (N : Nat) (o : Oper) (md : Nat → Prop) (s : Slots) (h : List Ent) (K : Slots → List Ent → Prop) : Prop :=
  ∀ (B : Base) (w : World) (S : Nat → Prop) (a : Act), Sim B N w S s h a → ∀ (Kr : Act → World → Prop) (Qr : Exit → Act → World → Prop),
    (∀ v w' S' s' h', K s' h' → Sim B N w' S' s' h' (a.put o.dst v) → Upd w S w' S' md → Kr (a.put o.dst v) w') → wpX P o a w Kr Qr

/-- what holds behind code -/
def post (B : Base) (N : Nat) (Q : Exit → Slots → List Ent → Prop) (e : Exit) (a : Act) (w : World) : Prop := ∃ S s h, Q e s h ∧ Sim B N w S s h a
def postR (B : Base) (N : Nat) (Q : Exit → Slots → List Ent → Prop) (e : Exit) (a : Act) (w : World) : Prop := e = .normal ∧ post B N Q e a w
/-- code, in an activation (ro = none) or in a round of a loop over a function -/
def AWP (P : Program) (N : Nat) (ro : Option Nat) (c : Code) (Q : Exit → Slots → List Ent → Prop) (s : Slots) (h : List Ent) : Prop :=
  ∀ (B : Base) (w : World) (S : Nat → Prop) (a : Act), Sim B N w S s h a → c.wpIn (FR ro) 0 P (post B N Q) a w
def AWL (P : Program) (N : Nat) (ops : Array Oper) (l : List Oper) (Q : Exit → Slots → List Ent → Prop) (s : Slots) (h : List Ent) : Prop :=
  ∀ (B : Base) (w : World) (S : Nat → Prop) (a : Act), Sim B N w S s h a → wpLX P ops (postR B N Q) l a w

section
variable {P : Program} {N : Nat} {ro : Option Nat} {o : Oper} {md : Nat → Prop} {s : Slots} {h : List Ent} {K : Slots → List Ent → Prop} {Q : Exit → Slots → List Ent → Prop}

theorem aop_pv {y : AV} {d : Nat} (H : PV P o s y) (hd : o.dst = some d) (hN : d < N) (hK : K ((d, y) :: s) h) : AOp P N o md s h K := fun B w S a hs Kr Qr hk => by
  obtain ⟨v, hrun, hv⟩ := H w S a hs.slots
  unfold wpX
  rw [hd] at hk
  rw [hrun, Oper.uponIn_value, hd]
  exact hk _ _ S _ _ hK (hs.put hv hN) .refl
theorem aop_lv {y : AV} {d : Nat} {e : Option Ent} (H : LV P o s h e y) (hd : o.dst = some d) (hN : d < N) (hK : K ((d, y) :: s) h) : AOp P N o md s h K := fun B w S a hs Kr Qr hk => by
  obtain ⟨v, b, hrun, hv, _⟩ := H w S a hs.slots hs.heap
  unfold wpX
  rw [hd] at hk
  rw [hrun w rfl, Oper.uponIn_value, hd]
  exact hk _ _ S _ _ hK (hs.put hv hN) .refl

theorem wanted_plain {o : Oper} {y : Nat → Option Bool} (hg : o.guard = none) : Region.wanted o y = true := by simp [Region.wanted, hg]
theorem wpLX_op {ops : Array Oper} {o : Oper} {rest : List Oper} {Q : Exit → Act → World → Prop} {a : Act} {w : World} (hw : Region.wanted o (yielded ops a.tmps) = true) (h : wpX P o a w (wpLX P ops Q rest) Q) : wpLX P ops Q (o :: rest) a w := by
  simp only [wpLX]
  rw [if_pos hw]
  exact h
theorem wpLX_skip {ops : Array Oper} {o : Oper} {rest : List Oper} {Q : Exit → Act → World → Prop} {a : Act} {w : World} (hw : Region.wanted o (yielded ops a.tmps) = false) (h : wpLX P ops Q rest (a.put o.dst undef) w) : wpLX P ops Q (o :: rest) a w := by
  simp only [wpLX]
  rw [if_neg (by rw [hw]; simp)]
  exact h
theorem awl_op {ops : Array Oper} {rest : List Oper} (hg : o.guard = none) (H : AOp P N o md s h (AWL P N ops rest Q)) : AWL P N ops (o :: rest) Q s h := fun B w S a hs =>
  wpLX_op (wanted_plain hg) (H B w S a hs _ _ (fun v w' S' s' h' hK hs' _ => hK B w' S' _ hs'))
/-- an operation that is carried out if another one's result is b -/
theorem awl_guard {ops : Array Oper} {rest : List Oper} {g : Nat} {b : Bool} {og : Oper} {t : Nat} (hg : o.guard = some (g, b)) (hog : ops[g]? = some og) (ht : og.dst = some t) (hv : look s t = some (.v (.bool b)))
    (H : AOp P N o md s h (AWL P N ops rest Q)) : AWL P N ops (o :: rest) Q s h := fun B w S a hs => by
  obtain ⟨v, hv1, hv2⟩ := hs.slots t _ hv
  have hw : Region.wanted o (yielded ops a.tmps) = true := by simp [Region.wanted, hg, yielded, hog, ht, hv1, hv2.lit_inv]
  exact wpLX_op hw (H B w S a hs _ _ (fun v w' S' s' h' hK hs' _ => hK B w' S' _ hs'))
theorem awl_skip {ops : Array Oper} {rest : List Oper} {g : Nat} {b c : Bool} {og : Oper} {t d : Nat} (hg : o.guard = some (g, b)) (hog : ops[g]? = some og) (ht : og.dst = some t) (hv : look s t = some (.v (.bool c))) (hc : c = !b)
    (hd : o.dst = some d) (hN : d < N) (H : AWL P N ops rest Q ((d, .v undef) :: s) h) : AWL P N ops (o :: rest) Q s h := fun B w S a hs => by
  obtain ⟨v, hv1, hv2⟩ := hs.slots t _ hv
  have hw : Region.wanted o (yielded ops a.tmps) = false := by subst hc; cases b <;> simp [Region.wanted, hg, yielded, hog, ht, hv1, hv2.lit_inv]
  refine wpLX_skip hw ?_
  rw [hd]
  exact H B w S _ (hs.put (.v _) hN)
theorem awl_nil {ops : Array Oper} (H : Q .normal s h) : AWL P N ops [] Q s h := fun B w S a hs => ⟨rfl, S, s, h, H, hs⟩
theorem postR_post {B : Base} (e : Exit) (a : Act) (w : World) (h : postR B N Q e a w) : post B N Q e a w := h.2
theorem awp_region {id : Nat} {ops : Array Oper} (hn : ops.toList.all ndO = true) (H : AWL P N ops ops.toList Q s h) : AWP P N ro (.region id ops false) Q s h := fun B w S a hs => Code.wpIn_mono postR_post (wpIn_regionX hn (H B w S a hs))
theorem awp_region_lit {id : Nat} {l : List Oper} (hn : l.all ndO = true) (H : AWL P N l.toArray l Q s h) : AWP P N ro (.region id l.toArray false) Q s h := awp_region (by simpa using hn) (by simpa using H)

/-! control -/
def thenQ (K : Slots → List Ent → Prop) (Q : Exit → Slots → List Ent → Prop) : Exit → Slots → List Ent → Prop
  | .normal, s, h => K s h
  | e, s, h => Q e s h
def blockQ (id : Nat) (Q : Exit → Slots → List Ent → Prop) : Exit → Slots → List Ent → Prop
  | .exit i, s, h => cond (Nat.beq i id) (Q .normal s h) (Q (.exit i) s h)
  | e, s, h => Q e s h
def scopeQ (Q : Exit → Slots → List Ent → Prop) : Exit → Slots → List Ent → Prop
  | .goto _, _, _ => False
  | e, s, h => Q e s h
theorem awp_seq {x y : Code} (H : AWP P N ro x (thenQ (AWP P N ro y Q) Q) s h) : AWP P N ro (.seq x y) Q s h := fun B w S a hs =>
  wpIn_seq (Code.wpIn_mono (fun e a' w' hq => by
    obtain ⟨S', s', h', hq, hs'⟩ := hq
    cases e with
    | normal => exact hq B w' S' a' hs'
    | _ => exact ⟨S', s', h', hq, hs'⟩) (H B w S a hs))
theorem awp_block {id : Nat} {c : Code} (H : AWP P N ro c (blockQ id Q) s h) : AWP P N ro (.block id c) Q s h := fun B w S a hs =>
  wpIn_block (Code.wpIn_mono (fun e a' w' hq => by
    obtain ⟨S', s', h', hq, hs'⟩ := hq
    cases e with
    | exit i =>
      simp only [Exit.inBlock]
      by_cases hi : i = id
      · subst hi
        simp only [blockQ, Nat.beq_refl, cond_true] at hq
        rw [if_pos rfl]
        exact ⟨S', s', h', hq, hs'⟩
      · have hb : Nat.beq i id = false := by
          cases hq : Nat.beq i id with
          | false => rfl
          | true => exact absurd (Nat.eq_of_beq_eq_true hq) hi
        simp only [blockQ, hb, cond_false] at hq
        rw [if_neg hi]
        exact ⟨S', s', h', hq, hs'⟩
    | _ => exact ⟨S', s', h', hq, hs'⟩) (H B w S a hs))
theorem awp_scope {c : Code} (H : AWP P N none c (scopeQ Q) s h) : AWP P N none (.scope c) Q s h := fun B w S a hs =>
  wpIn_wide.2 (wp_scope_straight (Code.wp_mono (fun e a' w' hq => by
    obtain ⟨S', s', h', hq, hs'⟩ := hq
    cases e with
    | goto l => exact hq.elim
    | _ => exact ⟨S', s', h', hq, hs'⟩) (wpIn_wide.1 (H B w S a hs))))
theorem awp_label {l : Nat} (H : Q .normal s h) : AWP P N ro (.label l) Q s h := fun B w S a hs => wpIn_label ⟨S, s, h, H, hs⟩
theorem awp_skip (H : Q .normal s h) : AWP P N ro .skip Q s h := fun B w S a hs => wpIn_skip ⟨S, s, h, H, hs⟩
theorem awp_ret (H : Q .ret s h) : AWP P N ro .ret Q s h := fun B w S a hs => wpIn_ret ⟨S, s, h, H, hs⟩
theorem awp_exit {id : Nat} (H : Q (.exit id) s h) : AWP P N ro (.exit id) Q s h := fun B w S a hs => wpIn_exit ⟨S, s, h, H, hs⟩
theorem awp_cond {c : Operand} {x y : Code} {b : Bool} (hc : evA s c = some (.v (.bool b))) (Ht : b = true → AWP P N ro x Q s h) (Hf : b = false → AWP P N ro y Q s h) : AWP P N ro (.cond c x y) Q s h := fun B w S a hs =>
  wpIn_cond_split (hs.slots.lit hc) (fun e => Ht e B w S a hs) (fun e => Hf e B w S a hs)

/-! states that know less -/
def SubS : Slots → Slots → Prop
  | [], _ => True
  | (d, x) :: r, s => look s d = some x ∧ SubS r s
theorem SubS.look {s' s : Slots} (H : SubS s' s) : ∀ d x, look s' d = some x → look s d = some x := by
  induction s' with
  | nil => intro d x hx; simp [Tl.look] at hx
  | cons p r ih =>
    obtain ⟨e, y⟩ := p
    intro d x hx
    simp only [Tl.look] at hx
    cases hb : Nat.beq e d with
    | true =>
      rw [hb] at hx
      simp at hx
      subst hx
      rw [← Nat.eq_of_beq_eq_true hb]
      exact H.1
    | false =>
      rw [hb] at hx
      exact ih H.2 d x hx
inductive SubH : List Ent → List Ent → Prop where
  | nil {l : List Ent} : SubH [] l
  | cons {e : Ent} {r l l' : List Ent} (hp : Pick l e l') (H : SubH r l') : SubH (e :: r) l
theorem SubH.mem {r l : List Ent} (H : SubH r l) : ∀ z ∈ r, z ∈ l := by
  induction H with
  | nil => intro z hz; cases hz
  | cons hp _ ih =>
    intro z hz
    obtain ⟨a, b, rfl, rfl⟩ := hp.split
    rcases List.mem_cons.1 hz with rfl | hz
    · simp
    · have := ih z hz
      rcases List.mem_append.1 this with h | h
      · exact List.mem_append_left _ h
      · exact List.mem_append_right _ (List.mem_cons_of_mem _ h)
theorem SubH.sep {r l : List Ent} (H : SubH r l) : l.Pairwise Apart → r.Pairwise Apart := by
  induction H with
  | nil => intro _; exact List.Pairwise.nil
  | cons hp H ih =>
    intro hl
    obtain ⟨a, b, rfl, rfl⟩ := hp.split
    have hl2 := hl
    rw [List.pairwise_append] at hl2
    obtain ⟨ha, hb, hab⟩ := hl2
    rw [List.pairwise_cons] at hb
    refine List.pairwise_cons.2 ⟨fun z hz => ?_, ih (List.pairwise_append.2 ⟨ha, hb.2, fun x hx y hy => hab x hx y (List.mem_cons_of_mem _ hy)⟩)⟩
    rcases List.mem_append.1 (H.mem z hz) with h | h
    · exact (hab z h _ List.mem_cons_self).symm
    · exact hb.1 z h
theorem SubH.heap {w : World} {S : Nat → Prop} {r l : List Ent} (H : SubH r l) (hr : HRel w S l) : HRel w S r :=
  ⟨fun z hz => hr.ent z (H.mem z hz), fun z hz => hr.off z (H.mem z hz), H.sep hr.sep⟩
theorem Sim.weak {B : Base} {w : World} {S : Nat → Prop} {a : Act} (hs : Sim B N w S s h a) {s' : Slots} {h' : List Ent} (h1 : SubS s' s) (h2 : SubH h' h) : Sim B N w S s' h' a :=
  ⟨hs.ext, hs.defs.keep (fun _ _ _ => rfl) (fun _ h => .inl h) (fun e he r hb => .inl ⟨e, h2.mem e he, hb⟩), hs.size, fun d x hx => hs.slots d x (h1.look d x hx), hs.lt, h2.heap hs.heap, fun z hz => hs.live z (h2.mem z hz), hs.off⟩
theorem Sim.sub {B : Base} {w : World} {S : Nat → Prop} {a : Act} (hs : Sim B N w S s h a) {h' : List Ent} (h2 : SubH h' h) : Sim B N w S s h' a :=
  ⟨hs.ext, hs.defs.keep (fun _ _ _ => rfl) (fun _ h => .inl h) (fun e he r hb => .inl ⟨e, h2.mem e he, hb⟩), hs.size, hs.slots, hs.lt, h2.heap hs.heap, fun z hz => hs.live z (h2.mem z hz), hs.off⟩
theorem awp_weak {c : Code} {s' : Slots} {h' : List Ent} (h1 : SubS s' s) (h2 : SubH h' h) (H : AWP P N ro c Q s' h') : AWP P N ro c Q s h := fun B w S a hs => H B w S a (hs.weak h1 h2)
theorem awp_mono {c : Code} {Q' : Exit → Slots → List Ent → Prop} (H : AWP P N ro c Q s h) (hq : ∀ e s' h', Q e s' h' → Q' e s' h') : AWP P N ro c Q' s h := fun B w S a hs =>
  Code.wpIn_mono (fun e a' w' ⟨S', s', h', hq', hs'⟩ => ⟨S', s', h', hq e s' h' hq', hs'⟩) (H B w S a hs)

theorem roundsX_mono {c : Code} {R : Exit → Act → World → Prop} : ∀ (k l : Nat), k ≤ l → ∀ a w, Code.roundsIn (FR ro) 0 P c R k a w → Code.roundsIn (FR ro) 0 P c R l a w
  | 0, _, _, _, _, h => h.elim
  | k + 1, 0, hkl, _, _, _ => absurd hkl (by omega)
  | k + 1, l + 1, hkl, a, w, h => by
    rw [roundsIn_succ] at h ⊢
    exact Code.wpIn_mono (fun e a' w' hq => by
      cases e with
      | normal => exact roundsX_mono k l (by omega) a' w' hq
      | _ => exact hq) h
/-- a round's end -/
def roundQ (I : Nat → Slots → List Ent → Prop) (n : Nat) (Q : Exit → Slots → List Ent → Prop) : Exit → Slots → List Ent → Prop
  | .normal, s, h => ∃ m s' h', m < n ∧ I m s' h' ∧ SubS s' s ∧ SubH h' h
  | e, s, h => Q e s h
theorem awp_loop {c : Code} (I : Nat → Slots → List Ent → Prop) (H : ∀ n s' h', I n s' h' → AWP P N ro c (roundQ I n Q) s' h') {n : Nat} {s' : Slots} {h' : List Ent} (h0 : I n s' h') (h1 : SubS s' s) (h2 : SubH h' h) : AWP P N ro (.loop c) Q s h := fun B w S a hs => by
  have key : ∀ n s' h', I n s' h' → ∀ (w : World) (S : Nat → Prop) (a : Act), Sim B N w S s' h' a → Code.roundsIn (FR ro) 0 P c (post B N Q) (n + 1) a w := by
    intro n
    induction n using Nat.strongRecOn with
    | _ n ih =>
      intro s' h' hI w S a hs
      rw [roundsIn_succ]
      refine Code.wpIn_mono (fun e a' w' hq => ?_) (H n s' h' hI B w S a hs)
      obtain ⟨S1, s1, h1, hq, hs1⟩ := hq
      cases e with
      | normal =>
        obtain ⟨m, s2, h2, hm, hI2, hss, hsh⟩ := hq
        exact roundsX_mono (m + 1) n (by omega) a' w' (ih m hm s2 h2 hI2 w' S1 a' (hs1.weak hss hsh))
      | _ => exact ⟨S1, s1, h1, hq, hs1⟩
  exact wpIn_loop_rounds _ (key n s' h' h0 w S a (hs.weak h1 h2))

/-! steps that no operation takes -/
/-- an owned list that is not written any more becomes a tree -/
theorem awp_nilrow {c : Code} (E sz : Nat) (H : AWP P N ro c Q s (.rw (.slice none 0 0) E sz [] :: h)) : AWP P N ro c Q s h := fun B w S a hs =>
  H B w S a (hs.push .refl ⟨[], ⟨by simp, .inl ⟨rfl, rfl⟩⟩, .nil, by simp⟩ (fun g hg => by simp [Ent.blk, Value.ownBlock] at hg))
theorem awl_nilrow {ops : Array Oper} {l : List Oper} (E sz : Nat) (H : AWL P N ops l Q s (.rw (.slice none 0 0) E sz [] :: h)) : AWL P N ops l Q s h := fun B w S a hs =>
  H B w S a (hs.push .refl ⟨[], ⟨by simp, .inl ⟨rfl, rfl⟩⟩, .nil, by simp⟩ (fun g hg => by simp [Ent.blk, Value.ownBlock] at hg))
end
end Go.Tl
