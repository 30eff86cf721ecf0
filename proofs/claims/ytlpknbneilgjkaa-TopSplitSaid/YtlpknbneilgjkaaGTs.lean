/- Joined texts: Awc, Tls, Cpy. -/
import Derived.Test.YtlpknbneilgjkaaGTy
import Derived.Test.YtlpknbneilgjkaaTlp
import Derived.Test.YtlpknbneilgjkaaGTx
import Derived.Laws.CopyRow
section
namespace Go.Tl
open Go Go.RowKit
set_option linter.unusedVariables false
set_option linter.unusedSimpArgs false
theorem wpX_mono2 {P : Program} {o : Oper} {a : Act} {w : World} {K K' : Act → World → Prop} {Q Q' : Exit → Act → World → Prop} (h : ∀ a w, K a w → K' a w) (hq : ∀ e a w, Q e a w → Q' e a w) (hh : wpX P o a w K Q) : wpX P o a w K' Q' := by
  unfold wpX at *
  generalize (execOp a.eval o).run P w = r at *
  cases r with
  | ok x w' =>
    cases x <;> simp only [Oper.uponIn] at hh ⊢ <;>
      first
        | exact h _ _ hh
        | exact hq _ _ _ hh
        | exact ⟨hh.1, CallsIn.mono hh.2 (fun e w'' he => by cases e <;> first | exact h _ _ he | exact hq _ _ _ he | exact ⟨he.choose, he.choose_spec.choose, hq _ _ _ he.choose_spec.choose_spec⟩ | exact he)⟩
        | exact ⟨hh.1, RowsIn.mono hh.2 (fun _ _ he => h _ _ he)⟩
        | exact ⟨hh.1, RoundIn.mono hh.2 (fun e w'' he => by cases e <;> first | exact h _ _ he | exact hq _ _ _ he | exact ⟨he.choose, he.choose_spec.choose, hq _ _ _ he.choose_spec.choose_spec⟩ | exact he)⟩
        | exact hh
  | halt x w' => cases x <;> simp only [Oper.uponIn] at hh ⊢ <;> first | exact hh | exact hq _ _ _ hh
theorem wpLX_mono {P : Program} {ops : Array Oper} {Q Q' : Exit → Act → World → Prop} (hq : ∀ e a w, Q e a w → Q' e a w) : ∀ (l : List Oper) (a : Act) (w : World), wpLX P ops Q l a w → wpLX P ops Q' l a w
  | [], a, w, h => hq _ _ _ h
  | o :: rest, a, w, h => by
    simp only [wpLX] at h ⊢
    split
    · rename_i c
      rw [if_pos c] at h
      exact wpX_mono2 (fun a w h => wpLX_mono hq rest a w h) hq h
    · rename_i c
      rw [if_neg c] at h
      exact wpLX_mono hq rest _ w h
theorem awl_mono {P : Program} {N : Nat} {ops : Array Oper} {l : List Oper} {Q Q' : Exit → Slots → List Ent → Prop} {s : Slots} {h : List Ent} (hq : ∀ s' h', Q .normal s' h' → Q' .normal s' h') (H : AWL P N ops l Q s h) : AWL P N ops l Q' s h := fun B w S a hs =>
  wpLX_mono (fun e a' w' ⟨he, S', s', h', h1, h2⟩ => by subst he; exact ⟨rfl, S', s', h', hq _ _ h1, h2⟩) l a w (H B w S a hs)
theorem awl_cut {P : Program} {N : Nat} {ro : Option Nat} {ops : Array Oper} {l : List Oper} {y : Code} {Q Q' : Exit → Slots → List Ent → Prop} {s : Slots} {h : List Ent} (M : Slots → List Ent → Prop) (H1 : AWL P N ops l (cutQ M) s h) (H2 : ∀ s' h', M s' h' → AWP P N ro y Q s' h') : AWL P N ops l (thenQ (AWP P N ro y Q) Q') s h :=
  awl_mono (fun s1 h1 ⟨_, s', h', hs, hh, hM⟩ => awp_weak hs hh (H2 s' h' hM)) H1
theorem pv_eqlb {P : Program} {o : Oper} {s : Slots} {t t' : TypeId} {x z : Operand} {a b : Bool} (ho : o.op = .binOp .eql t x z t') (hx : evA s x = some (.v (.bool a))) (hz : evA s z = some (.v (.bool b))) (hu : P.underlying t = some .bool) : PV P o s (.v (.bool (a == b))) :=
  pv_bin ho hx hz (fun w => by
    have h := run_equal_bool (P := P) (w := w) t a b hu
    simp [eqGuard, binOp, h])
end Go.Tl
end
section
namespace Go.Tl
open Go Go.RowKit
set_option linter.unusedVariables false
set_option linter.unusedSimpArgs false
theorem pick_comm {α : Type} {x y : α} {c c0 : List α} (h : Pick c y c0) : ∀ {c1 : List α}, Pick c0 x c1 → ∃ c', Pick c x c' ∧ Pick c' y c1 := by
  induction h with
  | here => exact fun h2 => ⟨_, .there h2, .here⟩
  | there h ih =>
    intro c1 h2
    cases h2 with
    | here => exact ⟨_, .here, h⟩
    | there h2 =>
      obtain ⟨c', k1, k2⟩ := ih h2
      exact ⟨_, .there k1, .there k2⟩
theorem SubH.pick {b c : List Ent} (h : SubH b c) : ∀ {x : Ent} {b' : List Ent}, Pick b x b' → ∃ c', Pick c x c' ∧ SubH b' c' := by
  induction h with
  | nil => intro x b' h; cases h
  | cons hp H ih =>
    intro x b' h
    cases h with
    | here => exact ⟨_, hp, H⟩
    | there h =>
      obtain ⟨c1, k1, k2⟩ := ih h
      obtain ⟨c', k3, k4⟩ := pick_comm hp k1
      exact ⟨c', k3, .cons k4 k2⟩
theorem SubH.trans {a b c : List Ent} (h : SubH a b) : SubH b c → SubH a c := by
  induction h generalizing c with
  | nil => exact fun _ => .nil
  | cons hp H ih =>
    intro h2
    obtain ⟨c', k1, k2⟩ := h2.pick hp
    exact .cons k1 (ih k2)
theorem awp_cutY {P : Program} {N : Nat} {ro : Option Nat} {id k : Nat} {x : Code} {I : Nat → List Ent → Prop} {X : Nat → Exit → List Ent → Prop} {s : Slots} {h : List Ent} (M : Slots → List Ent → Prop) (H1 : AWP P N ro x (cutQ M) s h) (H2 : ∀ s' h', M s' h' → ∃ h2, SubH h2 h' ∧ I (k + 1) h2) :
    AWP P N ro x (blockQ id (stepQ I X k)) s h :=
  awp_mono H1 fun e s1 h1 ⟨he, s', h', hs, hh, hM⟩ => by
    subst he
    obtain ⟨h2, k1, k2⟩ := H2 s' h' hM
    exact ⟨h2, k1.trans hh, k2⟩
/-- a region, within a range over a function too -/
def findQ (n : Nat) : Code → Option (Array Oper)
  | .region id ops _ => if Nat.beq id n then some ops else none
  | .seq a b => orR (findQ n a) (findQ n b)
  | .block _ a => findQ n a
  | .loop a => findQ n a
  | .scope a => findQ n a
  | .cond _ a b => orR (findQ n a) (findQ n b)
  | .rangeFunc _ _ a b => orR (findQ n a) (findQ n b)
  | _ => none
def regG (f : Func) (n : Nat) : Option (Array Oper) := match f.body with
  | some c => findQ n c
  | none => none
theorem own_con {hc h : List Ent} {L D : Nat} {r r' : Loop} {s : Slots} {g : Nat} : Own [.ob (conOb L D r s (hc ++ h))] g ↔ Own (.ob (conOb L D r' s h) :: hc) g := by
  constructor
  · rintro ⟨e, he, hg⟩
    obtain rfl := List.mem_singleton.1 he
    rcases hg with ⟨e, he, hg⟩ | hg
    · rcases List.mem_append.1 he with he | he
      · exact ⟨e, List.mem_cons_of_mem _ he, hg⟩
      · exact ⟨_, List.mem_cons_self, .inl ⟨e, he, hg⟩⟩
    · exact ⟨_, List.mem_cons_self, .inr hg⟩
  · rintro ⟨e, he, hg⟩
    refine ⟨_, List.mem_singleton.2 rfl, ?_⟩
    rcases List.mem_cons.1 he with rfl | he
    · rcases hg with ⟨e, he, hg⟩ | hg
      · exact .inl ⟨e, List.mem_append_right _ he, hg⟩
      · exact .inr hg
    · exact .inl ⟨e, List.mem_append_left _ he, hg⟩
theorem con_pack {w : World} {S : Nat → Prop} {hc h : List Ent} {L D : Nat} {r : Loop} {s : Slots} (hp : h.Pairwise Apart) (hL : ¬ Own h L) (hD : ¬ Own h D) (H : HRel w S (.ob (conOb L D r s h) :: hc)) :
    HRel w S [.ob (conOb L D r s (hc ++ h))] ∧ (hc ++ h).Pairwise Apart ∧ ¬ Own (hc ++ h) L ∧ ¬ Own (hc ++ h) D := by
  have hs := List.pairwise_cons.1 H.sep
  obtain ⟨h1, h2, h3, h4⟩ := H.ent _ List.mem_cons_self
  have hno : ∀ g, Own hc g → ¬ (Own h g ∨ g = L ∨ g = D) := fun g ⟨e, he, hg⟩ hx => hs.1 e he g hx hg
  refine ⟨⟨fun e he => ?_, fun e he g hg => ?_, List.pairwise_singleton _ _⟩, List.pairwise_append.2 ⟨hs.2, hp, fun e he e' he' g hg hg' => hno g ⟨e, he, hg⟩ (.inl ⟨e', he', hg'⟩)⟩, ?_, ?_⟩
  · obtain rfl := List.mem_singleton.1 he
    refine ⟨fun e he => ?_, h2, h3, h4⟩
    rcases List.mem_append.1 he with he | he
    · exact H.ent e (List.mem_cons_of_mem _ he)
    · exact h1 e he
  · obtain rfl := List.mem_singleton.1 he
    obtain ⟨e2, he2, hg2⟩ := own_con.1 ⟨_, List.mem_singleton.2 rfl, hg⟩
    exact H.off e2 he2 g hg2
  · rintro ⟨e, he, hg⟩
    rcases List.mem_append.1 he with he | he
    · exact hno L ⟨e, he, hg⟩ (.inr (.inl rfl))
    · exact hL ⟨e, he, hg⟩
  · rintro ⟨e, he, hg⟩
    rcases List.mem_append.1 he with he | he
    · exact hno D ⟨e, he, hg⟩ (.inr (.inr rfl))
    · exact hD ⟨e, he, hg⟩
theorem con_unpack {w : World} {S : Nat → Prop} {hc h : List Ent} {L D : Nat} {r : Loop} {s : Slots} (hp : (hc ++ h).Pairwise Apart) (hL : ¬ Own (hc ++ h) L) (hD : ¬ Own (hc ++ h) D) (H : HRel w S [.ob (conOb L D r s (hc ++ h))]) :
    HRel w S (.ob (conOb L D r s h) :: hc) ∧ h.Pairwise Apart ∧ ¬ Own h L ∧ ¬ Own h D := by
  have hs := List.pairwise_append.1 hp
  obtain ⟨h1, h2, h3, h4⟩ := H.ent _ List.mem_cons_self
  have hc' : ∀ g, Own hc g → Own (hc ++ h) g := fun g ⟨e, he, hg⟩ => ⟨e, List.mem_append_left _ he, hg⟩
  have hh' : ∀ g, Own h g → Own (hc ++ h) g := fun g ⟨e, he, hg⟩ => ⟨e, List.mem_append_right _ he, hg⟩
  refine ⟨⟨fun e he => ?_, fun e he g hg => ?_, List.pairwise_cons.2 ⟨fun e he g hg hg' => ?_, hs.1⟩⟩, hs.2.1, fun h => hL (hh' _ h), fun h => hD (hh' _ h)⟩
  · rcases List.mem_cons.1 he with rfl | he
    · exact ⟨fun e he => h1 e (List.mem_append_right _ he), h2, h3, h4⟩
    · exact h1 e (List.mem_append_left _ he)
  · obtain ⟨e2, he2, hg2⟩ := (own_con (r := r) (r' := r)).2 ⟨e, he, hg⟩
    exact H.off e2 he2 g hg2
  · rcases hg with ⟨e', he', hg⟩ | rfl | rfl
    · exact hs.2.2 e he e' he' g hg' hg
    · exact hL (hc' _ ⟨e, he, hg'⟩)
    · exact hD (hc' _ ⟨e, he, hg'⟩)
/-- what an iterator comes to that looks at what the body owns -/
def ISpecS (P : Program) (f : Nat) (args : AV → List AV) (hc : List Ent) (Pre Full : List (List AV) → Prop) : Prop :=
  ∀ (l : Nat) (C : List (List AV) → Ob → Prop) (X : List (List AV) → List Ent → Prop),
    (∀ pre y, Pre (pre ++ [y]) → ∀ o, C pre o → YCall P l y (.ob o :: hc) (fun r h' => (r = boolA true ∧ ∃ o', h' = .ob o' :: hc ∧ C (pre ++ [y]) o') ∨ (r = boolA false ∧ X (pre ++ [y]) h'))) →
    ∀ o, C [] o → ACall P f (args (.v (.func (.yield l) #[] #[]))) (.ob o :: hc) (fun r h' => (∃ L o', Full L ∧ C L o' ∧ h' = .ob o' :: hc) ∨ ∃ L, Pre L ∧ X L h')
section
variable {P : Program} {N : Nat} {s : Slots} {h : List Ent} {Q : Exit → Slots → List Ent → Prop}
theorem awp_rangeFuncS (T : TT P) {g : Operand} {ps : Array Tmp} {assign body : Code} {yc : AV} {f : Nat} {fs cs : List AV} {hc hf : List Ent} {Pre Full : List (List AV) → Prop} (I : List (List AV) → List Ent → Prop) (X : List (List AV) → Exit → List Ent → Prop)
    (hcal : evA s g = some yc) (hcl : Callee yc f fs cs) (hfn : T.fns.any (Nat.beq f) = true) (it : ISpecS P f (fun y => fs ++ [y] ++ cs) hc Pre Full) (hsub : SubH (hc ++ hf) h) (hI : I [] hf)
    (hes : ∀ pre y, Pre (pre ++ [y]) → y.length = ps.size) (hpn : ps.toList.all (fun p => Nat.blt p N) = true)
    (hround : ∀ l pre y h', Pre (pre ++ [y]) → I pre h' → AWP P N (some l) assign (fun e s1 h1 => e = .normal ∧ AWP P N (some l) body (stepQ (nx (fun h => ∃ h', h = hc ++ h' ∧ I pre h') (fun h => ∃ h', h = hc ++ h' ∧ I (pre ++ [y]) h')) (fun _ => X (pre ++ [y])) 0) s1 h1) (paramsS ps.toList y s) (hc ++ h'))
    (hdone : ∀ L h', Full L → I L h' → Q .normal s (hc ++ h')) (hret : ∀ L h', Pre L → X L .ret h' → Q .ret s h') (hexit : ∀ L id h', Pre L → X L (.exit id) h' → Q (.exit id) s h') : AWP P N none (.rangeFunc g ps assign body) Q s h := by
  refine awp_rangeFuncC T (hc := []) (hf := hc ++ hf) (Pre := Pre) (Full := Full) (fun pre h => ∃ h', h = hc ++ h' ∧ I pre h') X hcal hcl hfn ?_ hsub ⟨hf, rfl, hI⟩ hes hpn (fun l pre y h' hp hI => ?_) (fun L h' hF hI => ?_) hret hexit
  case refine_2 =>
    obtain ⟨h0, e, hI⟩ := hI
    subst e
    exact hround l pre y h0 hp hI
  case refine_3 =>
    obtain ⟨h0, e, hI⟩ := hI
    subst e
    exact hdone L h0 hF hI
  intro D L rec hy o ho
  obtain ⟨h, ⟨h0, e, hI0⟩, hp, hL, hD, rfl⟩ := ho
  subst e
  have hs := List.pairwise_append.1 hp
  have hL0 : ¬ Own h0 L := fun ⟨e, he, hg⟩ => hL ⟨e, List.mem_append_right _ he, hg⟩
  have hD0 : ¬ Own h0 D := fun ⟨e, he, hg⟩ => hD ⟨e, List.mem_append_right _ he, hg⟩
  have C := it L (fun pre o => conC L D rec s (fun _ => I pre) 0 o) (fun pre h' => ∃ o', h' = [.ob o'] ∧ conX L D rec s (fun _ => X pre) 0 o') (fun pre y hpre o hC w S vs hlt hrel hvs => by
    obtain ⟨h1, hI1, hp1, hL1, hD1, rfl⟩ := hC
    obtain ⟨hrel2, k1, k2, k3⟩ := con_pack hp1 hL1 hD1 hrel
    obtain ⟨fn, tmps, assign', body', e, hr⟩ := hy pre y hpre _ ⟨hc ++ h1, ⟨h1, rfl, hI1⟩, k1, k2, k3, rfl⟩ w S vs hlt hrel2 hvs
    refine ⟨fn, tmps, assign', body', e, hr.mono fun e w' ⟨v, S', r, h', e1, ⟨o', eh, hq⟩, hvr, E, hlt', hr', hl'⟩ => ?_⟩
    subst eh
    have E' : Ext ⟨w, S, Own (.ob (conOb L D (rec .ready none) s h1) :: hc)⟩ w' S' := ⟨E.os, E.tape, E.output, E.size, fun b hb hn => E.keep b hb (fun ho => hn (own_con.1 ho)), E.stab, fun b hb => by
      rcases E.new b hb with h | h | h
      · exact .inl h
      · exact .inr (.inl h)
      · exact .inr (.inr (own_con.1 h))⟩
    rcases hq with ⟨rfl, h2, ⟨h3, eh, hI3⟩, q1, q2, q3, rfl⟩ | ⟨rfl, hX⟩
    · subst eh
      obtain ⟨hr2, p1, p2, p3⟩ := con_unpack q1 q2 q3 hr'
      refine ⟨v, S', _, _, e1, .inl ⟨rfl, _, rfl, h3, hI3, p1, p2, p3, rfl⟩, hvr, E', hlt', hr2, fun e he g hg => ?_⟩
      obtain ⟨e2, he2, hg2⟩ := (own_con (r := rec .ready none) (r' := rec .ready none)).2 ⟨e, he, hg⟩
      rcases hl' e2 he2 g hg2 with h | h
      · exact .inl (own_con.1 h)
      · exact .inr h
    · refine ⟨v, S', _, _, e1, .inr ⟨rfl, o', rfl, hX⟩, hvr, E', hlt', hr', fun e he g hg => ?_⟩
      rcases hl' e he g hg with h | h
      · exact .inl (own_con.1 h)
      · exact .inr h) _ ⟨h0, hI0, hs.2.1, hL0, hD0, rfl⟩
  intro w S vs hlt hrel hvs
  obtain ⟨hrel2, _⟩ := con_unpack hp hL hD hrel
  refine (C w S vs hlt hrel2 hvs).mono fun e w' ⟨v, S', r, h', e1, hq, hvr, E, hlt', hr', hl'⟩ => ?_
  have E' : Ext ⟨w, S, Own [.ob (conOb L D (rec .ready none) s (hc ++ h0))]⟩ w' S' := ⟨E.os, E.tape, E.output, E.size, fun b hb hn => E.keep b hb (fun ho => hn (own_con.2 ho)), E.stab, fun b hb => by
    rcases E.new b hb with h | h | h
    · exact .inl h
    · exact .inr (.inl h)
    · exact .inr (.inr (own_con.2 h))⟩
  rcases hq with ⟨L', o', hF, ⟨h3, hI3, q1, q2, q3, rfl⟩, rfl⟩ | ⟨L', hPr, o', rfl, hX⟩
  · obtain ⟨hr2, p1, p2, p3⟩ := con_pack q1 q2 q3 hr'
    refine ⟨v, S', r, _, e1, ⟨_, rfl, .inl ⟨L', hF, _, ⟨h3, rfl, hI3⟩, p1, p2, p3, rfl⟩⟩, hvr, E', hlt', hr2, fun e he g hg => ?_⟩
    obtain ⟨e2, he2, hg2⟩ := own_con.1 ⟨e, he, hg⟩
    rcases hl' e2 he2 g hg2 with h | h
    · exact .inl (own_con.2 h)
    · exact .inr h
  · refine ⟨v, S', r, _, e1, ⟨o', rfl, .inr ⟨L', hPr, hX⟩⟩, hvr, E', hlt', hr', fun e he g hg => ?_⟩
    rcases hl' e he g hg with h | h
    · exact .inl (own_con.2 h)
    · exact .inr h
end
end Go.Tl
end
section
namespace Go.Tl
open Go Go.RowKit
set_option linter.unusedVariables false
set_option linter.unusedSimpArgs false
theorem flat_ones {α : Type} : ∀ l : List α, (l.map fun x => [x]).flatten = l
  | [] => rfl
  | x :: l => by simp [flat_ones l]
section
variable {P : Program} {N : Nat} {o : Oper} {md : Nat → Prop} {s : Slots} {h h1 : List Ent} {K : Slots → List Ent → Prop}
theorem aop_copy_ca (T : TT P) {t t' d e bt n m c c2 g g2 : Nat} {x y : Operand} {T2 : TypeId} {cs2 : List AV} {rows : List (List AV)} {h' : List Ent} (ho : o.op = .call { callee := .builtin .copy, args := #[x, y], argTypes := #[t, t'] }) (hd : o.dst = some d) (hN : Nat.blt d N = true) (ht : f2 T.elm t = some (e, 1, bt))
    (hx : evA s x = some (.v (.slice (some ⟨g, 0, none⟩) n c))) (hy : evA s y = some (.v (.slice (some ⟨g2, 0, none⟩) m c2))) (hm2 : Mem1 (.cl g2 T2 cs2) h) (hp : Repl h (.rw (.slice (some ⟨g, 0, none⟩) n c) e 1 rows) (.rw (.slice (some ⟨g, 0, none⟩) n c) e 1 ((cs2.take n).map fun x => [x])) h') (hn : rows.length = n) (hl2 : cs2.length = m) (hnm : n ≤ m) (hone : cs2.all oneA = true)
    (hmd : md g) (hK : K ((d, intA (n : Nat)) :: s) h') : AOp P N o md s h K := fun B w S a hs Kr Qr hk => by
  obtain ⟨j, hund, hj, hjs, hjb, hne⟩ := T.elm_at ht
  have hmem : Ent.rw (.slice (some ⟨g, 0, none⟩) n c) e 1 rows ∈ h := by obtain ⟨p, q, rfl, _⟩ := hp.split; simp
  obtain ⟨xs, hown, hr, hlr⟩ := hs.heap.ent _ hmem
  obtain ⟨vs2, hvs2, hr2⟩ := hs.heap.ent _ hm2.mem
  rcases hown.2 with ⟨e0, _⟩ | ⟨g', cap, cur, e0, hb0, hg, hcap, hml, hsz, htk⟩
  · simp at e0
  simp at e0
  obtain ⟨rfl, hlen, rfl⟩ := e0
  subst hn
  have hv2l : vs2.length = m := by rw [← hr2.1]; exact hl2
  have hrt : VRels w S (cs2.take rows.length) (vs2.take rows.length) := hr2.take _
  have hones := ones_rel hrt (fun cc hcc => List.all_eq_true.1 hone cc (List.mem_of_mem_take hcc))
  have htl : (vs2.take rows.length).length = rows.length := by rw [List.length_take]; omega
  have hrun0 := run_copy_row (P := P) w t t' o.type e g 0 rows.length c ⟨g2, 0, none⟩ m c2 cur e (vs2.take rows.length) hund (by rw [hj]; simp [hjs]) hg (by rw [htl]; exact (Nat.min_eq_right hnm).symm) (fun q u hq => by
    have hq2 : q < rows.length := by
      rcases Nat.lt_or_ge q rows.length with h | h
      · exact h
      · rw [List.getElem?_eq_none (by omega)] at hq; cases hq
    rw [List.getElem?_take_of_lt hq2] at hq
    rw [Addr.add_lit]
    simp [World.cell?, hvs2, hq]) (by rw [htl, hsz]; omega) hones
  rw [htl] at hrun0
  have hrun : (execOp a.eval o).run P w = .ok (.value (.int .i64 (rows.length : Int))) (w.setRow g (cur.toList.take 0 ++ vs2.take rows.length ++ cur.toList.drop (0 + rows.length)).toArray) := by
    simp only [execOp, ho, resolve, List.map_toArray, List.map_cons, List.map_nil, hs.slots.lit hx, hs.slots.lit hy]
    simp [invoke, builtin, hrun0, goInt, IntKind.wrap_i64]
  unfold wpX
  rw [hd] at hk
  rw [hrun, Oper.uponIn_value, hd]
  generalize hnew : (cur.toList.take 0 ++ vs2.take rows.length ++ cur.toList.drop (0 + rows.length)).toArray = new at *
  have hgw := grown_setRow w g new
  have hnl : new.toList = vs2.take rows.length ++ cur.toList.drop rows.length := by rw [← hnew]; simp
  have hrl : ((cs2.take rows.length).map fun x => [x]).length = rows.length := by rw [List.length_map, List.length_take]; omega
  have hcs : ∀ b, S b → (w.setRow g new).heap[b]? = w.heap[b]? := fun b hb => setRow_other w g b _ (fun e => hs.heap.off _ hmem g rfl (by rw [← e]; exact hb))
  refine hk _ _ S _ _ hK ((hs.repl hp (.of hgw (by simp [Ent.blk, Value.ownBlock])) ⟨vs2.take rows.length, ⟨?_, .inr ⟨g, c, new, by rw [hrl], hb0, setRow_heap w g _ _ e _ hg, by rw [hrl]; exact hcap, hml, ?_, ?_⟩⟩, ?_, ?_⟩ (fun g' hg' => .inl hg')).put (.v _) (blt_lt hN)) ⟨by simp, fun b hb hnb => setRow_other w g b _ (fun e => hnb (by rw [e]; exact hmd)), fun _ h => h⟩
  · rw [hrl, htl, Nat.mul_one]
  · have k1 : cur.toList.length = cur.size := Array.length_toList
    have k2 : new.toList.length = rows.length + (cur.toList.length - rows.length) := by rw [hnl, List.length_append, htl, List.length_drop]
    have k3 : new.toList.length = new.size := Array.length_toList
    omega
  · rw [hnl, hrl, Nat.mul_one, List.take_append_of_le_length (by omega), List.take_of_length_le (by omega)]
  · rw [flat_ones]
    exact hrt.mono (fun _ h => h) hcs
  · intro r hr'
    obtain ⟨x, _, rfl⟩ := List.mem_map.1 hr'
    rfl
end
end Go.Tl
end
