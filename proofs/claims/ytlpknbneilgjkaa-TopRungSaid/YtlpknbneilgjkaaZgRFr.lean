/- Joined texts: GTs, COp, RBas, RObp, RFr. -/
import Derived.Test.YtlpknbneilgjkaaZgGTy
import Derived.Test.YtlpknbneilgjkaaTlp
import Derived.Test.YtlpknbneilgjkaaGTx
import Derived.Laws.CopyRow
import Derived.Test.YtlpknbneilgjkaaZgCGHc
import Derived.WalkKit
import Derived.WalkSpells
import Derived.Lib.Hide
import Derived.Deep.QuietTactic
import Derived.BigQuiet
import Derived.ChangeSame
import Derived.ChangeSlices
import Derived.ChangeShapes
import Derived.Test.YtlpknbneilgjkaaTL
import Derived.Test.YtlpknbneilgjkaaZgCMsp
section
section
namespace Go.Tl
open Go Go.RowKit
set_option linter.unusedVariables false
set_option linter.unusedSimpArgs false
end Go.Tl
end
section
namespace Go.Tl
open Go Go.RowKit
set_option linter.unusedVariables false
set_option linter.unusedSimpArgs false
theorem pick_comm {α : Type} {x y : α} {c c0 : List α} (h : Pick c y c0) : ∀ {c1 : List α}, Pick c0 x c1 → ∃ c', Pick c x c' ∧ Pick c' y c1 := by
  induction h with
  | here => exact fun h2 => ⟨_, .there h2, .here⟩
  | there h ih =>
    intro c1 h2
    cases h2 with
    | here => exact ⟨_, .here, h⟩
    | there h2 =>
      obtain ⟨c', k1, k2⟩ := ih h2
      exact ⟨_, .there k1, .there k2⟩
theorem SubH.pick {b c : List Ent} (h : SubH b c) : ∀ {x : Ent} {b' : List Ent}, Pick b x b' → ∃ c', Pick c x c' ∧ SubH b' c' := by
  induction h with
  | nil => intro x b' h; cases h
  | cons hp H ih =>
    intro x b' h
    cases h with
    | here => exact ⟨_, hp, H⟩
    | there h =>
      obtain ⟨c1, k1, k2⟩ := ih h
      obtain ⟨c', k3, k4⟩ := pick_comm hp k1
      exact ⟨c', k3, .cons k4 k2⟩
theorem SubH.trans {a b c : List Ent} (h : SubH a b) : SubH b c → SubH a c := by
  induction h generalizing c with
  | nil => exact fun _ => .nil
  | cons hp H ih =>
    intro h2
    obtain ⟨c', k1, k2⟩ := h2.pick hp
    exact .cons k1 (ih k2)
theorem awp_cutY {P : Program} {N : Nat} {ro : Option Nat} {id k : Nat} {x : Code} {I : Nat → List Ent → Prop} {X : Nat → Exit → List Ent → Prop} {s : Slots} {h : List Ent} (M : Slots → List Ent → Prop) (H1 : AWP P N ro x (cutQ M) s h) (H2 : ∀ s' h', M s' h' → ∃ h2, SubH h2 h' ∧ I (k + 1) h2) :
    AWP P N ro x (blockQ id (stepQ I X k)) s h :=
  awp_mono H1 fun e s1 h1 ⟨he, s', h', hs, hh, hM⟩ => by
    subst he
    obtain ⟨h2, k1, k2⟩ := H2 s' h' hM
    exact ⟨h2, k1.trans hh, k2⟩
/-- a region, within a range over a function too -/
def findQ (n : Nat) : Code → Option (Array Oper)
  | .region id ops _ => if Nat.beq id n then some ops else none
  | .seq a b => orR (findQ n a) (findQ n b)
  | .block _ a => findQ n a
  | .loop a => findQ n a
  | .scope a => findQ n a
  | .cond _ a b => orR (findQ n a) (findQ n b)
  | .rangeFunc _ _ a b => orR (findQ n a) (findQ n b)
  | _ => none
def regG (f : Func) (n : Nat) : Option (Array Oper) := match f.body with
  | some c => findQ n c
  | none => none
theorem own_con {hc h : List Ent} {L D : Nat} {r r' : Loop} {s : Slots} {g : Nat} : Own [.ob (conOb L D r s (hc ++ h))] g ↔ Own (.ob (conOb L D r' s h) :: hc) g := by
  constructor
  · rintro ⟨e, he, hg⟩
    obtain rfl := List.mem_singleton.1 he
    rcases hg with ⟨e, he, hg⟩ | hg
    · rcases List.mem_append.1 he with he | he
      · exact ⟨e, List.mem_cons_of_mem _ he, hg⟩
      · exact ⟨_, List.mem_cons_self, .inl ⟨e, he, hg⟩⟩
    · exact ⟨_, List.mem_cons_self, .inr hg⟩
  · rintro ⟨e, he, hg⟩
    refine ⟨_, List.mem_singleton.2 rfl, ?_⟩
    rcases List.mem_cons.1 he with rfl | he
    · rcases hg with ⟨e, he, hg⟩ | hg
      · exact .inl ⟨e, List.mem_append_right _ he, hg⟩
      · exact .inr hg
    · exact .inl ⟨e, List.mem_append_left _ he, hg⟩
theorem con_pack {w : World} {S : Nat → Prop} {hc h : List Ent} {L D : Nat} {r : Loop} {s : Slots} (hp : h.Pairwise Apart) (hL : ¬ Own h L) (hD : ¬ Own h D) (H : HRel w S (.ob (conOb L D r s h) :: hc)) :
    HRel w S [.ob (conOb L D r s (hc ++ h))] ∧ (hc ++ h).Pairwise Apart ∧ ¬ Own (hc ++ h) L ∧ ¬ Own (hc ++ h) D := by
  have hs := List.pairwise_cons.1 H.sep
  obtain ⟨h1, h2, h3, h4⟩ := H.ent _ List.mem_cons_self
  have hno : ∀ g, Own hc g → ¬ (Own h g ∨ g = L ∨ g = D) := fun g ⟨e, he, hg⟩ hx => hs.1 e he g hx hg
  refine ⟨⟨fun e he => ?_, fun e he g hg => ?_, List.pairwise_singleton _ _⟩, List.pairwise_append.2 ⟨hs.2, hp, fun e he e' he' g hg hg' => hno g ⟨e, he, hg⟩ (.inl ⟨e', he', hg'⟩)⟩, ?_, ?_⟩
  · obtain rfl := List.mem_singleton.1 he
    refine ⟨fun e he => ?_, h2, h3, h4⟩
    rcases List.mem_append.1 he with he | he
    · exact H.ent e (List.mem_cons_of_mem _ he)
    · exact h1 e he
  · obtain rfl := List.mem_singleton.1 he
    obtain ⟨e2, he2, hg2⟩ := own_con.1 ⟨_, List.mem_singleton.2 rfl, hg⟩
    exact H.off e2 he2 g hg2
  · rintro ⟨e, he, hg⟩
    rcases List.mem_append.1 he with he | he
    · exact hno L ⟨e, he, hg⟩ (.inr (.inl rfl))
    · exact hL ⟨e, he, hg⟩
  · rintro ⟨e, he, hg⟩
    rcases List.mem_append.1 he with he | he
    · exact hno D ⟨e, he, hg⟩ (.inr (.inr rfl))
    · exact hD ⟨e, he, hg⟩
theorem con_unpack {w : World} {S : Nat → Prop} {hc h : List Ent} {L D : Nat} {r : Loop} {s : Slots} (hp : (hc ++ h).Pairwise Apart) (hL : ¬ Own (hc ++ h) L) (hD : ¬ Own (hc ++ h) D) (H : HRel w S [.ob (conOb L D r s (hc ++ h))]) :
    HRel w S (.ob (conOb L D r s h) :: hc) ∧ h.Pairwise Apart ∧ ¬ Own h L ∧ ¬ Own h D := by
  have hs := List.pairwise_append.1 hp
  obtain ⟨h1, h2, h3, h4⟩ := H.ent _ List.mem_cons_self
  have hc' : ∀ g, Own hc g → Own (hc ++ h) g := fun g ⟨e, he, hg⟩ => ⟨e, List.mem_append_left _ he, hg⟩
  have hh' : ∀ g, Own h g → Own (hc ++ h) g := fun g ⟨e, he, hg⟩ => ⟨e, List.mem_append_right _ he, hg⟩
  refine ⟨⟨fun e he => ?_, fun e he g hg => ?_, List.pairwise_cons.2 ⟨fun e he g hg hg' => ?_, hs.1⟩⟩, hs.2.1, fun h => hL (hh' _ h), fun h => hD (hh' _ h)⟩
  · rcases List.mem_cons.1 he with rfl | he
    · exact ⟨fun e he => h1 e (List.mem_append_right _ he), h2, h3, h4⟩
    · exact h1 e (List.mem_append_left _ he)
  · obtain ⟨e2, he2, hg2⟩ := (own_con (r := r) (r' := r)).2 ⟨e, he, hg⟩
    exact H.off e2 he2 g hg2
  · rcases hg with ⟨e', he', hg⟩ | rfl | rfl
    · exact hs.2.2 e he e' he' g hg' hg
    · exact hL (hc' _ ⟨e, he, hg'⟩)
    · exact hD (hc' _ ⟨e, he, hg'⟩)
/-- what an iterator comes to that looks at what the body owns -/
def ISpecS (P : Program) (f : Nat) (args : AV → List AV) (hc : List Ent) (Pre Full : List (List AV) → Prop) : Prop :=
  ∀ (l : Nat) (C : List (List AV) → Ob → Prop) (X : List (List AV) → List Ent → Prop),
    (∀ pre y, Pre (pre ++ [y]) → ∀ o, C pre o → YCall P l y (.ob o :: hc) (fun r h' => (r = boolA true ∧ ∃ o', h' = .ob o' :: hc ∧ C (pre ++ [y]) o') ∨ (r = boolA false ∧ X (pre ++ [y]) h'))) →
    ∀ o, C [] o → ACall P f (args (.v (.func (.yield l) #[] #[]))) (.ob o :: hc) (fun r h' => (∃ L o', Full L ∧ C L o' ∧ h' = .ob o' :: hc) ∨ ∃ L, Pre L ∧ X L h')
section
variable {P : Program} {N : Nat} {s : Slots} {h : List Ent} {Q : Exit → Slots → List Ent → Prop}
theorem awp_rangeFuncS (T : TT P) {g : Operand} {ps : Array Tmp} {assign body : Code} {yc : AV} {f : Nat} {fs cs : List AV} {hc hf : List Ent} {Pre Full : List (List AV) → Prop} (I : List (List AV) → List Ent → Prop) (X : List (List AV) → Exit → List Ent → Prop)
    (hcal : evA s g = some yc) (hcl : Callee yc f fs cs) (hfn : T.fns.any (Nat.beq f) = true) (it : ISpecS P f (fun y => fs ++ [y] ++ cs) hc Pre Full) (hsub : SubH (hc ++ hf) h) (hI : I [] hf)
    (hes : ∀ pre y, Pre (pre ++ [y]) → y.length = ps.size) (hpn : ps.toList.all (fun p => Nat.blt p N) = true)
    (hround : ∀ l pre y h', Pre (pre ++ [y]) → I pre h' → AWP P N (some l) assign (fun e s1 h1 => e = .normal ∧ AWP P N (some l) body (stepQ (nx (fun h => ∃ h', h = hc ++ h' ∧ I pre h') (fun h => ∃ h', h = hc ++ h' ∧ I (pre ++ [y]) h')) (fun _ => X (pre ++ [y])) 0) s1 h1) (paramsS ps.toList y s) (hc ++ h'))
    (hdone : ∀ L h', Full L → I L h' → Q .normal s (hc ++ h')) (hret : ∀ L h', Pre L → X L .ret h' → Q .ret s h') (hexit : ∀ L id h', Pre L → X L (.exit id) h' → Q (.exit id) s h') : AWP P N none (.rangeFunc g ps assign body) Q s h := by
  refine awp_rangeFuncC T (hc := []) (hf := hc ++ hf) (Pre := Pre) (Full := Full) (fun pre h => ∃ h', h = hc ++ h' ∧ I pre h') X hcal hcl hfn ?_ hsub ⟨hf, rfl, hI⟩ hes hpn (fun l pre y h' hp hI => ?_) (fun L h' hF hI => ?_) hret hexit
  case refine_2 =>
    obtain ⟨h0, e, hI⟩ := hI
    subst e
    exact hround l pre y h0 hp hI
  case refine_3 =>
    obtain ⟨h0, e, hI⟩ := hI
    subst e
    exact hdone L h0 hF hI
  intro D L rec hy o ho
  obtain ⟨h, ⟨h0, e, hI0⟩, hp, hL, hD, rfl⟩ := ho
  subst e
  have hs := List.pairwise_append.1 hp
  have hL0 : ¬ Own h0 L := fun ⟨e, he, hg⟩ => hL ⟨e, List.mem_append_right _ he, hg⟩
  have hD0 : ¬ Own h0 D := fun ⟨e, he, hg⟩ => hD ⟨e, List.mem_append_right _ he, hg⟩
  have C := it L (fun pre o => conC L D rec s (fun _ => I pre) 0 o) (fun pre h' => ∃ o', h' = [.ob o'] ∧ conX L D rec s (fun _ => X pre) 0 o') (fun pre y hpre o hC w S vs hlt hrel hvs => by
    obtain ⟨h1, hI1, hp1, hL1, hD1, rfl⟩ := hC
    obtain ⟨hrel2, k1, k2, k3⟩ := con_pack hp1 hL1 hD1 hrel
    obtain ⟨fn, tmps, assign', body', e, hr⟩ := hy pre y hpre _ ⟨hc ++ h1, ⟨h1, rfl, hI1⟩, k1, k2, k3, rfl⟩ w S vs hlt hrel2 hvs
    refine ⟨fn, tmps, assign', body', e, hr.mono fun e w' ⟨v, S', r, h', e1, ⟨o', eh, hq⟩, hvr, E, hlt', hr', hl'⟩ => ?_⟩
    subst eh
    have E' : Ext ⟨w, S, Own (.ob (conOb L D (rec .ready none) s h1) :: hc)⟩ w' S' := ⟨E.os, E.tape, E.output, E.size, fun b hb hn => E.keep b hb (fun ho => hn (own_con.1 ho)), E.stab, fun b hb => by
      rcases E.new b hb with h | h | h
      · exact .inl h
      · exact .inr (.inl h)
      · exact .inr (.inr (own_con.1 h))⟩
    rcases hq with ⟨rfl, h2, ⟨h3, eh, hI3⟩, q1, q2, q3, rfl⟩ | ⟨rfl, hX⟩
    · subst eh
      obtain ⟨hr2, p1, p2, p3⟩ := con_unpack q1 q2 q3 hr'
      refine ⟨v, S', _, _, e1, .inl ⟨rfl, _, rfl, h3, hI3, p1, p2, p3, rfl⟩, hvr, E', hlt', hr2, fun e he g hg => ?_⟩
      obtain ⟨e2, he2, hg2⟩ := (own_con (r := rec .ready none) (r' := rec .ready none)).2 ⟨e, he, hg⟩
      rcases hl' e2 he2 g hg2 with h | h
      · exact .inl (own_con.1 h)
      · exact .inr h
    · refine ⟨v, S', _, _, e1, .inr ⟨rfl, o', rfl, hX⟩, hvr, E', hlt', hr', fun e he g hg => ?_⟩
      rcases hl' e he g hg with h | h
      · exact .inl (own_con.1 h)
      · exact .inr h) _ ⟨h0, hI0, hs.2.1, hL0, hD0, rfl⟩
  intro w S vs hlt hrel hvs
  obtain ⟨hrel2, _⟩ := con_unpack hp hL hD hrel
  refine (C w S vs hlt hrel2 hvs).mono fun e w' ⟨v, S', r, h', e1, hq, hvr, E, hlt', hr', hl'⟩ => ?_
  have E' : Ext ⟨w, S, Own [.ob (conOb L D (rec .ready none) s (hc ++ h0))]⟩ w' S' := ⟨E.os, E.tape, E.output, E.size, fun b hb hn => E.keep b hb (fun ho => hn (own_con.2 ho)), E.stab, fun b hb => by
    rcases E.new b hb with h | h | h
    · exact .inl h
    · exact .inr (.inl h)
    · exact .inr (.inr (own_con.2 h))⟩
  rcases hq with ⟨L', o', hF, ⟨h3, hI3, q1, q2, q3, rfl⟩, rfl⟩ | ⟨L', hPr, o', rfl, hX⟩
  · obtain ⟨hr2, p1, p2, p3⟩ := con_pack q1 q2 q3 hr'
    refine ⟨v, S', r, _, e1, ⟨_, rfl, .inl ⟨L', hF, _, ⟨h3, rfl, hI3⟩, p1, p2, p3, rfl⟩⟩, hvr, E', hlt', hr2, fun e he g hg => ?_⟩
    obtain ⟨e2, he2, hg2⟩ := own_con.1 ⟨e, he, hg⟩
    rcases hl' e2 he2 g hg2 with h | h
    · exact .inl (own_con.2 h)
    · exact .inr h
  · refine ⟨v, S', r, _, e1, ⟨o', rfl, .inr ⟨L', hPr, hX⟩⟩, hvr, E', hlt', hr', fun e he g hg => ?_⟩
    rcases hl' e he g hg with h | h
    · exact .inl (own_con.2 h)
    · exact .inr h
end
end Go.Tl
end
section
namespace Go.Tl
open Go Go.RowKit
set_option linter.unusedVariables false
set_option linter.unusedSimpArgs false
theorem flat_ones {α : Type} : ∀ l : List α, (l.map fun x => [x]).flatten = l
  | [] => rfl
  | x :: l => by simp [flat_ones l]
section
variable {P : Program} {N : Nat} {o : Oper} {md : Nat → Prop} {s : Slots} {h h1 : List Ent} {K : Slots → List Ent → Prop}
theorem aop_copy_ca (T : TT P) {t t' d e bt n m c c2 g g2 : Nat} {x y : Operand} {T2 : TypeId} {cs2 : List AV} {rows : List (List AV)} {h' : List Ent} (ho : o.op = .call { callee := .builtin .copy, args := #[x, y], argTypes := #[t, t'] }) (hd : o.dst = some d) (hN : Nat.blt d N = true) (ht : f2 T.elm t = some (e, 1, bt))
    (hx : evA s x = some (.v (.slice (some ⟨g, 0, none⟩) n c))) (hy : evA s y = some (.v (.slice (some ⟨g2, 0, none⟩) m c2))) (hm2 : Mem1 (.cl g2 T2 cs2) h) (hp : Repl h (.rw (.slice (some ⟨g, 0, none⟩) n c) e 1 rows) (.rw (.slice (some ⟨g, 0, none⟩) n c) e 1 ((cs2.take n).map fun x => [x])) h') (hn : rows.length = n) (hl2 : cs2.length = m) (hnm : n ≤ m) (hone : cs2.all oneA = true)
    (hmd : md g) (hK : K ((d, intA (n : Nat)) :: s) h') : AOp P N o md s h K := fun B w S a hs Kr Qr hk => by
  obtain ⟨j, hund, hj, hjs, hjb, hne⟩ := T.elm_at ht
  have hmem : Ent.rw (.slice (some ⟨g, 0, none⟩) n c) e 1 rows ∈ h := by obtain ⟨p, q, rfl, _⟩ := hp.split; simp
  obtain ⟨xs, hown, hr, hlr⟩ := hs.heap.ent _ hmem
  obtain ⟨vs2, hvs2, hr2⟩ := hs.heap.ent _ hm2.mem
  rcases hown.2 with ⟨e0, _⟩ | ⟨g', cap, cur, e0, hb0, hg, hcap, hml, hsz, htk⟩
  · simp at e0
  simp at e0
  obtain ⟨rfl, hlen, rfl⟩ := e0
  subst hn
  have hv2l : vs2.length = m := by rw [← hr2.1]; exact hl2
  have hrt : VRels w S (cs2.take rows.length) (vs2.take rows.length) := hr2.take _
  have hones := ones_rel hrt (fun cc hcc => List.all_eq_true.1 hone cc (List.mem_of_mem_take hcc))
  have htl : (vs2.take rows.length).length = rows.length := by rw [List.length_take]; omega
  have hrun0 := run_copy_row (P := P) w t t' o.type e g 0 rows.length c ⟨g2, 0, none⟩ m c2 cur e (vs2.take rows.length) hund (by rw [hj]; simp [hjs]) hg (by rw [htl]; exact (Nat.min_eq_right hnm).symm) (fun q u hq => by
    have hq2 : q < rows.length := by
      rcases Nat.lt_or_ge q rows.length with h | h
      · exact h
      · rw [List.getElem?_eq_none (by omega)] at hq; cases hq
    rw [List.getElem?_take_of_lt hq2] at hq
    rw [Addr.add_lit]
    simp [World.cell?, hvs2, hq]) (by rw [htl, hsz]; omega) hones
  rw [htl] at hrun0
  have hrun : (execOp a.eval o).run P w = .ok (.value (.int .i64 (rows.length : Int))) (w.setRow g (cur.toList.take 0 ++ vs2.take rows.length ++ cur.toList.drop (0 + rows.length)).toArray) := by
    simp only [execOp, ho, resolve, List.map_toArray, List.map_cons, List.map_nil, hs.slots.lit hx, hs.slots.lit hy]
    simp [invoke, builtin, hrun0, goInt, IntKind.wrap_i64]
  unfold wpX
  rw [hd] at hk
  rw [hrun, Oper.uponIn_value, hd]
  generalize hnew : (cur.toList.take 0 ++ vs2.take rows.length ++ cur.toList.drop (0 + rows.length)).toArray = new at *
  have hgw := grown_setRow w g new
  have hnl : new.toList = vs2.take rows.length ++ cur.toList.drop rows.length := by rw [← hnew]; simp
  have hrl : ((cs2.take rows.length).map fun x => [x]).length = rows.length := by rw [List.length_map, List.length_take]; omega
  have hcs : ∀ b, S b → (w.setRow g new).heap[b]? = w.heap[b]? := fun b hb => setRow_other w g b _ (fun e => hs.heap.off _ hmem g rfl (by rw [← e]; exact hb))
  refine hk _ _ S _ _ hK ((hs.repl hp (.of hgw (by simp [Ent.blk, Value.ownBlock])) ⟨vs2.take rows.length, ⟨?_, .inr ⟨g, c, new, by rw [hrl], hb0, setRow_heap w g _ _ e _ hg, by rw [hrl]; exact hcap, hml, ?_, ?_⟩⟩, ?_, ?_⟩ (fun g' hg' => .inl hg')).put (.v _) (blt_lt hN)) ⟨by simp, fun b hb hnb => setRow_other w g b _ (fun e => hnb (by rw [e]; exact hmd)), fun _ h => h⟩
  · rw [hrl, htl, Nat.mul_one]
  · have k1 : cur.toList.length = cur.size := Array.length_toList
    have k2 : new.toList.length = rows.length + (cur.toList.length - rows.length) := by rw [hnl, List.length_append, htl, List.length_drop]
    have k3 : new.toList.length = new.size := Array.length_toList
    omega
  · rw [hnl, hrl, Nat.mul_one, List.take_append_of_le_length (by omega), List.take_of_length_le (by omega)]
  · rw [flat_ones]
    exact hrt.mono (fun _ h => h) hcs
  · intro r hr'
    obtain ⟨x, _, rfl⟩ := List.mem_map.1 hr'
    rfl
end
end Go.Tl
end
end
section
namespace Go.Proofs.Ytlpknbneilgjkaa.C
open Go Go.RowKit Go.ChangeShapes Go.Tl
set_option linter.unusedVariables false
set_option linter.unusedSimpArgs false
set_option maxRecDepth 100000
def houVal (o : HouD) (j : Nat) : Value := if j = 0 then .int .i64 o.lo else if j = 1 then .int .i64 o.hi else if j = 2 then .bool o.sells else .int .i64 o.ask
def conVal (s : ConD) (j : Nat) : Value := if j = 0 then .int .i64 s.sh else if j = 1 then .int .i64 s.lg else .int .i64 s.n
def HousAt (w : World) (a : Option Addr) (os : List HouD) : Prop :=
  ∀ k, k < os.length → ∃ b off, a = some ⟨b, off, none⟩ ∧ ∀ j, j < 4 → w.cell? ⟨b, off + k * 4 + j, none⟩ = some (houVal (os.getD k default) j)
def ConsAt (w : World) (a : Option Addr) (l : List ConD) : Prop :=
  ∀ k, k < l.length → ∃ b off, a = some ⟨b, off, none⟩ ∧ ∀ j, j < 3 → w.cell? ⟨b, off + k * 3 + j, none⟩ = some (conVal (l.getD k default) j)
theorem tcells3 : Try.prog.cellsOf 3 = 1 := by kernel_rfl
theorem tcells4 : Try.prog.cellsOf 4 = 1 := by kernel_rfl
theorem tcells116 : Try.prog.cellsOf 116 = 1 := by kernel_rfl
theorem tcells117 : Try.prog.cellsOf 117 = 1 := by kernel_rfl
theorem tcells119 : Try.prog.cellsOf 119 = 3 := by kernel_rfl
theorem tcells194 : Try.prog.cellsOf 194 = 2 := by kernel_rfl
theorem tcells196 : Try.prog.cellsOf 196 = 4 := by kernel_rfl
theorem tcells122 : Try.prog.cellsOf 122 = 3 := by kernel_rfl
section
variable {P : Program} {H : Type} {enc : TypeId × Value → H} {w : World} {base : Nat} {spare : Nat → Bool} {held : Bool}
theorem trod_struct2' {t : TypeId} {f0 f1 : Field} {fuel : Nat} {cs : List Value} {x : DataW H × List MemPlace} (ht : P.underlying t = some (.struct #[f0, f1])) (h : DataW.trod enc P w base spare held fuel t cs = some x) :
    ∃ y0 y1 n, cs.length = P.cellsOf t ∧ DataW.trod enc P w base spare held n f0.type ((cs.drop f0.offset).take (P.cellsOf f0.type)) = some y0 ∧
      DataW.trod enc P w base spare held n f1.type ((cs.drop f1.offset).take (P.cellsOf f1.type)) = some y1 := by
  obtain ⟨xs, n, _, rfl, hl, hlen, hf⟩ := DataW.trod_struct ht h
  match xs, hlen with
  | [y0, y1], _ => exact ⟨y0, y1, n, hl, by simpa using hf 0 f0 rfl, by simpa using hf 1 f1 rfl⟩
theorem trod_struct3' {t : TypeId} {f0 f1 f2 : Field} {fuel : Nat} {cs : List Value} {x : DataW H × List MemPlace} (ht : P.underlying t = some (.struct #[f0, f1, f2])) (h : DataW.trod enc P w base spare held fuel t cs = some x) :
    ∃ y0 y1 y2 n, cs.length = P.cellsOf t ∧ DataW.trod enc P w base spare held n f0.type ((cs.drop f0.offset).take (P.cellsOf f0.type)) = some y0 ∧
      DataW.trod enc P w base spare held n f1.type ((cs.drop f1.offset).take (P.cellsOf f1.type)) = some y1 ∧ DataW.trod enc P w base spare held n f2.type ((cs.drop f2.offset).take (P.cellsOf f2.type)) = some y2 := by
  obtain ⟨xs, n, _, rfl, hl, hlen, hf⟩ := DataW.trod_struct ht h
  match xs, hlen with
  | [y0, y1, y2], _ => exact ⟨y0, y1, y2, n, hl, by simpa using hf 0 f0 rfl, by simpa using hf 1 f1 rfl, by simpa using hf 2 f2 rfl⟩
end
section
variable {H : Type} {enc : TypeId × Value → H} {w : World} {base : Nat} {spare : Nat → Bool} {held : Bool}
theorem open_rng {fuel : Nat} {cs : List Value} {x : DataW H × List MemPlace} (h : DataW.trod enc Try.prog w base spare held fuel 194 cs = some x) : ∃ a b : Int, cs = [.int .i64 a, .int .i64 b] := by
  obtain ⟨y0, y1, n, hl, k0, k1⟩ := trod_struct2' Try.underlying194 h
  rw [tcells194] at hl
  match cs, hl with
  | [u, v], _ =>
    rw [tcells3] at k0 k1
    obtain ⟨a, e0, _, _⟩ := DataW.trod_int Try.underlying3 k0
    obtain ⟨b, e1, _, _⟩ := DataW.trod_int Try.underlying3 k1
    simp only [List.drop_zero, List.take_succ_cons, List.take_zero, List.cons.injEq, and_true] at e0
    simp only [List.drop_succ_cons, List.drop_zero, List.take_succ_cons, List.take_nil, List.take_zero, List.cons.injEq, and_true] at e1
    exact ⟨a, b, by rw [e0, e1]⟩
theorem open_hou {fuel : Nat} {cs : List Value} {x : DataW H × List MemPlace} (h : DataW.trod enc Try.prog w base spare held fuel 196 cs = some x) : ∃ o : HouD, cs = [.int .i64 o.lo, .int .i64 o.hi, .bool o.sells, .int .i64 o.ask] := by
  obtain ⟨y0, y1, y2, n, hl, k0, k1, k2⟩ := trod_struct3' Try.underlying196 h
  rw [tcells196] at hl
  match cs, hl with
  | [u0, u1, u2, u3], _ =>
    rw [tcells194] at k0
    rw [tcells4] at k1
    rw [tcells3] at k2
    obtain ⟨m0, m1, e0⟩ := open_rng k0
    obtain ⟨b, e1, _⟩ := DataW.trod_bool Try.underlying4 k1
    obtain ⟨m2, e2, _, _⟩ := DataW.trod_int Try.underlying3 k2
    simp only [List.drop_zero, List.take_succ_cons, List.take_zero, List.cons.injEq, and_true] at e0
    simp only [List.drop_succ_cons, List.drop_zero, List.take_succ_cons, List.take_nil, List.take_zero, List.cons.injEq, and_true] at e1 e2
    exact ⟨⟨m0, m1, b, m2⟩, by rw [e0.1, e0.2, e1, e2]⟩
theorem open_con {fuel : Nat} {cs : List Value} {x : DataW H × List MemPlace} (h : DataW.trod enc Try.prog w base spare held fuel 122 cs = some x) : ∃ s : ConD, cs = [.int .i64 s.sh, .int .i64 s.lg, .int .i64 s.n] := by
  obtain ⟨y0, y1, y2, n, hl, k0, k1, k2⟩ := trod_struct3' Try.underlying122 h
  rw [tcells122] at hl
  match cs, hl with
  | [u0, u1, u2], _ =>
    rw [tcells3] at k0 k1 k2
    obtain ⟨m0, e0, _, _⟩ := DataW.trod_int Try.underlying3 k0
    obtain ⟨m1, e1, _, _⟩ := DataW.trod_int Try.underlying3 k1
    obtain ⟨m2, e2, _, _⟩ := DataW.trod_int Try.underlying3 k2
    simp only [List.drop_zero, List.take_succ_cons, List.take_zero, List.cons.injEq, and_true] at e0
    simp only [List.drop_succ_cons, List.drop_zero, List.take_succ_cons, List.take_nil, List.take_zero, List.cons.injEq, and_true] at e1 e2
    exact ⟨⟨m0, m1, m2⟩, by rw [e0, e1, e2]⟩
theorem open_hous {fuel : Nat} {cs : List Value} {x : DataW H × List MemPlace} (h : DataW.trod enc Try.prog w base spare held fuel 116 cs = some x) : ∃ (a : Option Addr) (c : Nat) (os : List HouD), cs = [.slice a os.length c] ∧ os.length ≤ maxLen ∧ HousAt w a os := by
  obtain ⟨a, c, l, g1, g2, g3⟩ := open_slice (α := HouD) (R := fun val r => ∀ j, j < 4 → val j = houVal r j) Try.underlying116 tcells196 (by omega) (fun fuel cs y hy hl => by
    obtain ⟨o, rfl⟩ := open_hou hy
    refine ⟨o, fun j hj => ?_⟩
    rcases (show j = 0 ∨ j = 1 ∨ j = 2 ∨ j = 3 by omega) with rfl | rfl | rfl | rfl <;> rfl) h
  refine ⟨a, c, l, g1, g2, fun k hk => ?_⟩
  obtain ⟨b, off, val, e, g, r⟩ := g3 k hk
  exact ⟨b, off, e, fun j hj => by rw [g j hj, r j hj]⟩
theorem open_cons {fuel : Nat} {cs : List Value} {x : DataW H × List MemPlace} (h : DataW.trod enc Try.prog w base spare held fuel 117 cs = some x) : ∃ (a : Option Addr) (c : Nat) (l : List ConD), cs = [.slice a l.length c] ∧ l.length ≤ maxLen ∧ ConsAt w a l := by
  obtain ⟨a, c, l, g1, g2, g3⟩ := open_slice (α := ConD) (R := fun val r => ∀ j, j < 3 → val j = conVal r j) Try.underlying117 tcells122 (by omega) (fun fuel cs y hy hl => by
    obtain ⟨o, rfl⟩ := open_con hy
    refine ⟨o, fun j hj => ?_⟩
    rcases (show j = 0 ∨ j = 1 ∨ j = 2 by omega) with rfl | rfl | rfl <;> rfl) h
  refine ⟨a, c, l, g1, g2, fun k hk => ?_⟩
  obtain ⟨b, off, val, e, g, r⟩ := g3 k hk
  exact ⟨b, off, e, fun j hj => by rw [g j hj, r j hj]⟩
theorem open_market {fuel : Nat} {cs : List Value} {x : DataW H × List MemPlace} (h : DataW.trod enc Try.prog w base spare held fuel 119 cs = some x) :
    ∃ (m : MktD) (a : Option Addr) (c : Nat) (a' : Option Addr) (c' : Nat), cs = [.int .i64 m.ex, .slice a m.hou.length c, .slice a' m.con.length c'] ∧ (m.hou.length ≤ maxLen ∧ m.con.length ≤ maxLen) ∧ HousAt w a m.hou ∧ ConsAt w a' m.con := by
  obtain ⟨y0, y1, y2, n, hl, k0, k1, k2⟩ := trod_struct3' Try.underlying119 h
  rw [tcells119] at hl
  match cs, hl with
  | [u0, u1, u2], _ =>
    rw [tcells3] at k0
    rw [tcells116] at k1
    rw [tcells117] at k2
    obtain ⟨m0, e0, _, _⟩ := DataW.trod_int Try.underlying3 k0
    obtain ⟨a, c, os, e1, hd, hD⟩ := open_hous k1
    obtain ⟨a', c', l, e2, hd', hD'⟩ := open_cons k2
    simp only [List.drop_zero, List.take_succ_cons, List.take_zero, List.cons.injEq, and_true] at e0
    simp only [List.drop_succ_cons, List.drop_zero, List.take_succ_cons, List.take_nil, List.take_zero, List.cons.injEq, and_true] at e1 e2
    exact ⟨⟨m0, os, l⟩, a, c, a', c', by rw [e0, e1, e2], ⟨hd, hd'⟩, hD, hD'⟩
end
theorem hous_in {w : World} {a : Option Addr} {c : Nat} {xs : List HouD} (h : HousAt w a xs) : Tl.TRel w (fun b => b < w.heap.size) (housT false xs) (.slice a xs.length c) := by
  refine sl_in (fun _ _ => rfl) (by omega) (fun k hk => ?_)
  obtain ⟨b, off, e, h0⟩ := h k hk
  refine ⟨b, off, houVal (xs.getD k default), e, h0, fun j x hx => ?_⟩
  match j with
  | 0 => simp [houL] at hx; subst hx; exact .sc _
  | 1 => simp [houL] at hx; subst hx; exact .sc _
  | 2 => simp [houL] at hx; subst hx; exact .sc _
  | 3 => simp [houL] at hx; subst hx; exact .sc _
  | j + 4 => simp [houL] at hx
theorem cons_in {w : World} {a : Option Addr} {c : Nat} {xs : List ConD} (h : ConsAt w a xs) : Tl.TRel w (fun b => b < w.heap.size) (consT false xs) (.slice a xs.length c) := by
  refine sl_in (fun _ _ => rfl) (by omega) (fun k hk => ?_)
  obtain ⟨b, off, e, h0⟩ := h k hk
  refine ⟨b, off, conVal (xs.getD k default), e, h0, fun j x hx => ?_⟩
  match j with
  | 0 => simp [conL] at hx; subst hx; exact .sc _
  | 1 => simp [conL] at hx; subst hx; exact .sc _
  | 2 => simp [conL] at hx; subst hx; exact .sc _
  | j + 3 => simp [conL] at hx
theorem market_in {w : World} {a a' : Option Addr} {c c' : Nat} {m : MktD} (h : HousAt w a m.hou) (h' : ConsAt w a' m.con) : VRel w (fun b => b < w.heap.size) (mktA false false m) (.agg #[.int .i64 m.ex, .slice a m.hou.length c, .slice a' m.con.length c']) :=
  ag_rel (vs := [_, _, _]) (rels_cons (.v _) (rels_cons (.t (hous_in h)) (rels_cons (.t (cons_in h')) rels_nil)))
end Go.Proofs.Ytlpknbneilgjkaa.C
end
section
section
section
namespace Go.Proofs.Ytlpknbneilgjkaa.R
open Go.RowKit
set_option linter.unusedVariables false

def inB (n lo hi : Int) : Bool := decide (lo ≤ n ∧ n ≤ hi)
theorem all_getD {α : Type} {d : α} {l : List α} {p : α → Bool} : l.all p = true ↔ ∀ k, k < l.length → p (l.getD k d) = true := by
  rw [List.all_eq_true]
  constructor
  · intro h k hk
    rw [List.getD_eq_getElem?_getD, List.getElem?_eq_getElem hk]
    exact h _ (List.getElem_mem hk)
  · intro h x hx
    obtain ⟨k, hk, rfl⟩ := List.getElem_of_mem hx
    have := h k hk
    rw [List.getD_eq_getElem?_getD, List.getElem?_eq_getElem hk] at this
    exact this
end Go.Proofs.Ytlpknbneilgjkaa.R
end
section
namespace Go.Proofs.Ytlpknbneilgjkaa.R
set_option linter.unusedVariables false

end Go.Proofs.Ytlpknbneilgjkaa.R
end
section
namespace Go.Proofs.Ytlpknbneilgjkaa.R
open Go.RowKit
set_option linter.unusedVariables false
set_option linter.unusedSimpArgs false
end Go.Proofs.Ytlpknbneilgjkaa.R
end
section
namespace Go.Proofs.Ytlpknbneilgjkaa.R
open Go.RowKit
set_option linter.unusedVariables false
end Go.Proofs.Ytlpknbneilgjkaa.R
end
section
namespace Go.Proofs.Ytlpknbneilgjkaa.R
open Go.RowKit
set_option linter.unusedVariables false
end Go.Proofs.Ytlpknbneilgjkaa.R
end

end
section
section
namespace Go.Proofs.Ytlpknbneilgjkaa.R
open Go.RowKit
set_option linter.unusedVariables false

theorem take_succ_getD {α : Type} {l : List α} {k : Nat} (d : α) (h : k < l.length) : l.take (k + 1) = l.take k ++ [l.getD k d] := by
  rw [List.take_succ_eq_append_getElem h, List.getD_eq_getElem?_getD, List.getElem?_eq_getElem h]; rfl

def sumI : List Int → Int
  | [] => 0
  | x :: l => x + sumI l
theorem sumI_append (l m : List Int) : sumI (l ++ m) = sumI l + sumI m := by
  induction l with
  | nil => simp [sumI]
  | cons x l ih => simp [sumI, ih]; omega
theorem sumI_bd (l : List Int) (B : Int) (h : ∀ x ∈ l, -B ≤ x ∧ x ≤ B) : -(B * l.length) ≤ sumI l ∧ sumI l ≤ B * l.length := by
  induction l with
  | nil => simp [sumI]
  | cons x l ih =>
    have h1 := h x (by simp)
    have h2 := ih (fun y hy => h y (by simp [hy]))
    simp only [sumI, List.length_cons, Int.natCast_add, Int.cast_ofNat_Int]
    rw [Int.mul_add]; omega
theorem getD_mem {α : Type} {l : List α} {k : Nat} {d : α} (h : k < l.length) : l.getD k d ∈ l := by
  rw [List.getD_eq_getElem?_getD, List.getElem?_eq_getElem h]
  exact List.getElem_mem h

end Go.Proofs.Ytlpknbneilgjkaa.R
end
section
namespace Go.Proofs.Ytlpknbneilgjkaa.R
open Go.RowKit
set_option linter.unusedVariables false

end Go.Proofs.Ytlpknbneilgjkaa.R
end
section
namespace Go.Proofs.Ytlpknbneilgjkaa.R
open Go.RowKit
set_option linter.unusedVariables false

end Go.Proofs.Ytlpknbneilgjkaa.R
end
section
namespace Go.Proofs.Ytlpknbneilgjkaa.R
open Go.RowKit
set_option linter.unusedVariables false

end Go.Proofs.Ytlpknbneilgjkaa.R
end
section
namespace Go.Proofs.Ytlpknbneilgjkaa.R
open Go.RowKit
set_option linter.unusedVariables false

end Go.Proofs.Ytlpknbneilgjkaa.R
end
section
namespace Go.Proofs.Ytlpknbneilgjkaa.R
open Go.RowKit
set_option linter.unusedVariables false

end Go.Proofs.Ytlpknbneilgjkaa.R
end

end
section
section
namespace Go.Proofs.Ytlpknbneilgjkaa.R
open Go Go.RowKit Go.Tl
set_option linter.unusedVariables false
section
variable {w : World} {S : Nat → Prop}
theorem ag_inv {cs : List AV} {v : Value} (h : VRel w S (.ag cs) v) : ∃ vs : List Value, v = .agg vs.toArray ∧ VRels w S cs vs := by
  cases h with | ag hl h => exact ⟨_, rfl, hl, h⟩
theorem rels1 {x : AV} {r : List AV} {vs : List Value} (h : VRels w S (x :: r) vs) : ∃ v us, vs = v :: us ∧ VRel w S x v ∧ VRels w S r us := by
  cases vs with
  | nil => have := h.1; simp at this
  | cons v us => exact ⟨v, us, rfl, h.2 0 x v rfl rfl, by have := h.1; simpa using this, fun j a b ha hb => h.2 (j + 1) a b (by simpa using ha) (by simpa using hb)⟩
theorem rels0 {vs : List Value} (h : VRels w S [] vs) : vs = [] := List.length_eq_zero_iff.1 h.1.symm
end
abbrev noneA : AV := .v (.slice none 0 0)
end Go.Proofs.Ytlpknbneilgjkaa.R
namespace Go.Proofs.Ytlpknbneilgjkaa.R
open Go Go.RowKit Go.Tl
set_option linter.unusedVariables false
set_option linter.unusedSimpArgs false
theorem rows_tree {α : Type} {d : α} (xs : List α) (row : α → List AV) (f : α → List Tr) (h : ∀ x, row x = (f x).map AV.ofTr) : ∀ k, k < xs.length → (xs.map row).getD k [] = ((fun k => f (xs.getD k d)) k).map AV.ofTr := fun k hk => by
  simp [List.getD_eq_getElem?_getD, hk, h]
theorem rows_step {α : Type} {d : α} {xs : List α} {k : Nat} (row : α → List AV) (hk : k < xs.length) : (xs.take (k + 1)).map row = (xs.take k).map row ++ [row (xs.getD k d)] := by
  rw [take_succ_getD d hk, List.map_append]; rfl
theorem inB_iff {n lo hi : Int} : inB n lo hi = true ↔ lo ≤ n ∧ n ≤ hi := by simp [inB]
end Go.Proofs.Ytlpknbneilgjkaa.R
end
section
namespace Go.Proofs.Ytlpknbneilgjkaa.R
open Go Go.RowKit Go.ChangeShapes
set_option linter.unusedVariables false
set_option linter.unusedSimpArgs false
section
variable {H : Type} {enc : TypeId × Value → H} {P : Program} {w : World} {base : Nat} {spare : Nat → Bool} {held : Bool}
end
end Go.Proofs.Ytlpknbneilgjkaa.R
end
section
namespace Go.Proofs.Ytlpknbneilgjkaa.R
open Go Go.RowKit Go.Tl
set_option linter.unusedVariables false
section
variable {w : World}
end
end Go.Proofs.Ytlpknbneilgjkaa.R
end
section
namespace Go.Proofs.Ytlpknbneilgjkaa.R
open Go Go.RowKit Go.ChangeShapes Go.Tl
set_option linter.unusedVariables false
section
variable {P : Program} {H : Type} {enc : TypeId × Value → H} {w : World} {base : Nat} {spare : Nat → Bool} {held : Bool}
end
end Go.Proofs.Ytlpknbneilgjkaa.R
end

end
section
section
namespace Go.Proofs.Ytlpknbneilgjkaa.R
open Go.RowKit
set_option linter.unusedVariables false

end Go.Proofs.Ytlpknbneilgjkaa.R
end
section
namespace Go.Tl
open Go Go.RowKit
set_option linter.unusedVariables false
end Go.Tl
namespace Go.Proofs.Ytlpknbneilgjkaa.R
open Go Go.RowKit Go.Tl
set_option linter.unusedVariables false
end Go.Proofs.Ytlpknbneilgjkaa.R
end
section
namespace Go.Proofs.Ytlpknbneilgjkaa.R
open Go.RowKit
set_option linter.unusedVariables false
set_option linter.unusedSectionVars false
section

end
end Go.Proofs.Ytlpknbneilgjkaa.R
end

end
namespace Go.Tl
open Go Go.RowKit
end Go.Tl
namespace Go.Proofs.Ytlpknbneilgjkaa.R
open Go Go.RowKit Go.Tl
set_option linter.unusedVariables false
set_option linter.unusedSimpArgs false
set_option maxRecDepth 100000
set_option maxHeartbeats 4000000
end Go.Proofs.Ytlpknbneilgjkaa.R

namespace Go.Tl
open Go Go.RowKit
end Go.Tl
namespace Go.Proofs.Ytlpknbneilgjkaa.R
open Go Go.RowKit Go.Tl
set_option linter.unusedVariables false
set_option linter.unusedSimpArgs false
set_option maxRecDepth 100000
set_option maxHeartbeats 4000000
end Go.Proofs.Ytlpknbneilgjkaa.R
end
section
namespace Go.Tl
open Go Go.RowKit
set_option linter.unusedVariables false
set_option linter.unusedSimpArgs false
def packOb (hc : List Ent) : Ob where
  fp := Own hc
  Φ := fun w S => (∀ e ∈ hc, ERel w S e) ∧ hc.Pairwise Apart
  lt := fun {w S} H g ⟨e, he, hb⟩ => (H.1 e he).lt g hb
  keep := fun {w w' S S'} H h1 h2 h3 h4 hS hw hg => ⟨fun e he => (H.1 e he).mono h1 h2 h3 h4 hS hw (fun g hb => hg g ⟨e, he, hb⟩), H.2⟩
theorem pack_hrel {w : World} {S : Nat → Prop} {hc h : List Ent} (H : HRel w S (hc ++ h)) : HRel w S (.ob (packOb hc) :: h) := by
  have hs := List.pairwise_append.1 H.sep
  refine ⟨fun e he => ?_, fun e he g hg => ?_, List.pairwise_cons.2 ⟨fun e he g hg hg' => ?_, hs.2.1⟩⟩
  · rcases List.mem_cons.1 he with rfl | he
    · exact ⟨fun e he => H.ent e (List.mem_append_left _ he), hs.1⟩
    · exact H.ent e (List.mem_append_right _ he)
  · rcases List.mem_cons.1 he with rfl | he
    · obtain ⟨e, he, hg⟩ := hg
      exact H.off e (List.mem_append_left _ he) g hg
    · exact H.off e (List.mem_append_right _ he) g hg
  · obtain ⟨e', he', hg⟩ := hg
    exact hs.2.2 e' he' e he g hg hg'
theorem unpack_hrel {w : World} {S : Nat → Prop} {hc h : List Ent} (H : HRel w S (.ob (packOb hc) :: h)) : HRel w S (hc ++ h) := by
  have hs := List.pairwise_cons.1 H.sep
  have ho := H.ent _ List.mem_cons_self
  refine ⟨fun e he => ?_, fun e he g hg => ?_, List.pairwise_append.2 ⟨ho.2, hs.2, fun e he e' he' g hg hg' => ?_⟩⟩
  · rcases List.mem_append.1 he with he | he
    · exact ho.1 e he
    · exact H.ent e (List.mem_cons_of_mem _ he)
  · rcases List.mem_append.1 he with he | he
    · exact H.off _ List.mem_cons_self g ⟨e, he, hg⟩
    · exact H.off e (List.mem_cons_of_mem _ he) g hg
  · exact hs.1 e' he' g ⟨e, he, hg⟩ hg'
theorem own_pack {hc h : List Ent} {g : Nat} : Own (.ob (packOb hc) :: h) g ↔ Own (hc ++ h) g := by
  constructor
  · rintro ⟨e, he, hg⟩
    rcases List.mem_cons.1 he with rfl | he
    · obtain ⟨e, he, hg⟩ := hg
      exact ⟨e, List.mem_append_left _ he, hg⟩
    · exact ⟨e, List.mem_append_right _ he, hg⟩
  · rintro ⟨e, he, hg⟩
    rcases List.mem_append.1 he with he | he
    · exact ⟨_, List.mem_cons_self, ⟨e, he, hg⟩⟩
    · exact ⟨e, List.mem_cons_of_mem _ he, hg⟩
theorem acall_pack {P : Program} {g : Nat} {args : List AV} {hc : List Ent} {R : AV → Prop} (C : ACall P g args hc (fun r h' => R r ∧ h' = hc)) : ACall P g args [.ob (packOb hc)] (fun r h' => R r ∧ h' = [.ob (packOb hc)]) := fun w S vs h1 h2 h3 => by
  have h2' : HRel w S hc := by have := unpack_hrel h2; rwa [List.append_nil] at this
  have hown : ∀ b, Own [.ob (packOb hc)] b ↔ Own hc b := fun b => by have := own_pack (hc := hc) (h := []) (g := b); rwa [List.append_nil] at this
  refine (C w S vs h1 h2' h3).mono fun e w' ⟨v, S', r, h', e1, ⟨hR, eh⟩, hvr, E, hlt, hr, hl⟩ => ?_
  subst eh
  refine ⟨v, S', r, _, e1, ⟨hR, rfl⟩, hvr, ⟨E.os, E.tape, E.output, E.size, fun b hb hn => E.keep b hb (fun ho => hn ((hown b).2 ho)), E.stab, fun b hb => ?_⟩, hlt, ?_, fun e he g hg => ?_⟩
  · rcases E.new b hb with h | h | h
    · exact .inl h
    · exact .inr (.inl h)
    · exact .inr (.inr ((hown b).2 h))
  · exact pack_hrel (w := w') (S := S') (h := []) (by rwa [List.append_nil])
  · obtain ⟨e2, he2, hg2⟩ := (hown g).1 ⟨e, he, hg⟩
    rcases hl e2 he2 g hg2 with h | h
    · exact .inl ((hown g).2 h)
    · exact .inr h
end Go.Tl
end
section
namespace Go.Proofs.Ytlpknbneilgjkaa.R
open Go Go.RowKit Go.Tl
set_option linter.unusedVariables false
set_option linter.unusedSimpArgs false
def fRows (f : Nat → Int) (m : Nat) : List (List AV) := (List.range m).map fun k => intRow (f k)
theorem fRows_len (f : Nat → Int) (m : Nat) : (fRows f m).length = m := by simp [fRows]
theorem fRows_at {f : Nat → Int} {m j : Nat} (hj : j < m) : ((fRows f m).getD j [])[0]? = some (intA (f j)) := by
  simp [fRows, List.getD_eq_getElem?_getD, hj, intRow]
theorem fRows_set {f g : Nat → Int} {m j : Nat} {v : Int} (hj : j < m) (hg : ∀ k, k < m → g k = if k = j then v else f k) : (fRows f m).set j (spA ((fRows f m).getD j []) 0 [intA v]) = fRows g m := by
  have e : spA ((fRows f m).getD j []) 0 [intA v] = intRow v := by simp [fRows, List.getD_eq_getElem?_getD, hj, intRow, spA]
  rw [e]
  refine List.ext_getElem? fun k => ?_
  rw [List.getElem?_set]
  simp only [fRows, List.length_map, List.length_range, List.getElem?_map]
  by_cases hk : k < m
  · rw [List.getElem?_range hk]
    have := hg k hk
    by_cases e : j = k
    · subst e; simp [hj, this]
    · rw [if_neg e, Option.map_some, Option.map_some, this, if_neg (fun h => e h.symm)]
  · rw [List.getElem?_eq_none (l := List.range m) (by simp; omega)]
    simp; omega
theorem fRows_tree {f : Nat → Int} {xs : List Int} {m : Nat} (h : xs = (List.range m).map f) : ∀ k, k < m → (fRows f m).getD k [] = ((fun k => [.sc (.int .i64 (xs.getD k 0))]) k : List Tr).map AV.ofTr := fun k hk => by
  subst h
  simp [fRows, List.getD_eq_getElem?_getD, hk, intRow, AV.ofTr]
end Go.Proofs.Ytlpknbneilgjkaa.R
end
