/- Steps under guards, and forms of more steps, over plain trees. -/
import Derived.Test.YtilhflfbbfeakaaTlf
import Derived.Laws.Cover3
namespace Go.Tl
open Go Go.RowKit
set_option linter.unusedVariables false

section
variable {P : Program} {N : Nat} {ro : Option Nat} {o : Oper} {s : Slots} {h : List Ent} {Q : Exit → Slots → List Ent → Prop} {ops : Array Oper} {rest : List Oper}
theorem awl_pw {y : AV} {d : Nat} (hw : Wt ops o s) (H : PV P o s y) (hd : o.dst = some d) (hN : Nat.blt d N = true) (hK : AWL P N ops rest Q ((d, y) :: s) h) : AWL P N ops (o :: rest) Q s h := fun B w S a hs =>
  wpLX_op (hw.wanted hs.slots) (aop_pv (md := fun _ => True) H hd (blt_lt hN) hK B w S a hs _ _ (fun v w' S' s' h' hK hs' _ => hK B w' S' _ hs'))
theorem awl_lw {y y' : AV} {d : Nat} {e : Option Ent} (hw : Wt ops o s) (H : LV P o s h e y) (hy : y = y') (hd : o.dst = some d) (hN : Nat.blt d N = true) (hK : AWL P N ops rest Q ((d, y') :: s) h) : AWL P N ops (o :: rest) Q s h := fun B w S a hs => by
  subst hy
  exact wpLX_op (hw.wanted hs.slots) (aop_lv (md := fun _ => True) H hd (blt_lt hN) hK B w S a hs _ _ (fun v w' S' s' h' hK hs' _ => hK B w' S' _ hs'))
/-- an operation that makes or writes memory -/
theorem awl_hw (hw : Wt ops o s) (H : AOp P N o (fun _ => True) s h (AWL P N ops rest Q)) : AWL P N ops (o :: rest) Q s h := fun B w S a hs =>
  wpLX_op (hw.wanted hs.slots) (H B w S a hs _ _ (fun v w' S' s' h' hK hs' _ => hK B w' S' _ hs'))
theorem awl_sk {d : Nat} (hw : Wf ops o s) (hd : o.dst = some d) (hN : Nat.blt d N = true) (hK : AWL P N ops rest Q ((d, .v undef) :: s) h) : AWL P N ops (o :: rest) Q s h := fun B w S a hs => by
  refine wpLX_skip (hw.unwanted hs.slots) ?_
  rw [hd]
  exact hK B w S _ (hs.put (.v _) (blt_lt hN))
theorem awl_sk0 (hw : Wf ops o s) (hd : o.dst = none) (hK : AWL P N ops rest Q s h) : AWL P N ops (o :: rest) Q s h := fun B w S a hs => by
  refine wpLX_skip (hw.unwanted hs.slots) ?_
  rw [hd]
  exact hK B w S _ hs.putNone

theorem pv_pick_t {c x z : Operand} {b : Bool} {y : AV} (ho : o.op = .pick c x z) (hc : evA s c = some (.v (.bool b))) (hb : b = true) (hx : evA s x = some y) : PV P o s y := by
  subst hb
  exact pv_pick ho hc (by simpa using hx)
theorem pv_pick_f {c x z : Operand} {b : Bool} {y : AV} (ho : o.op = .pick c x z) (hc : evA s c = some (.v (.bool b))) (hb : b = false) (hx : evA s z = some y) : PV P o s y := by
  subst hb
  exact pv_pick ho hc (by simpa using hx)

/-- keys -/
inductive KAs : List AV → List Int → Prop where
  | nil : KAs [] []
  | cons {x : Int} {cs : List AV} {ks : List Int} (h : KAs cs ks) : KAs (.v (.int .i64 x) :: cs) (x :: ks)
theorem KAs.eq {cs : List AV} {ks : List Int} (h : KAs cs ks) : AV.ag cs = kA ks := by
  induction h with
  | nil => rfl
  | cons _ ih => simp only [kA, AV.ag.injEq] at ih ⊢; simp [ih]
variable {mt : TypeId} {n : Nat} {md : Nat → Prop} {K : Slots → List Ent → Prop}
theorem lv_lk_n (M : MK P mt n) {m k : Operand} {g : Nat} {cs : List AV} {ks : List Int} {l : List (List Int × AV)} {z : AV} (ho : o.op = .lookup mt m k true) (hm : evA s m = some (.v (.map (some g)))) (hk : evA s k = some (.ag cs)) (hcs : KAs cs ks) (hks : Nat.beq ks.length n = true) (hmem : Mem1 (mapE g n l) h)
    (hl : lookL l ks = none) (hz : M.zA = z) : LV P o s h (some (mapE g n l)) (.tup [z, .v (.bool false)]) := lv_lookup2 M ho hm (by rw [hk, hcs.eq]) (Nat.eq_of_beq_eq_true hks) hmem (by rw [hl, ← hz]; rfl)
theorem lv_lk_s (M : MK P mt n) {m k : Operand} {g : Nat} {cs : List AV} {ks : List Int} {l : List (List Int × AV)} {y : AV} (ho : o.op = .lookup mt m k true) (hm : evA s m = some (.v (.map (some g)))) (hk : evA s k = some (.ag cs)) (hcs : KAs cs ks) (hks : Nat.beq ks.length n = true) (hmem : Mem1 (mapE g n l) h)
    (hl : lookL l ks = some y) : LV P o s h (some (mapE g n l)) (.tup [y, .v (.bool true)]) := lv_lookup2 M ho hm (by rw [hk, hcs.eq]) (Nat.eq_of_beq_eq_true hks) hmem (by rw [hl]; rfl)
theorem lv_lk1 (M : MK P mt n) {m k : Operand} {g : Nat} {cs : List AV} {ks : List Int} {l : List (List Int × AV)} {y : AV} (ho : o.op = .lookup mt m k false) (hm : evA s m = some (.v (.map (some g)))) (hk : evA s k = some (.ag cs)) (hcs : KAs cs ks) (hks : Nat.beq ks.length n = true) (hmem : Mem1 (mapE g n l) h)
    (hl : (lookL l ks).getD M.zA = y) : LV P o s h (some (mapE g n l)) y := lv_lookup1 M ho hm (by rw [hk, hcs.eq]) (Nat.eq_of_beq_eq_true hks) hmem hl
theorem st_mupd (M : MK P mt n) {m k x : Operand} {g : Nat} {cs : List AV} {ks : List Int} {y : AV} {l l' : List (List Int × AV)} {h' : List Ent} (ho : o.op = .mapUpdate mt m k x) (hm : evA s m = some (.v (.map (some g)))) (hk : evA s k = some (.ag cs)) (hcs : KAs cs ks) (hks : Nat.beq ks.length n = true) (hx : evA s x = some y) (hd : o.dst = none)
    (hp : Repl h (mapE g n l) (mapE g n l') h') (hl : updL l ks y = l') (hmd : md g) (hK : K s h') : AOp P N o md s h K := aop_mapUpdate M ho hm (by rw [hk, hcs.eq]) (Nat.eq_of_beq_eq_true hks) hx hd hp hl hmd hK
theorem pv_cmpK {op : BinOp} {t t' : TypeId} {x z : Operand} {cs ds : List AV} {as bs : List Int} {r : Value} (ho : o.op = .binOp op t x z t') (hx : evA s x = some (.ag cs)) (hz : evA s z = some (.ag ds)) (h1 : KAs cs as) (h2 : KAs ds bs)
    (hr : ∀ w, (do eqGuard op t x z (kV as) (kV bs); binOp op t (kV as) (kV bs) : Sem Value).run P w = .ok r w) : PV P o s (.v r) := pv_eqK ho (by rw [hx, h1.eq]) (by rw [hz, h2.eq]) hr
theorem st_copy (T : TT P) {t t' d e bt n m c g : Nat} {x y : Operand} {cp : Bool} {f : Nat → List Tr} {T' : TypeId} {cs cs' : List AV} {h' : List Ent} (hcs : spA cs 0 (((List.range (min m n)).map fun k => (f k).map AV.ofTr).flatten) = cs') (ho : o.op = .call { callee := .builtin .copy, args := #[x, y], argTypes := #[t, t'] }) (hd : o.dst = some d) (hN : Nat.blt d N = true) (ht : f2 T.elm t = some (e, 1, bt))
    (hx : evA s x = some (.v (.slice (some ⟨g, 0, none⟩) n c))) (hy : evA s y = some (.t (.sl cp 1 m f))) (hp : Repl h (.cl g T' cs) (.cl g T' cs') h') (hn : Nat.beq cs.length n = true) (hone : ∀ k, k < m → ∀ u ∈ f k, oneA (AV.ofTr u) = true)
    (hmd : md g) (hK : K ((d, intA ((min m n : Nat) : Int)) :: s) h') : AOp P N o md s h K := aop_copy T ho hd hN ht hx hy hp (Nat.eq_of_beq_eq_true hn) hone hcs hmd hK
/-- a slice compared with nil -/
theorem aop_isnil {t t' d sz m : Nat} {x : Operand} {cp : Bool} {f : Nat → List Tr} (T : TT P) {e bt : Nat} (ho : o.op = .binOp .eql t x (.const (.slice none 0 0)) t') (hd : o.dst = some d) (hN : Nat.blt d N = true) (ht : f2 T.elm t = some (e, sz, bt)) (hx : evA s x = some (.t (.sl cp sz m f)))
    (hK : ∀ b, (0 < m → b = false) → K ((d, boolA b) :: s) h) : AOp P N o md s h K := fun B w S a hs Kr Qr hk => by
  obtain ⟨j, hund, hj, hjs, hjb, hne⟩ := T.elm_at ht
  have hxe := hs.slots.eval hx
  generalize hev : a.eval x = u0 at *
  cases hxe with
  | t hT =>
    cases hT with
    | @sl _ _ _ _ a0 c0 val hc hl hh ih =>
      have hrun : (execOp a.eval o).run P w = .ok (.value (.bool (a0.isNone))) w := by
        have e1 : a.eval (.const (.slice none 0 0)) = .slice none 0 0 := rfl
        have hb : ∀ w, (binOp .eql t (.slice a0 m c0) (.slice none 0 0)).run P w = .ok (.bool a0.isNone) w := fun w => by
          simp only [binOp]
          simp [run_equal_slice_nil w t e a0 m c0 hund]
        simp [execOp, ho, hev, e1, eqGuard, hb]
      unfold wpX
      rw [hd] at hk
      rw [hrun, Oper.uponIn_value, hd]
      refine hk _ _ S _ _ (hK a0.isNone (fun hm => ?_)) (hs.put (.v _) (blt_lt hN)) .refl
      obtain ⟨b, off, e, _⟩ := hh 0 hm
      rw [e]; rfl
theorem st_appt (T : TT P) {t d e sz bt m n : Nat} {z v : Value} {x y : Operand} {rows news : List (List AV)} {h1 : List Ent} {cp : Bool} {f : Nat → List Tr} (ho : o.op = .call { callee := .builtin .append, args := #[x, y], argTypes := #[t, t] }) (hd : o.dst = some d) (hN : Nat.blt d N = true)
    (ht : f2 T.elm t = some (e, sz, bt)) (hz : f2 T.zer e = some z) (hzs : z.cells.size = sz) (hbt : Nat.ble bt 1000 = true) (hx : evA s x = some (.v v)) (hy : evA s y = some (.t (.sl cp sz m f)))
    (hp : Pick h (.rw v e sz rows) h1) (hone : ∀ k, k < m → ∀ u ∈ f k, oneA (AV.ofTr u) = true) (hrl : rows.length = n) (hb : n + m ≤ 1000000) (hmd : ∀ b, v.ownBlock = some b → md b) (hnews : ((List.range m).map fun k => (f k).map AV.ofTr) = news)
    (hK : ∀ ad cap, (0 < m → ∃ g, ad = some ⟨g, 0, none⟩) → K ((d, .v (.slice ad (n + m) cap)) :: s) (.rw (.slice ad (n + m) cap) e sz (rows ++ news) :: h1)) : AOp P N o md s h K := by
  subst hrl
  subst hnews
  exact aop_append_t T ho hd (blt_lt hN) ht hz hzs hbt hx hy hp hb hone hmd hK
end
theorem intRows_range (xs : List Int) : ((List.range xs.length).map fun k => ([Tr.sc (.int .i64 (xs.getD k 0))]).map AV.ofTr) = xs.map intRow := by
  apply List.ext_getElem?
  intro k
  rcases Nat.lt_or_ge k xs.length with hk | hk
  · simp [hk, intRow, AV.ofTr]
  · simp [hk]
/-- a list that a call hands over, no more written -/
theorem acall_freeze {P : Program} {g : Nat} {args : List AV} {hc : List Ent} {E sz n : Nat} {rows : List (List AV)} {f : Nat → List Tr} (C : ACall P g args hc (fun r h' => ∃ v, r = .v v ∧ h' = [.rw v E sz rows])) (hn : rows.length = n) (hf : ∀ k, k < n → rows.getD k [] = (f k).map AV.ofTr) :
    ACall P g args hc (fun r h' => r = .t (.sl true sz n f) ∧ h' = []) := fun w S vs h1 h2 h3 =>
  (C w S vs h1 h2 h3).mono fun e w' ⟨v, S', r, h', e1, ⟨u, er, eh⟩, hvr, E', hlt, hr, hl⟩ => by
    subst er eh
    have e2 := hvr.lit_inv
    subst e2
    have he := hr.ent _ List.mem_cons_self
    refine ⟨v, _, _, [], e1, ⟨rfl, rfl⟩, .t (row_tree he hn hf), ⟨E'.os, E'.tape, E'.output, E'.size, E'.keep, fun b hb => .inl (E'.stab b hb), fun b hb => ?_⟩, fun b hb => ?_, .nil, fun e he => by cases he⟩
    · rcases hb with hb | hb
      · exact E'.new b hb
      · rcases hl _ List.mem_cons_self b hb with h | h
        · exact .inr (.inr h)
        · exact .inr (.inl h)
    · rcases hb with hb | hb
      · exact hlt b hb
      · exact he.lt b hb
end Go.Tl
namespace Go.Tl
open Go Go.RowKit
/-- a value that says less -/
def AVLe (y y' : AV) : Prop := ∀ (w : World) (S : Nat → Prop) (v : Value), VRel w S y v → VRel w S y' v
theorem AVLe.refl (y : AV) : AVLe y y := fun _ _ _ h => h
theorem AVLe.t {t t' : Tr} (h : TrLe t t') : AVLe (.t t) (.t t') := fun w S v hv => by cases hv with | t hv => exact .t (h w S v hv)
inductive AVsLe : List AV → List AV → Prop where
  | nil : AVsLe [] []
  | cons {y y' : AV} {r r' : List AV} (h : AVLe y y') (hr : AVsLe r r') : AVsLe (y :: r) (y' :: r')
theorem AVsLe.rels {cs ds : List AV} (h : AVsLe cs ds) {w : World} {S : Nat → Prop} : ∀ {vs : List Value}, VRels w S cs vs → VRels w S ds vs := by
  induction h with
  | nil => exact fun h => h
  | cons h _ ih =>
    intro vs hv
    cases vs with
    | nil => have := hv.1; simp at this
    | cons v vs => exact .cons (h w S v (hv.2 0 _ v rfl rfl)) (ih ⟨by have := hv.1; simpa using this, fun j a b ha hb => hv.2 (j + 1) a b (by simpa using ha) (by simpa using hb)⟩)
theorem AVLe.ag {cs ds : List AV} (h : AVsLe cs ds) : AVLe (.ag cs) (.ag ds) := fun w S v hv => by
  cases hv with | ag hl hh => exact .ag (h.rels ⟨hl, hh⟩).1 (h.rels ⟨hl, hh⟩).2
theorem AVLe.tup {cs ds : List AV} (h : AVsLe cs ds) : AVLe (.tup cs) (.tup ds) := fun w S v hv => by
  cases hv with | tup hl hh => exact .tup (h.rels ⟨hl, hh⟩).1 (h.rels ⟨hl, hh⟩).2
theorem acall_le {P : Program} {f : Nat} {args : List AV} {hc : List Ent} {Q Q' : AV → List Ent → Prop} (C : ACall P f args hc Q) (H : ∀ r h', Q r h' → ∃ r', Q' r' h' ∧ AVLe r r') : ACall P f args hc Q' := fun w S vs h1 h2 h3 =>
  (C w S vs h1 h2 h3).mono fun e w' ⟨v, S', r, h', e1, hq, hv, rest⟩ => by
    obtain ⟨r', hq', hle⟩ := H r h' hq
    exact ⟨v, S', r', h', e1, hq', hle _ _ _ hv, rest⟩
theorem pcall_le {P : Program} {f : Nat} {args : List AV} {y y' : AV} (C : PCall P f args (fun r => r = y)) (H : AVLe y y') : PCall P f args (fun r => r = y') := acall_le C fun r h' ⟨h1, h2⟩ => ⟨y', ⟨rfl, h2⟩, by subst h1; exact H⟩
/-- a place where ways meet -/
def cutQ (M : Slots → List Ent → Prop) (e : Exit) (s : Slots) (h : List Ent) : Prop := e = .normal ∧ ∃ s' h', SubS s' s ∧ SubH h' h ∧ M s' h'
theorem cut_n {M : Slots → List Ent → Prop} {s s' : Slots} {h h' : List Ent} (H : M s' h') (h1 : SubS s' s) (h2 : SubH h' h) : cutQ M .normal s h := ⟨rfl, s', h', h1, h2, H⟩
theorem awp_cut {P : Program} {N : Nat} {ro : Option Nat} {x y : Code} {Q Q' : Exit → Slots → List Ent → Prop} {s : Slots} {h : List Ent} (M : Slots → List Ent → Prop) (H1 : AWP P N ro x (cutQ M) s h) (H2 : ∀ s' h', M s' h' → AWP P N ro y Q s' h') : AWP P N ro x (thenQ (AWP P N ro y Q) Q') s h :=
  awp_mono H1 fun e s1 h1 ⟨he, s', h', hs, hh, hM⟩ => by
    subst he
    exact awp_weak hs hh (H2 s' h' hM)
theorem own_rw {v : Value} {E sz : Nat} {rows : List (List AV)} : ∀ b, v.ownBlock = some b → Own [.rw v E sz rows] b := fun _ hb => ⟨_, List.mem_singleton.2 rfl, hb⟩
theorem own_cl {g : Nat} {T : TypeId} {cs : List AV} : Own [.cl g T cs] g := ⟨_, List.mem_singleton.2 rfl, rfl⟩
theorem own_map {g n : Nat} {l : List (List Int × AV)} : Own [mapE g n l] g := ⟨_, List.mem_singleton.2 rfl, rfl⟩
theorem own_rw1 {g n c E sz : Nat} {rows : List (List AV)} : Own [.rw (.slice (some ⟨g, 0, none⟩) n c) E sz rows] g := ⟨_, List.mem_singleton.2 rfl, rfl⟩
section
variable {P : Program} {N : Nat} {o : Oper} {s : Slots} {h h1 : List Ent} {K : Slots → List Ent → Prop} {mt n : Nat}
theorem st_app_o (T : TT P) {t d e sz bt m c g' n : Nat} {z v : Value} {x y : Operand} {rows news : List (List AV)} (ho : o.op = .call { callee := .builtin .append, args := #[x, y], argTypes := #[t, t] }) (hd : o.dst = some d) (hN : Nat.blt d N = true)
    (ht : f2 T.elm t = some (e, sz, bt)) (hz : f2 T.zer e = some z) (hzs : z.cells.size = sz) (hbt : Nat.ble bt 1000 = true) (hx : evA s x = some (.v v)) (hy : evA s y = some (.v (.slice (some ⟨g', 0, none⟩) m c)))
    (hp : Pick h (.rw v e sz rows) h1) (hq : Mem1 (.rw (.slice (some ⟨g', 0, none⟩) m c) e sz news) h) (hm : Nat.beq news.length m = true) (hone : (news.flatten).all oneA = true) (hrl : rows.length = n) (hb : n + m ≤ 1000000) (hK : ∀ ad cap, (0 < m → ∃ g, ad = some ⟨g, 0, none⟩) → K ((d, .v (.slice ad (n + m) cap)) :: s) (.rw (.slice ad (n + m) cap) e sz (rows ++ news) :: h1)) : AOp P N o (Own [.rw v e sz rows]) s h K := st_app T ho hd hN ht hz hzs hbt hx hy hp hq hm hone hrl hb own_rw hK
theorem st_store_o (T : TT P) {t n g off : Nat} {ag : Bool} {x y : Operand} {u : AV} {T' : TypeId} {cs us cs' : List AV} {h' : List Ent} (ho : o.op = .store t x y) (hx : evA s x = some (.v (.pointer (some ⟨g, off, none⟩)))) (hy : evA s y = some u)
    (ht : f2 T.siz t = some (n, ag)) (hok : okA u = true) (hu : cellsA u = us) (hone : us.all oneA = true) (hn : Nat.beq us.length n = true) (hd : o.dst = none) (hp : Repl h (.cl g T' cs) (.cl g T' cs') h') (hcs : Sp cs off us cs') (hK : K s h') : AOp P N o (Own [.cl g T' cs]) s h K := st_store T ho hx hy ht hok hu hone hn hd hp hcs own_cl hK
theorem st_appt_o (T : TT P) {t d e sz bt m n : Nat} {z v : Value} {x y : Operand} {rows news : List (List AV)} {h1 : List Ent} {cp : Bool} {f : Nat → List Tr} (ho : o.op = .call { callee := .builtin .append, args := #[x, y], argTypes := #[t, t] }) (hd : o.dst = some d) (hN : Nat.blt d N = true)
    (ht : f2 T.elm t = some (e, sz, bt)) (hz : f2 T.zer e = some z) (hzs : z.cells.size = sz) (hbt : Nat.ble bt 1000 = true) (hx : evA s x = some (.v v)) (hy : evA s y = some (.t (.sl cp sz m f)))
    (hp : Pick h (.rw v e sz rows) h1) (hone : ∀ k, k < m → ∀ u ∈ f k, oneA (AV.ofTr u) = true) (hrl : rows.length = n) (hb : n + m ≤ 1000000) (hnews : ((List.range m).map fun k => (f k).map AV.ofTr) = news)
    (hK : ∀ ad cap, (0 < m → ∃ g, ad = some ⟨g, 0, none⟩) → K ((d, .v (.slice ad (n + m) cap)) :: s) (.rw (.slice ad (n + m) cap) e sz (rows ++ news) :: h1)) : AOp P N o (Own [.rw v e sz rows]) s h K := st_appt T ho hd hN ht hz hzs hbt hx hy hp hone hrl hb own_rw hnews hK
theorem st_mupd_o (M : MK P mt n) {m k x : Operand} {g : Nat} {cs : List AV} {ks : List Int} {y : AV} {l l' : List (List Int × AV)} {h' : List Ent} (ho : o.op = .mapUpdate mt m k x) (hm : evA s m = some (.v (.map (some g)))) (hk : evA s k = some (.ag cs)) (hcs : KAs cs ks) (hks : Nat.beq ks.length n = true) (hx : evA s x = some y) (hd : o.dst = none)
    (hp : Repl h (mapE g n l) (mapE g n l') h') (hl : updL l ks y = l') (hK : K s h') : AOp P N o (Own [mapE g n l]) s h K := st_mupd M ho hm hk hcs hks hx hd hp hl own_map hK
theorem st_copy_o (T : TT P) {t t' d e bt n m c g : Nat} {x y : Operand} {cp : Bool} {f : Nat → List Tr} {T' : TypeId} {cs cs' : List AV} {h' : List Ent} (hcs : spA cs 0 (((List.range (min m n)).map fun k => (f k).map AV.ofTr).flatten) = cs') (ho : o.op = .call { callee := .builtin .copy, args := #[x, y], argTypes := #[t, t'] }) (hd : o.dst = some d) (hN : Nat.blt d N = true) (ht : f2 T.elm t = some (e, 1, bt))
    (hx : evA s x = some (.v (.slice (some ⟨g, 0, none⟩) n c))) (hy : evA s y = some (.t (.sl cp 1 m f))) (hp : Repl h (.cl g T' cs) (.cl g T' cs') h') (hn : Nat.beq cs.length n = true) (hone : ∀ k, k < m → ∀ u ∈ f k, oneA (AV.ofTr u) = true)
    (hK : K ((d, intA ((min m n : Nat) : Int)) :: s) h') : AOp P N o (Own [.cl g T' cs]) s h K := st_copy T hcs ho hd hN ht hx hy hp hn hone own_cl hK
theorem aop_store_rp_o (T : TT P) {t n g off k len c E sz : Nat} {ag : Bool} {x y : Operand} {u : AV} {rows rows' : List (List AV)} {h' : List Ent} (ho : o.op = .store t x y) (hx : evA s x = some (.rp (.slice (some ⟨g, 0, none⟩) len c) sz k off)) (hy : evA s y = some u)
    (ht : f2 T.siz t = some (n, ag)) (hok : okA u = true) (hone : (cellsA u).all oneA = true) (hn : (cellsA u).length = n) (hd : o.dst = none) (hp : Repl h (.rw (.slice (some ⟨g, 0, none⟩) len c) E sz rows) (.rw (.slice (some ⟨g, 0, none⟩) len c) E sz rows') h')
    (hkl : k < rows.length) (hl : off + n ≤ sz) (hcs : rows.set k (spA (rows.getD k []) off (cellsA u)) = rows') (hK : K s h') : AOp P N o (Own [.rw (.slice (some ⟨g, 0, none⟩) len c) E sz rows]) s h K := aop_store_rp T ho hx hy ht hok hone hn hd hp hkl hl hcs own_rw1 hK
end
end Go.Tl
