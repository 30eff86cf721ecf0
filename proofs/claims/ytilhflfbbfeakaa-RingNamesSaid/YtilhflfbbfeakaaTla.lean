/- Regions that draw their order, over plain trees: along a tree of plans. -/
import Derived.Test.YtilhflfbbfeakaaTl9
import Derived.Test.YtilhflfbbfeakaaPlan2
namespace Go.Tl
open Go Go.RowKit
open Go.Proofs.Ytilhflfbbfeakaa (PT treeB)
set_option linter.unusedVariables false

/-- an operation is carried out -/
def Wt (ops : Array Oper) (o : Oper) (s : Slots) : Prop := o.guard = none ∨ ∃ g b og t, o.guard = some (g, b) ∧ ops[g]? = some og ∧ og.dst = some t ∧ look s t = some (.v (.bool b))
/-- it is passed over -/
def Wf (ops : Array Oper) (o : Oper) (s : Slots) : Prop := ∃ g b c og t, o.guard = some (g, b) ∧ ops[g]? = some og ∧ og.dst = some t ∧ look s t = some (.v (.bool c)) ∧ c = !b
theorem wt_none {ops : Array Oper} {o : Oper} {s : Slots} (h : o.guard = none) : Wt ops o s := .inl h
theorem wt_some {ops : Array Oper} {o : Oper} {s : Slots} {g t : Nat} {b : Bool} {og : Oper} (h : o.guard = some (g, b)) (h1 : ops[g]? = some og) (h2 : og.dst = some t) (h3 : look s t = some (.v (.bool b))) : Wt ops o s := .inr ⟨g, b, og, t, h, h1, h2, h3⟩
/-- .. for a guard that is known otherwise -/
theorem wt_some' {ops : Array Oper} {o : Oper} {s : Slots} {g t : Nat} {b c : Bool} {og : Oper} (h : o.guard = some (g, b)) (h1 : ops[g]? = some og) (h2 : og.dst = some t) (h3 : look s t = some (.v (.bool c))) (h4 : c = b) : Wt ops o s := by subst h4; exact .inr ⟨g, c, og, t, h, h1, h2, h3⟩
theorem wf_some {ops : Array Oper} {o : Oper} {s : Slots} {g t : Nat} {b c : Bool} {og : Oper} (h : o.guard = some (g, b)) (h1 : ops[g]? = some og) (h2 : og.dst = some t) (h3 : look s t = some (.v (.bool c))) (h4 : c = !b) : Wf ops o s := ⟨g, b, c, og, t, h, h1, h2, h3, h4⟩
theorem Wt.wanted {ops : Array Oper} {o : Oper} {s : Slots} {w : World} {S : Nat → Prop} {a : Act} (h : Wt ops o s) (hs : SRel w S s a.tmps) : Region.wanted o (yielded ops a.tmps) = true := by
  rcases h with h | ⟨g, b, og, t, h, h1, h2, h3⟩
  · simp [Region.wanted, h]
  · obtain ⟨v, hv1, hv2⟩ := hs t _ h3
    simp [Region.wanted, h, yielded, h1, h2, hv1, hv2.lit_inv]
theorem Wf.unwanted {ops : Array Oper} {o : Oper} {s : Slots} {w : World} {S : Nat → Prop} {a : Act} (h : Wf ops o s) (hs : SRel w S s a.tmps) : Region.wanted o (yielded ops a.tmps) = false := by
  obtain ⟨g, b, c, og, t, h, h1, h2, h3, h4⟩ := h
  obtain ⟨v, hv1, hv2⟩ := hs t _ h3
  subst h4
  cases b <;> simp [Region.wanted, h, yielded, h1, h2, hv1, hv2.lit_inv]

theorem wpOX_of_if {P : Program} {ops : Array Oper} {Q : Exit → Act → World → Prop} {i : Nat} {o : Oper} {K : Act → World → Prop} {a : Act} {w : World} (ho : ops[i]? = some o) (h : if Region.wanted o (yielded ops a.tmps) = true then wpX P o a w K Q else K (a.put o.dst undef) w) : wpOX P ops Q i K a w := ⟨o, ho, h⟩
def Kept (S0 : Nat → Prop) (ks : List Ent) (b : Nat) : Prop := S0 b ∨ Own ks b
/-- what is left of a region: so, ks: what was so at its beginning and still is -/
def AWT (P : Program) (N : Nat) (ops : Array Oper) (so : Slots) (ks : List Ent) (t : PT) (Q : Exit → Slots → List Ent → Prop) (s : Slots) (h : List Ent) : Prop :=
  ∀ (B : Base) (w0 : World) (S0 : Nat → Prop) (w : World) (S : Nat → Prop) (a : Act), Sim B N w S s h a → SRel w0 S0 so a.tmps → HRel w0 S0 ks → (∀ b, S0 b → b < w0.heap.size) → w0.heap.size ≤ w.heap.size → (∀ b, S0 b → S b) →
    (∀ b, Kept S0 ks b → w.heap[b]? = w0.heap[b]?) → wpTX P ops (postR B N Q) (fun w' => ∀ b, Kept S0 ks b → w'.heap[b]? = w0.heap[b]?) t a w
/-- .. when only stores are left -/
def AWE (P : Program) (N : Nat) (ops : Array Oper) (t : PT) (Q : Exit → Slots → List Ent → Prop) (s : Slots) (h : List Ent) : Prop :=
  ∀ (B : Base) (SS : World → Prop) (w : World) (S : Nat → Prop) (a : Act), Sim B N w S s h a → wpTX P ops (postR B N Q) SS t a w

section
variable {P : Program} {N : Nat} {ops : Array Oper} {so s : Slots} {ks h : List Ent} {Q : Exit → Slots → List Ent → Prop} {r : PT} {i d : Nat} {o : Oper}

theorem SRel.put0 {w : World} {S : Nat → Prop} {a : Act} (hs : SRel w S so a.tmps) {v : Value} {dst : Option Nat} (hd : ∀ d, dst = some d → look so d = none) : SRel w S so (a.put dst v).tmps := fun e x hx => by
  obtain ⟨u, hu, hr⟩ := hs e x hx
  cases dst with
  | none => exact ⟨u, hu, hr⟩
  | some d =>
    have hne : d ≠ e := fun e0 => by subst e0; rw [hd d rfl] at hx; cases hx
    exact ⟨u, by simp only [Act.put]; rw [Array.getElem?_setIfInBounds_ne hne]; exact hu, hr⟩

theorem awt_end (H : Q .normal s h) : AWT P N ops so ks .stop Q s h := fun B w0 S0 w S a hs _ _ _ _ _ _ => ⟨rfl, S, s, h, H, hs⟩
/-- it only computes, from what was so at the beginning -/
theorem awt_po {y : AV} (ho : ops[i]? = some o) (hw : Wt ops o s) (H : PV P o so y) (hd : o.dst = some d) (hN : Nat.blt d N = true) (K : AWT P N ops ((d, y) :: so) ks r Q ((d, y) :: s) h) : AWT P N ops so ks (.op i 0 r) Q s h := fun B w0 S0 w S a hs hso hks hl hsz hS hk => by
  obtain ⟨v, hrun, hv⟩ := H w0 S0 a hso
  have hv' := hv.mono hS (fun b hb => hk b (.inl hb))
  refine ⟨o, v, ho, .inl ⟨hw.wanted hs.slots, fun w' _ => hrun w'⟩, ?_⟩
  rw [hd]
  exact K B w0 S0 w S _ (hs.put hv' (blt_lt hN)) (hso.put hv (by rw [hs.size]; exact blt_lt hN)) hks hl hsz hS hk
/-- it only computes -/
theorem awt_pn {y : AV} {so' : Slots} (ho : ops[i]? = some o) (hw : Wt ops o s) (H : PV P o s y) (hd : o.dst = some d) (hN : Nat.blt d N = true) (hso' : ∀ e x, look so' e = some x → look so e = some x) (hn : look so' d = none) (K : AWT P N ops so' ks r Q ((d, y) :: s) h) : AWT P N ops so ks (.op i 0 r) Q s h := fun B w0 S0 w S a hs hso hks hl hsz hS hk => by
  obtain ⟨v, hrun, hv⟩ := H w S a hs.slots
  refine ⟨o, v, ho, .inl ⟨hw.wanted hs.slots, fun w' _ => hrun w'⟩, ?_⟩
  rw [hd]
  have hso2 : SRel w0 S0 so' a.tmps := fun e x hx => hso e x (hso' e x hx)
  exact K B w0 S0 w S _ (hs.put hv (blt_lt hN)) (hso2.put0 (fun d' e => by cases e; exact hn)) hks hl hsz hS hk
/-- it is passed over -/
theorem awt_sk0 {so' : Slots} (ho : ops[i]? = some o) (hw : Wf ops o s) (hd : o.dst = some d) (hN : Nat.blt d N = true) (hso' : ∀ e x, look so' e = some x → look so e = some x) (hn : look so' d = none) (K : AWT P N ops so' ks r Q ((d, .v undef) :: s) h) : AWT P N ops so ks (.op i 0 r) Q s h := fun B w0 S0 w S a hs hso hks hl hsz hS hk => by
  refine ⟨o, undef, ho, .inr ⟨hw.unwanted hs.slots, rfl⟩, ?_⟩
  rw [hd]
  have hso2 : SRel w0 S0 so' a.tmps := fun e x hx => hso e x (hso' e x hx)
  exact K B w0 S0 w S _ (hs.put (.v _) (blt_lt hN)) (hso2.put0 (fun d' e => by cases e; exact hn)) hks hl hsz hS hk
theorem awt_sk1 {so' : Slots} (ho : ops[i]? = some o) (hw : Wf ops o s) (hd : o.dst = some d) (hN : Nat.blt d N = true) (hso' : ∀ e x, look so' e = some x → look so e = some x) (hn : look so' d = none) (K : AWT P N ops so' ks r Q ((d, .v undef) :: s) h) : AWT P N ops so ks (.op i 1 r) Q s h := fun B w0 S0 w S a hs hso hks hl hsz hS hk => by
  refine ⟨o, undef, ho, .inr ⟨hw.unwanted hs.slots, rfl⟩, ?_⟩
  rw [hd]
  have hso2 : SRel w0 S0 so' a.tmps := fun e x hx => hso e x (hso' e x hx)
  exact K B w0 S0 w S _ (hs.put (.v _) (blt_lt hN)) (hso2.put0 (fun d' e => by cases e; exact hn)) hks hl hsz hS hk
/-- it looks at what was so at the beginning -/
theorem awt_lo {y y' : AV} {e : Option Ent} (ho : ops[i]? = some o) (hw : Wt ops o s) (H : LV P o so ks e y) (hy : y = y') (hd : o.dst = some d) (hN : Nat.blt d N = true) (K : AWT P N ops ((d, y') :: so) ks r Q ((d, y') :: s) h) : AWT P N ops so ks (.op i 1 r) Q s h := fun B w0 S0 w S a hs hso hks hl hsz hS hk => by
  subst hy
  obtain ⟨v, b, hrun, hv, hb⟩ := H w0 S0 a hso hks
  have hkb : Kept S0 ks b := by
    rcases hb with h1 | ⟨e0, _, h2, h3⟩
    · exact .inl h1
    · exact .inr ⟨e0, h2, h3⟩
  have hv' := hv.mono hS (fun b hb => hk b (.inl hb))
  refine ⟨o, v, ho, .inl ⟨hw.wanted hs.slots, fun w' hw' => hrun w' (hw' b hkb)⟩, ?_⟩
  rw [hd]
  exact K B w0 S0 w S _ (hs.put hv' (blt_lt hN)) (hso.put hv (by rw [hs.size]; exact blt_lt hN)) hks hl hsz hS hk
/-- it makes memory, or writes entries that are not looked at -/
theorem awt_h {hm : List Ent} (ho : ops[i]? = some o) (hw : Wt ops o s) (hsub : SubH (hm ++ ks) h) (hn : (match o.dst with | some d => look so d | none => none) = none) (H : AOp P N o (Own hm) s h (fun s' h' => AWT P N ops so ks r Q s' h')) : AWT P N ops so ks (.op i 2 r) Q s h := fun B w0 S0 w S a hs hso hks hl hsz hS hk => by
  have hr := hsub.heap hs.heap
  have hkeep : ∀ b, Kept S0 ks b → b < w.heap.size ∧ ¬ Own hm b := fun b hb => by
    rcases hb with h1 | ⟨e, he, h1⟩
    · exact ⟨hs.lt b (hS b h1), fun ⟨e, he, h2⟩ => hr.off e (List.mem_append_left _ he) b h2 (hS b h1)⟩
    · exact ⟨(hr.ent e (List.mem_append_right _ he)).lt b h1, fun ⟨e', he', h2⟩ => (List.pairwise_append.1 hr.sep).2.2 e' he' e he b h2 h1⟩
  refine wpOX_of_if ho ?_
  rw [if_pos (hw.wanted hs.slots)]
  refine H B w S a hs _ _ (fun v w' S' s' h' hK hs' hu => ?_)
  have hk' : ∀ b, Kept S0 ks b → w'.heap[b]? = w0.heap[b]? := fun b hb => (hu.keep b (hkeep b hb).1 (hkeep b hb).2).trans (hk b hb)
  refine ⟨hk', hK B w0 S0 w' S' _ hs' (hso.put0 (fun d e => ?_)) hks hl (Nat.le_trans hsz hu.size) (fun b hb => hu.stab b (hS b hb)) hk'⟩
  rw [e] at hn
  exact hn
/-- a heavy operation that is passed over -/
theorem awt_sk2 {so' : Slots} (ho : ops[i]? = some o) (hw : Wf ops o s) (hd : o.dst = some d) (hN : Nat.blt d N = true) (hso' : ∀ e x, look so' e = some x → look so e = some x) (hn : look so' d = none) (K : AWT P N ops so' ks r Q ((d, .v undef) :: s) h) : AWT P N ops so ks (.op i 2 r) Q s h := fun B w0 S0 w S a hs hso hks hl hsz hS hk => by
  refine wpOX_of_if ho ?_
  rw [if_neg (by rw [hw.unwanted hs.slots]; simp), hd]
  have hso2 : SRel w0 S0 so' a.tmps := fun e x hx => hso e x (hso' e x hx)
  exact ⟨hk, K B w0 S0 w S _ (hs.put (.v _) (blt_lt hN)) (hso2.put0 (fun d' e => by cases e; exact hn)) hks hl hsz hS hk⟩
theorem awt_s {md : Nat → Prop} (ho : ops[i]? = some o) (hw : Wt ops o s) (H : AOp P N o md s h (fun s' h' => AWE P N ops r Q s' h')) : AWT P N ops so ks (.op i 3 r) Q s h := fun B w0 S0 w S a hs hso hks hl hsz hS hk => by
  refine wpOX_of_if ho ?_
  rw [if_pos (hw.wanted hs.slots)]
  exact H B w S a hs _ _ (fun v w' S' s' h' hK hs' hu => hK B _ w' S' _ hs')
theorem awt_sk3 (ho : ops[i]? = some o) (hw : Wf ops o s) (hd : o.dst = some d) (hN : Nat.blt d N = true) (K : AWE P N ops r Q ((d, .v undef) :: s) h) : AWT P N ops so ks (.op i 3 r) Q s h := fun B w0 S0 w S a hs hso hks hl hsz hS hk => by
  refine wpOX_of_if ho ?_
  rw [if_neg (by rw [hw.unwanted hs.slots]; simp), hd]
  exact K B _ w S _ (hs.put (.v _) (blt_lt hN))
theorem awt_fork {j : Nat} {q : PT} (H1 : AWT P N ops so ks (.op i 2 r) Q s h) (H2 : AWT P N ops so ks (.op j 2 q) Q s h) : AWT P N ops so ks (.fork i r j q) Q s h := fun B w0 S0 w S a hs hso hks hl hsz hS hk => ⟨H1 B w0 S0 w S a hs hso hks hl hsz hS hk, H2 B w0 S0 w S a hs hso hks hl hsz hS hk⟩
theorem awt_ghost {s' : Slots} {h' : List Ent} (G : Ghost s h s' h') (H : AWT P N ops so ks r Q s' h') : AWT P N ops so ks r Q s h := fun B w0 S0 w S a hs hso hks hl hsz hS hk => by
  obtain ⟨S', hs', hS'⟩ := G B N w S a hs
  exact H B w0 S0 w S' a hs' hso hks hl hsz (fun b hb => hS' b (hS b hb)) hk
theorem awe_end (H : Q .normal s h) : AWE P N ops .stop Q s h := fun B SS w S a hs => ⟨rfl, S, s, h, H, hs⟩
theorem awe_p {y : AV} (ho : ops[i]? = some o) (hw : Wt ops o s) (H : PV P o s y) (hd : o.dst = some d) (hN : Nat.blt d N = true) (K : AWE P N ops r Q ((d, y) :: s) h) : AWE P N ops (.op i 0 r) Q s h := fun B SS w S a hs => by
  obtain ⟨v, hrun, hv⟩ := H w S a hs.slots
  refine ⟨o, v, ho, .inl ⟨hw.wanted hs.slots, fun w' _ => hrun w'⟩, ?_⟩
  rw [hd]
  exact K B SS w S _ (hs.put hv (blt_lt hN))
theorem awe_sk (ho : ops[i]? = some o) (hw : Wf ops o s) (hd : o.dst = some d) (hN : Nat.blt d N = true) (K : AWE P N ops r Q ((d, .v undef) :: s) h) : AWE P N ops (.op i 0 r) Q s h := fun B SS w S a hs => by
  refine ⟨o, undef, ho, .inr ⟨hw.unwanted hs.slots, rfl⟩, ?_⟩
  rw [hd]
  exact K B SS w S _ (hs.put (.v _) (blt_lt hN))
theorem awe_s {md : Nat → Prop} (ho : ops[i]? = some o) (hw : Wt ops o s) (H : AOp P N o md s h (fun s' h' => AWE P N ops r Q s' h')) : AWE P N ops (.op i 3 r) Q s h := fun B SS w S a hs => by
  refine wpOX_of_if ho ?_
  rw [if_pos (hw.wanted hs.slots)]
  exact H B w S a hs _ _ (fun v w' S' s' h' hK hs' hu => hK B SS w' S' _ hs')
/-- a region that draws its order -/
theorem awp_tree (T : TT P) {ro : Option Nat} {id : Nat} (full : List (Nat × Nat)) (t : PT) (ks : List Ent) (hn : ops.toList.all ndO = true) (hok : treeB ops full t = true) (hks : SubH ks h) (H : AWT P N ops s ks t Q s h) : AWP P N ro (.region id ops true) Q s h := fun B w S a hs => by
  have hd := hs.drew
  refine Code.wpIn_mono postR_post (wpIn_treeX (fun w' => ∀ b, Kept S ks b → w'.heap[b]? = w.drew.heap[b]?) full t T.mixed hok hn (fun _ _ _ _ _ h => (by cases h.1)) (fun _ _ => rfl) ?_)
  exact H B w.drew S w.drew S a hd hd.slots (hks.heap hd.heap) hd.lt (Nat.le_refl _) (fun _ h => h) (fun _ _ => rfl)
end
end Go.Tl
