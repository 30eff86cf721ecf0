/- Operations whose guard was passed over itself: they are passed over, too. -/
import Derived.Test.YteaoclpikdmkiaaGTx
namespace Go.Tl
open Go Go.RowKit
open Go.Proofs.Yteaoclpikdmkiaa (PT)
set_option linter.unusedVariables false
def Wu (ops : Array Oper) (o : Oper) (s : Slots) : Prop := ∃ g b og t, o.guard = some (g, b) ∧ ops[g]? = some og ∧ og.dst = some t ∧ look s t = some (.v undef)
theorem wu_some {ops : Array Oper} {o : Oper} {s : Slots} {g t : Nat} {b : Bool} {og : Oper} (h : o.guard = some (g, b)) (h1 : ops[g]? = some og) (h2 : og.dst = some t) (h3 : look s t = some (.v undef)) : Wu ops o s := ⟨g, b, og, t, h, h1, h2, h3⟩
theorem Wu.unwanted {ops : Array Oper} {o : Oper} {s : Slots} {w : World} {S : Nat → Prop} {a : Act} (h : Wu ops o s) (hs : SRel w S s a.tmps) : Region.wanted o (yielded ops a.tmps) = false := by
  obtain ⟨g, b, og, t, h, h1, h2, h3⟩ := h
  obtain ⟨v, hv1, hv2⟩ := hs t _ h3
  simp [Region.wanted, h, yielded, h1, h2, hv1, hv2.lit_inv, undef]
section
variable {P : Program} {N : Nat} {ops : Array Oper} {o : Oper} {rest : List Oper} {so s : Slots} {ks h : List Ent} {Q : Exit → Slots → List Ent → Prop} {r : PT} {i d : Nat}
theorem awl_sku (hw : Wu ops o s) (hd : o.dst = some d) (hN : Nat.blt d N = true) (hK : AWL P N ops rest Q ((d, .v undef) :: s) h) : AWL P N ops (o :: rest) Q s h := fun B w S a hs => by
  refine wpLX_skip (hw.unwanted hs.slots) ?_
  rw [hd]
  exact hK B w S _ (hs.put (.v _) (blt_lt hN))
theorem awt_sk0u (ho : ops[i]? = some o) (hw : Wu ops o s) (hd : o.dst = some d) (hN : Nat.blt d N = true) (hn : look so d = none) (K : AWT P N ops so ks r Q ((d, .v undef) :: s) h) : AWT P N ops so ks (.op i 0 r) Q s h := fun B w0 S0 w S a hs hso hks hl hsz hS hk => by
  refine ⟨o, undef, ho, .inr ⟨hw.unwanted hs.slots, rfl⟩, ?_⟩
  rw [hd]
  exact K B w0 S0 w S _ (hs.put (.v _) (blt_lt hN)) (hso.put0 (fun d' e => by cases e; exact hn)) hks hl hsz hS hk
theorem awt_sk1u (ho : ops[i]? = some o) (hw : Wu ops o s) (hd : o.dst = some d) (hN : Nat.blt d N = true) (hn : look so d = none) (K : AWT P N ops so ks r Q ((d, .v undef) :: s) h) : AWT P N ops so ks (.op i 1 r) Q s h := fun B w0 S0 w S a hs hso hks hl hsz hS hk => by
  refine ⟨o, undef, ho, .inr ⟨hw.unwanted hs.slots, rfl⟩, ?_⟩
  rw [hd]
  exact K B w0 S0 w S _ (hs.put (.v _) (blt_lt hN)) (hso.put0 (fun d' e => by cases e; exact hn)) hks hl hsz hS hk
theorem awe_sku (ho : ops[i]? = some o) (hw : Wu ops o s) (hd : o.dst = some d) (hN : Nat.blt d N = true) (K : AWE P N ops r Q ((d, .v undef) :: s) h) : AWE P N ops (.op i 0 r) Q s h := fun B SS w S a hs => by
  refine ⟨o, undef, ho, .inr ⟨hw.unwanted hs.slots, rfl⟩, ?_⟩
  rw [hd]
  exact K B SS w S _ (hs.put (.v _) (blt_lt hN))
end
end Go.Tl
