/- All ways in which orders can come: truths. -/
import Derived.Test.YteaoclpikdmkiaaNk
import Derived.Test.YteaoclpikdmkiaaTlw
import Derived.Test.YteaoclpikdmkiaaTz
import Derived.Test.YteaoclpikdmkiaaTv
namespace Go.Tl
open Go Go.RowKit Go.Proofs.Yteaoclpikdmkiaa
theorem acall_args {P : Program} {f : Nat} {args args' : List AV} {hc : List Ent} {Q : AV → List Ent → Prop} (C : ACall P f args' hc Q) (H : AVsLe args args') : ACall P f args hc Q := fun w S vs h1 h2 h3 => C w S vs h1 h2 (H.rels h3)
theorem AVLe.nil {cp : Bool} {sz : Nat} {f : Nat → List Tr} : AVLe (.v (.slice none 0 0)) (.t (.sl cp sz 0 f)) := fun w S v hv => by cases hv with | v => exact .t (nil_tree w S)
end Go.Tl
namespace Go.Proofs.Yteaoclpikdmkiaa
open Go Go.RowKit Go.Tl
set_option linter.unusedVariables false
set_option linter.unusedSimpArgs false
set_option maxRecDepth 100000
set_option maxHeartbeats 4000000
theorem rep_tree (n : Nat) : ∀ k, k < n → (List.replicate n [AV.v (Value.int IntKind.i64 0)]).getD k [] = ((fun q => [.sc (.int .i64 ((List.replicate n (0 : Int)).getD q 0))]) k : List Tr).map AV.ofTr := fun k hk => by
  simp [List.getD_eq_getElem?_getD, hk, AV.ofTr]
attribute [local irreducible] AWP AWL AOp PV LV AWT AWE
section
variable {ev : AV} {g : Nat} {fs cs : List AV} {q : Leaf → Bool} {E : List Leaf → Ob} {cp : Bool} {p : PostD} {g2 g3 g5 : Nat}
theorem from0_p (hv : VPost p) (hE : EnOk p ev g fs cs q E) : ACall Try.prog 84 [.ag [.t (ordsT cp p.ords), intA 0, intA 0, intA 0, intA 0, intA 0, intA 0, .v (.slice none 0 0), .v (.slice none 0 0), .t (intsT true (List.replicate p.ords.length 0)), intA (-1), intA 0], .v (ptrV g2), .v (ptrV g3), .v (ptrV g5)]
    [.ob (E []), .cl g2 34 [.t (ordsT cp p.ords)], .cl g3 106 [ev], .cl g5 127 [.v (.func (.func 84) #[] #[ptrV g2, ptrV g3, ptrV g5])]]
    (fun r h' => r = boolA ((leaves p).any q) ∧ h' = [.ob (E (uptoL q (leaves p))), .cl g2 34 [.t (ordsT cp p.ords)], .cl g3 106 [ev], .cl g5 127 [.v (.func (.func 84) #[] #[ptrV g2, ptrV g3, ptrV g5])]]) := by
  have C := from1_p cp cp p hv hE g2 g3 g5 p.ords.length (walk0 p) [] [] (winv0 p) (by simp) (fun x hx => hx)
  rw [List.nil_append] at C
  refine acall_args C (.cons (.ag ?_) (.cons (.refl _) (.cons (.refl _) (.cons (.refl _) .nil))))
  exact .cons (.refl _) (.cons (.refl _) (.cons (.refl _) (.cons (.refl _) (.cons (.refl _) (.cons (.refl _) (.cons (.refl _) (.cons .nil (.cons .nil (.cons (.refl _) (.cons (.refl _) (.cons (.refl _) .nil)))))))))))
theorem nl_3 (hv : VPost p) (hE : EnOk p ev g fs cs q E) {ops : Array Oper} (h : regF Try.f62 3 = some ops) :
    AWP Try.prog Try.f62.ntmps none (.region 3 ops true) (cutQ (fun s h => s = [(4, boolA ((leaves p).any q))] ∧ h = [.ob (E (uptoL q (leaves p)))]))
      [(2, .v (ptrV g2)), (3, .v (ptrV g3)), (5, .v (ptrV g5))] [.ob (E []), .cl g2 34 [.t (ordsT cp p.ords)], .cl g3 106 [ev], .cl g5 127 [.v (.func (.func 84) #[] #[ptrV g2, ptrV g3, ptrV g5])]] := by
  cases h
  have hlen := hv.len
  refine awp_tree T0 [(0, 1), (1, 1), (2, 0), (3, 0), (4, 1), (5, 0), (6, 2), (7, 0), (8, 3), (9, 0)] (.op 0 1 (.op 1 1 (.op 2 0 (.op 3 0 (.op 4 1 (.op 5 0 (.op 6 2 (.op 7 0 (.op 8 3 (.op 9 0 .stop)))))))))) [.cl g2 _ _, .cl g5 _ _] rfl (by kernel_rfl) (by solve | repeat' constructor) ?_
  refine awt_lo rfl (wt_none rfl) (lv_cl1 T0 rfl rfl rfl (by solve | repeat' constructor) (by first | rfl | assumption)) rfl rfl rfl ?_
  refine awt_lo rfl (wt_none rfl) (lv_cla T0 rfl rfl rfl (by solve | repeat' constructor) rfl) rfl rfl rfl ?_
  refine awt_po rfl (wt_none rfl) (pv_build T0 rfl rfl rfl (by simp only [Value.cells, List.toList_toArray, List.map_cons, List.map_nil]; rfl) (by first | ((repeat' (first | exact BParts.nil | apply BParts.cons | rfl)); all_goals fail) | fail) (by first | ((repeat' (first | exact FillA.nil | exact Sp.done | apply FillA.cons | apply Sp.put | apply Sp.skip | (simp only [cellsA]; rfl) | rfl)); all_goals fail) | fail)) rfl rfl ?_
  refine awt_po rfl (wt_none rfl) (pv_fa T0 rfl rfl rfl (by simp; rfl)) rfl rfl ?_
  refine awt_lo rfl (wt_none rfl) (lv_cl1 T0 rfl rfl rfl (by solve | repeat' constructor) (by first | rfl | assumption)) rfl rfl rfl ?_
  refine awt_po rfl (wt_none rfl) (pv_len_t T0 rfl rfl rfl) rfl rfl ?_
  (refine awt_h (hm := []) rfl (wt_none rfl) (by solve | repeat' constructor) rfl (aop_make T0 rfl rfl rfl rfl rfl rfl rfl rfl (by omega) rfl ?_); intro g13; refine awt_ghost (ghost_freeze (E := 3) (sz := 1) (n := p.ords.length) (d := 13) (fun q => [.sc (.int .i64 ((List.replicate p.ords.length (0 : Int)).getD q 0))]) (by solve | repeat' constructor) rfl (List.length_replicate) (rep_tree p.ords.length)) ?_; rw [show (Tr.sl true 1 p.ords.length fun q => [.sc (.int .i64 ((List.replicate p.ords.length (0 : Int)).getD q 0))]) = intsT true (List.replicate p.ords.length 0) from by unfold intsT; rw [List.length_replicate]])
  refine awt_n1 rfl (wt_none rfl) (pv_build T0 rfl rfl rfl (by simp only [Value.cells, List.toList_toArray, List.map_cons, List.map_nil]; rfl) (by first | ((repeat' (first | exact BParts.nil | apply BParts.cons | rfl)); all_goals fail) | fail) (by first | ((repeat' (first | exact FillA.nil | exact Sp.done | apply FillA.cons | apply Sp.put | apply Sp.skip | (simp only [cellsA]; rfl) | rfl)); all_goals fail) | fail)) rfl rfl rfl ?_
  refine awt_s (md := fun _ => True) rfl (wt_none rfl) (st_acall T0 (from0_p hv hE) rfl rfl rfl rfl (by first | exact callee_lit | exact callee_v | exact callee_fn | assumption) (by solve | repeat' constructor) (by first | rfl | assumption) rfl (by first | ((repeat' (first | exact SubH.refl _ | apply SubH.cons | exact Pick.here | apply Pick.there)); all_goals fail) | fail) (fun _ _ => trivial) ?_)
  rintro r h ⟨rfl, rfl⟩
  refine awe_p rfl (wt_none rfl) (pv_assign rfl rfl) rfl rfl ?_
  refine awe_end ?_
  exact cut_n ⟨rfl, rfl⟩ (by first | ((repeat' (first | exact True.intro | refine ⟨rfl, ?_⟩)); all_goals fail) | fail) (by solve | repeat' constructor)
end
theorem truths_p {ev : AV} {g : Nat} {fs cs : List AV} {q : Leaf → Bool} {E : List Leaf → Ob} (cp : Bool) (p : PostD) (hv : VPost p) (hE : EnOk p ev g fs cs q E) : ACall Try.prog 62 [postA cp p, ev] [.ob (E [])] (fun r h' => r = boolA ((leaves p).any q) ∧ h' = [.ob (E (uptoL q (leaves p)))]) := by
  have hlen := hv.len
  have hone := hE.one
  have hcells : cellsA ev = [ev] := by
    revert hone
    cases ev <;> intro h <;> first | rfl | cases h
  have hok : okA ev = true := by
    clear hcells
    revert hone
    cases ev <;> intro h <;> first | rfl | exact h
  refine acall_of_awp T0 Try.func62 rfl rfl rfl ?_
  repeat (first | refine awp_seq ?_ | refine awp_region_lit rfl ?_)
  refine awl_hw (wt_none rfl) (st_box rfl rfl (by first | rfl | assumption) (by first | assumption | (simp only [cellsA]; rfl)) rfl rfl ?_)
  intro g2
  skip
  refine awl_hw (wt_none rfl) (st_box rfl rfl (by first | rfl | assumption) (by first | assumption | (simp only [cellsA]; rfl)) rfl rfl ?_)
  intro g3
  repeat (first | refine awp_seq ?_ | refine awp_region_lit rfl ?_ | (show AWL _ _ _ (⟨_, .assign _, _, _, _, _⟩ :: _) _ _ _; refine awl_pw (wt_none rfl) (pv_assign rfl rfl) rfl rfl ?_) | refine awl_nil ?_)
  refine awl_hw (wt_none rfl) (st_alloc T0 rfl rfl rfl rfl (by simp only [Value.cells, List.toList_toArray, List.map_cons, List.map_nil]; rfl) ?_)
  intro g5
  repeat (first | refine awp_seq ?_ | refine awp_region_lit rfl ?_ | refine awl_nil ?_)
  refine awl_pw (wt_none rfl) (pv_makeFunc_v (fs := []) (cs := [ptrV g2, ptrV g3, ptrV g5]) rfl rfl rfl) rfl rfl ?_
  repeat (first | refine awp_seq ?_ | (show AWL _ _ _ (⟨_, .store _ _ _, _, _, _, _⟩ :: _) _ _ _; refine awl_hw (wt_none rfl) (st_store T0 rfl rfl rfl rfl rfl (by first | assumption | (simp only [cellsA]; rfl)) rfl rfl rfl (by solve | repeat' constructor) (by solve | repeat' constructor) trivial ?_)) | refine awl_nil ?_)
  refine awp_cut _ (awp_weak (by first | ((repeat' (first | exact True.intro | refine ⟨rfl, ?_⟩)); all_goals fail) | fail) (by solve | repeat' constructor) (nl_3 (g2 := g2) (g3 := g3) (g5 := g5) (cp := cp) hv hE rfl)) ?_
  rintro s h ⟨rfl, rfl⟩
  repeat (first | refine awp_ret ?_)
  exact body_r (h' := [.ob (E (uptoL q (leaves p)))]) (.cons rfl .nil) (by solve | repeat' constructor) ⟨rfl, rfl⟩
end Go.Proofs.Yteaoclpikdmkiaa
