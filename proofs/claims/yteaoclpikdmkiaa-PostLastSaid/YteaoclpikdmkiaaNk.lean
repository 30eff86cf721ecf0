/- All ways in which orders can come: the walk. -/
import Derived.Test.YteaoclpikdmkiaaNj
import Derived.Test.YteaoclpikdmkiaaGTs
import Derived.Test.YteaoclpikdmkiaaTz
import Derived.Test.YteaoclpikdmkiaaTv
namespace Go.Proofs.Yteaoclpikdmkiaa
open Go Go.RowKit Go.Tl
set_option linter.unusedVariables false
set_option linter.unusedSimpArgs false
set_option maxRecDepth 100000
set_option maxHeartbeats 4000000
/-- a list up to the first that passes, with this one -/
def uptoL {α : Type} (q : α → Bool) : List α → List α
  | [] => []
  | a :: l => if q a = true then [a] else a :: uptoL q l
theorem upto_none {α : Type} {q : α → Bool} : ∀ {l : List α}, l.any q = false → uptoL q l = l
  | [], _ => rfl
  | a :: l, h => by
    simp only [List.any_cons, Bool.or_eq_false_iff] at h
    simp only [uptoL]
    rw [if_neg (by rw [h.1]; decide), upto_none h.2]
theorem upto_app {α : Type} {q : α → Bool} : ∀ {l m : List α}, l.any q = false → uptoL q (l ++ m) = l ++ uptoL q m
  | [], _, _ => rfl
  | a :: l, m, h => by
    simp only [List.any_cons, Bool.or_eq_false_iff] at h
    simp only [uptoL, List.cons_append]
    rw [if_neg (by rw [h.1]; decide), upto_app h.2]
theorem upto_app1 {α : Type} {q : α → Bool} : ∀ {l m : List α}, l.any q = true → uptoL q (l ++ m) = uptoL q l
  | [], _, h => by cases h
  | a :: l, m, h => by
    simp only [List.any_cons, Bool.or_eq_true] at h
    simp only [uptoL, List.cons_append]
    by_cases c : q a = true
    · rw [if_pos c, if_pos c]
    · rw [if_neg c, if_neg c, upto_app1 (h.resolve_left c)]
attribute [local irreducible] AWP AWL AOp PV LV AWT AWE
/-- the leaves of some orders that can come next -/
def leavesL (p : PostD) (d : Nat) (W : WalkD) (l : List (Nat × Int)) : List Leaf := l.flatMap fun y => leavesN p d (stepW p W y)
/-- what is called at each leaf -/
structure EnOk (p : PostD) (ev : AV) (g : Nat) (fs cs : List AV) (q : Leaf → Bool) (E : List Leaf → Ob) : Prop where
  cal : Tl.Callee ev g fs cs
  fn : T0.fns.any g.beq = true
  one : oneA ev = true
  call : ∀ (vs : List Leaf) (x : Leaf), x ∈ leaves p → ACall Try.prog g (fs ++ [.t (salesT true x.1), .t (intsT true x.2)] ++ cs) [.ob (E vs)] (fun r h' => r = boolA (q x) ∧ h' = [.ob (E (vs ++ [x]))])
theorem leavesL_app (p : PostD) (d : Nat) (W : WalkD) (l m : List (Nat × Int)) : leavesL p d W (l ++ m) = leavesL p d W l ++ leavesL p d W m := by simp [leavesL, List.flatMap_append]
theorem leavesL_one (p : PostD) (d : Nat) (W : WalkD) (y : Nat × Int) : leavesL p d W [y] = leavesN p d (stepW p W y) := by simp [leavesL]
theorem yRow_inj : ∀ {l m : List (Nat × Int)}, l.map yRow = m.map yRow → l = m
  | [], [], _ => rfl
  | [], _ :: _, h => by cases h
  | _ :: _, [], h => by cases h
  | a :: l, b :: m, h => by
    simp only [List.map_cons, List.cons.injEq] at h
    obtain ⟨i, x⟩ := a
    obtain ⟨j, y⟩ := b
    have h1 := h.1
    simp only [yRow, List.cons.injEq, AV.v.injEq, Value.int.injEq, true_and, and_true] at h1
    have e1 : i = j := by omega
    rw [e1, h1.2, yRow_inj h.2]
section
variable {ev : AV} {cp c0 : Bool} {p : PostD} {W W' : WalkD} {g1 g2 g3 g4 g5 i : Nat} {m : Int} {mins : List Int} {o0 o1 : Ob} {bb : Bool} {u2 : AV} {rest : List Ent} {ro : Option Nat}
abbrev trE (g1 g2 g3 : Nat) (cp : Bool) (p : PostD) (ev : AV) : List Ent := [.cl g1 34 [.t (ordsT cp p.ords)], .cl g2 106 [ev], .cl g3 127 [.v (.func (.func 84) #[] #[ptrV g1, ptrV g2, ptrV g3])]]
theorem nk_8 (hW' : W' = ⟨comeN p W.flo i, mins, i, m⟩) (hcome : PCall Try.prog 80 [.ag (floC c0 p W.flo.left (.t (intsT true W.flo.came)) (.t (salesT true W.flo.log))), intA i] (fun r => r = floA c0 true true p (comeN p W.flo i)))
    (hC : ACall Try.prog 84 [.ag (walkC c0 true true true p W'), .v (ptrV g1), .v (ptrV g2), .v (ptrV g3)] (.ob o0 :: trE g1 g2 g3 cp p ev) (fun r h' => r = boolA bb ∧ h' = .ob o1 :: trE g1 g2 g3 cp p ev)) {ops : Array Oper} (h : regG Try.f84 8 = some ops) :
    AWP Try.prog Try.f84.ntmps ro (.region 8 ops true) (cutQ (fun s h => s = [(44, boolA bb), (4, .v (ptrV g4)), (5, .v (ptrV g5))] ∧ h = .ob o1 :: (trE g1 g2 g3 cp p ev ++ [.cl g4 129 (walkC c0 true true true p W)] ++ rest)))
      [(3, .v (ptrV g3)), (4, .v (ptrV g4)), (5, .v (ptrV g5)), (6, intA i), (7, intA m), (8, .t (intsT true mins))] (.ob o0 :: (trE g1 g2 g3 cp p ev ++ [.cl g4 129 (walkC c0 true true true p W)] ++ rest)) := by
  cases h
  subst hW'
  simp only [List.cons_append, List.nil_append]
  refine awp_tree T0 [(0, 1), (1, 0), (2, 1), (3, 0), (5, 0), (6, 0), (7, 0), (4, 2), (8, 0), (9, 3)] (.op 0 1 (.op 1 0 (.op 2 1 (.op 3 0 (.op 5 0 (.op 6 0 (.op 7 0 (.op 4 2 (.op 8 0 (.op 9 3 .stop)))))))))) [.cl g1 _ _, .cl g2 _ _, .cl g3 _ _, .cl g4 _ _] rfl (by kernel_rfl) (by solve | repeat' constructor) ?_
  refine awt_lo rfl (wt_none rfl) (lv_cl1 T0 rfl rfl rfl (by solve | repeat' constructor) (by first | rfl | assumption)) rfl rfl rfl ?_
  refine awt_po rfl (wt_none rfl) (pv_fa T0 rfl rfl rfl (by simp; rfl)) rfl rfl ?_
  refine awt_lo rfl (wt_none rfl) (lv_clp T0 rfl rfl rfl (by solve | repeat' constructor) rfl rfl) rfl rfl rfl ?_
  refine awt_po rfl (wt_none rfl) (pv_move rfl rfl) rfl rfl ?_
  refine awt_po rfl (wt_none rfl) (pv_move rfl rfl) rfl rfl ?_
  refine awt_po rfl (wt_none rfl) (pv_move rfl rfl) rfl rfl ?_
  refine awt_po rfl (wt_none rfl) (pv_move rfl rfl) rfl rfl ?_
  refine awt_h (hm := []) rfl (wt_none rfl) (by solve | repeat' constructor) rfl (st_call T0 (hcome) rfl rfl rfl rfl (by first | exact callee_lit | exact callee_v | exact callee_fn | assumption) (by solve | repeat' constructor) (by first | rfl | assumption) rfl ?_)
  rintro _ rfl
  refine awt_n1 rfl (wt_none rfl) (pv_build T0 rfl rfl rfl (by simp only [Value.cells, List.toList_toArray, List.map_cons, List.map_nil]; rfl) (by first | ((repeat' (first | exact BParts.nil | apply BParts.cons | rfl)); all_goals fail) | fail) (by first | ((repeat' (first | exact FillA.nil | exact Sp.done | apply FillA.cons | apply Sp.put | apply Sp.skip | (simp only [cellsA]; rfl) | rfl)); all_goals fail) | fail)) rfl rfl rfl ?_
  refine awt_s (md := fun _ => True) rfl (wt_none rfl) (st_acall T0 (hC) rfl rfl rfl rfl (by first | exact callee_lit | exact callee_v | exact callee_fn | assumption) (by solve | repeat' constructor) (by first | rfl | assumption) rfl (by first | ((repeat' (first | exact SubH.refl _ | apply SubH.cons | exact Pick.here | apply Pick.there)); all_goals fail) | fail) (fun _ _ => trivial) ?_)
  rintro r h ⟨rfl, rfl⟩
  refine awe_end ?_
  exact cut_n ⟨rfl, rfl⟩ (by first | ((repeat' (first | exact True.intro | refine ⟨rfl, ?_⟩)); all_goals fail) | fail) (by simp only [List.cons_append, List.nil_append]; repeat' (first | exact SubH.refl _ | exact subh_tail _ _ | exact subh_tail2 _ _ _ | exact Pick.here | apply Pick.there | apply SubH.cons))
end
theorem from1_p {ev : AV} {g : Nat} {fs cs : List AV} {q : Leaf → Bool} {E : List Leaf → Ob} (cp c0 : Bool) (p : PostD) (hv : VPost p) (hE : EnOk p ev g fs cs q E) (g1 g2 g3 : Nat) : ∀ (d : Nat) (W : WalkD) (l : List Nat) (vs : List Leaf), WInv p W l → l.length + d = p.ords.length → (∀ x ∈ leavesN p d W, x ∈ leaves p) →
    ACall Try.prog 84 [.ag (walkC c0 true true true p W), .v (ptrV g1), .v (ptrV g2), .v (ptrV g3)] [.ob (E vs), .cl g1 34 [.t (ordsT cp p.ords)], .cl g2 106 [ev], .cl g3 127 [.v (.func (.func 84) #[] #[ptrV g1, ptrV g2, ptrV g3])]]
      (fun r h' => r = boolA ((leavesN p d W).any q) ∧ h' = [.ob (E (vs ++ uptoL q (leavesN p d W))), .cl g1 34 [.t (ordsT cp p.ords)], .cl g2 106 [ev], .cl g3 127 [.v (.func (.func 84) #[] #[ptrV g1, ptrV g2, ptrV g3])]]) := by
  have hlen := hv.len
  intro d
  induction d with
  | zero =>
    intro W l vs hW hl hsb
    have hcl : W.flo.came.length = p.ords.length := by rw [hW.flo, run_came, List.length_map]; omega
    refine acall_of_awp T0 Try.func84 rfl rfl rfl ?_
    repeat (first | refine awp_seq ?_ | refine awp_region_lit rfl ?_)
    refine awl_hw (wt_none rfl) (st_box rfl rfl (by first | rfl | assumption) (by first | assumption | (simp only [cellsA]; rfl)) rfl rfl ?_)
    intro g4
    skip
    refine awl_hw (wt_none rfl) (st_alloc T0 rfl rfl rfl rfl (by simp only [Value.cells, List.toList_toArray, List.map_cons, List.map_nil]; rfl) ?_)
    intro g5
    repeat (first | refine awp_seq ?_ | refine awp_region_lit rfl ?_ | refine then_n ?_ | refine awp_cond_t rfl (by first | rfl | assumption | exact dT (by omega)) ?_ | (show AWL _ _ _ (⟨_, .load _ _, _, _, _, _⟩ :: _) _ _ _; refine awl_lw (wt_none rfl) (lv_cl1 T0 rfl rfl rfl (by solve | repeat' constructor) (by first | rfl | assumption)) rfl rfl rfl ?_) | (show AWL _ _ _ (⟨_, .fieldAddr _ _ _, _, _, _, _⟩ :: _) _ _ _; refine awl_pw (wt_none rfl) (pv_fa T0 rfl rfl rfl (by simp; rfl)) rfl rfl ?_) | (show AWL _ _ _ (⟨_, .binOp .eql _ _ _ _, _, _, _, _⟩ :: _) _ _ _; refine awl_pw (wt_none rfl) (pv_eql rfl rfl rfl) rfl rfl ?_) | (show AWL _ _ _ (⟨_, .call ⟨.builtin .len, _, _⟩, _, _, _, _⟩ :: _) _ _ _; refine awl_pw (wt_none rfl) (pv_len_t T0 rfl rfl rfl) rfl rfl ?_) | refine awl_nil ?_)
    have hcal := hE.cal
    have hfn := hE.fn
    have hone := hE.one
    have hC := hE.call vs (W.flo.log, W.mins) (hsb _ (List.mem_singleton.2 rfl))
    refine awl_hw (wt_none rfl) (st_acall T0 (hC) rfl rfl rfl rfl (by first | exact callee_lit | exact callee_v | exact callee_fn | assumption) (by solve | repeat' constructor) (by first | rfl | assumption) rfl (by first | ((repeat' (first | exact SubH.refl _ | apply SubH.cons | exact Pick.here | apply Pick.there)); all_goals fail) | fail) (fun _ _ => trivial) ?_)
    rintro r h ⟨rfl, rfl⟩
    simp only [List.cons_append, List.nil_append]
    repeat (first | refine awp_ret ?_ | refine then_r ?_ | (show AWL _ _ _ (⟨_, .store _ _ _, _, _, _, _⟩ :: _) _ _ _; refine awl_hw (wt_none rfl) (st_store T0 rfl rfl rfl rfl rfl (by first | assumption | (simp only [cellsA]; rfl)) rfl rfl rfl (by solve | repeat' constructor) (by solve | repeat' constructor) trivial ?_)) | refine awl_nil ?_)
    exact body_r (h' := [.ob (E (vs ++ uptoL q (leavesN p 0 W))), .cl g1 34 [.t (ordsT cp p.ords)], .cl g2 106 [ev], .cl g3 127 [.v (.func (.func 84) #[] #[ptrV g1, ptrV g2, ptrV g3])]]) (.cons ⟨g5, _, _, _, _, rfl, rfl, (by solve | repeat' constructor), Nat.le_refl _, .inr rfl, rfl⟩ .nil) (by rw [show uptoL q (leavesN p 0 W) = [(W.flo.log, W.mins)] from by simp only [leavesN, uptoL]; split <;> rfl]; exact (by solve | repeat' constructor)) ⟨by simp only [leavesN, List.any_cons, List.any_nil, Bool.or_false]; rfl, rfl⟩
  | succ d ih =>
    intro W l vs hW hl hsb
    have hcl : W.flo.came.length = l.length := by rw [hW.flo, run_came, List.length_map]
    refine acall_of_awp T0 Try.func84 rfl rfl rfl ?_
    repeat (first | refine awp_seq ?_ | refine awp_region_lit rfl ?_)
    refine awl_hw (wt_none rfl) (st_box rfl rfl (by first | rfl | assumption) (by first | assumption | (simp only [cellsA]; rfl)) rfl rfl ?_)
    intro g4
    skip
    refine awl_hw (wt_none rfl) (st_alloc T0 rfl rfl rfl rfl (by simp only [Value.cells, List.toList_toArray, List.map_cons, List.map_nil]; rfl) ?_)
    intro g5
    repeat (first | refine awp_seq ?_ | refine awp_region_lit rfl ?_ | refine awp_skip ?_ | refine then_n ?_ | refine awp_cond_f rfl (by first | rfl | assumption | exact dF (by omega)) ?_ | (show AWL _ _ _ (⟨_, .load _ _, _, _, _, _⟩ :: _) _ _ _; refine awl_lw (wt_none rfl) (lv_cl1 T0 rfl rfl rfl (by solve | repeat' constructor) (by first | rfl | assumption)) rfl rfl rfl ?_) | (show AWL _ _ _ (⟨_, .load _ _, _, _, _, _⟩ :: _) _ _ _; refine awl_lw (wt_none rfl) (lv_cla T0 rfl rfl rfl (by solve | repeat' constructor) rfl) rfl rfl rfl ?_) | (show AWL _ _ _ (⟨_, .fieldAddr _ _ _, _, _, _, _⟩ :: _) _ _ _; refine awl_pw (wt_none rfl) (pv_fa T0 rfl rfl rfl (by simp; rfl)) rfl rfl ?_) | (show AWL _ _ _ (⟨_, .binOp .eql _ _ _ _, _, _, _, _⟩ :: _) _ _ _; refine awl_pw (wt_none rfl) (pv_eql rfl rfl rfl) rfl rfl ?_) | (show AWL _ _ _ (⟨_, .call ⟨.builtin .len, _, _⟩, _, _, _, _⟩ :: _) _ _ _; refine awl_pw (wt_none rfl) (pv_len_t T0 rfl rfl rfl) rfl rfl ?_) | refine awl_nil ?_)
    refine awl_hw (wt_none rfl) (st_acall T0 (next_p c0 true true true p W) rfl rfl rfl rfl (by first | exact callee_lit | exact callee_v | exact callee_fn | assumption) (by solve | repeat' constructor) (by first | rfl | assumption) rfl (by first | ((repeat' (first | exact SubH.refl _ | apply SubH.cons | exact Pick.here | apply Pick.there)); all_goals fail) | fail) (fun _ _ => trivial) ?_)
    rintro r h ⟨gn, rfl, rfl⟩
    simp only [List.cons_append, List.nil_append]
    repeat (first | refine awp_block ?_ | refine then_n ?_ | refine awl_nil ?_)
    have hmn : -1 ≤ W.last ∧ W.last ≤ 1000 ∧ 0 ≤ W.mn ∧ W.mn ≤ 1000 := by
      rcases hW.lst with ⟨_, e1, e2⟩ | ⟨l', k, e, e1, e2⟩
      · omega
      · have hk := hW.lt k (by rw [e]; simp)
        have h1 := hW.rng k (by rw [e]; simp)
        have h2 := hv.min k hk
        have h3 : (oAt p k).lo ≤ W.mins.getD k 0 := h1.1
        have h4 : W.mins.getD k 0 ≤ (oAt p k).hi := h1.2
        have h5 : 0 ≤ (oAt p k).lo := h2.1
        have h6 : (oAt p k).hi ≤ 30 := h2.2.2
        omega
    refine awp_rangeFuncS T0 (Pre := PreN p W) (Full := FullN p W) (hf := [.cl g5 4 [boolA false], .cl g4 129 (walkC c0 true true true p W), .ob (E vs), .cl g1 34 [.t (ordsT cp p.ords)], .cl g2 106 [ev], .cl g3 127 [.v (.func (.func 84) #[] #[ptrV g1, ptrV g2, ptrV g3])]])
      (fun pre h => ∃ l, pre = l.map yRow ∧ (leavesL p d W l).any q = false ∧ h = [.cl g5 4 [boolA false], .cl g4 129 (walkC c0 true true true p W), .ob (E (vs ++ leavesL p d W l)), .cl g1 34 [.t (ordsT cp p.ords)], .cl g2 106 [ev], .cl g3 127 [.v (.func (.func 84) #[] #[ptrV g1, ptrV g2, ptrV g3])]])
      (fun pre e h => e = .ret ∧ ∃ l, pre = l.map yRow ∧ (leavesL p d W l).any q = true ∧ h = [.cl g5 4 [boolA true], .ob (E (vs ++ uptoL q (leavesL p d W l))), .cl g1 34 [.t (ordsT cp p.ords)], .cl g2 106 [ev], .cl g3 127 [.v (.func (.func 84) #[] #[ptrV g1, ptrV g2, ptrV g3])]]) rfl (callee_v (a := []) (b := [ptrV gn])) rfl (next1_p gn c0 true true true p W hv (by omega) (by omega) (by omega)) (by solve | repeat' constructor) ⟨[], rfl, rfl, by simp [leavesL]⟩ ?_ rfl ?_ ?_ ?_ (fun _ _ _ _ h => nomatch h.1)
    · rintro pre y ⟨l1, r, -, e⟩
      have hy : y ∈ l1.map yRow := by rw [← e]; simp
      obtain ⟨a, -, rfl⟩ := List.mem_map.1 hy
      rfl
    · rintro lb pre y h' ⟨l2, r, hl2, e⟩ ⟨l1, rfl, hany, rfl⟩
      obtain ⟨⟨i, m⟩, rfl, hmem⟩ : ∃ a : Nat × Int, y = yRow a ∧ a ∈ nextL p W p.ords.length := by
        have hy : y ∈ l2.map yRow := by rw [← e]; simp
        obtain ⟨a, ha, rfl⟩ := List.mem_map.1 hy
        exact ⟨a, rfl, by rw [hl2]; exact List.mem_append_left _ ha⟩
      obtain ⟨h1, h2, h3, h4⟩ := next_mem.1 hmem
      simp only at h1 h2 h3 h4
      have hok : FOk p W.flo := by rw [hW.flo]; exact fok_run hv hW.nd hW.lt
      have hll := hok.log
      have hcome := come_p c0 true true p W.flo i hv h1 hok.came h2 (by omega) (by omega) hok.left
      have hC := ih (stepW p W (i, m)) (l ++ [i]) (vs ++ leavesL p d W l1) (winv_step hW hmem) (by simp; omega) (fun x hx => hsb x (List.mem_flatMap.2 ⟨_, hmem, hx⟩))
      have hml : W.mins.length = p.ords.length := hW.ml
      have hset := row_set W.mins i m (by omega)
      simp only [List.cons_append, List.nil_append]
      repeat (first | refine awp_seq ?_ | refine awp_region_lit rfl ?_ | refine then_n ?_ | (show AWL _ _ _ (⟨_, .assign _, _, _, _, _⟩ :: _) _ _ _; refine awl_pw (wt_none rfl) (pv_assign rfl rfl) rfl rfl ?_) | refine awl_nil ?_)
      refine ⟨rfl, ?_⟩
      repeat (first | refine awp_seq ?_ | refine awp_block ?_ | refine awp_region_lit rfl ?_ | (show AWL _ _ _ (⟨_, .load _ _, _, _, _, _⟩ :: _) _ _ _; refine awl_lw (wt_none rfl) (lv_cl1 T0 rfl rfl rfl (by solve | repeat' constructor) (by first | rfl | assumption)) rfl rfl rfl ?_) | (show AWL _ _ _ (⟨_, .fieldAddr _ _ _, _, _, _, _⟩ :: _) _ _ _; refine awl_pw (wt_none rfl) (pv_fa T0 rfl rfl rfl (by simp; rfl)) rfl rfl ?_))
      refine awl_hw (wt_none rfl) (st_acall T0 (iclone_o true W.mins (by omega)) rfl rfl rfl rfl (by first | exact callee_lit | exact callee_v | exact callee_fn | assumption) (by solve | repeat' constructor) (by first | rfl | assumption) rfl (by first | ((repeat' (first | exact SubH.refl _ | apply SubH.cons | exact Pick.here | apply Pick.there)); all_goals fail) | fail) (fun _ _ => trivial) ?_)
      rintro r h ⟨a8, c8, rfl, rfl⟩
      simp only [List.cons_append, List.nil_append]
      have hrl : (W.mins.map intRow).length = W.mins.length := List.length_map _
      repeat (first | refine awp_seq ?_ | refine awp_region_lit rfl ?_ | refine then_n ?_ | (show AWL _ _ _ (⟨_, .move _, _, _, _, _⟩ :: _) _ _ _; refine awl_pw (wt_none rfl) (pv_move rfl rfl) rfl rfl ?_) | (show AWL _ _ _ (⟨_, .assign _, _, _, _, _⟩ :: _) _ _ _; refine awl_pw (wt_none rfl) (pv_assign rfl rfl) rfl rfl ?_) | refine awl_nil ?_)
      refine awl_open (v := .slice a8 W.mins.length c8) (E := 3) (sz := 1) (rows := W.mins.map intRow) (by solve | repeat' constructor) fun ad cap he hg => ?_
      obtain ⟨g8, rfl⟩ := hg (by omega)
      rw [hrl] at he
      cases he
      repeat (first | (show AWL _ _ _ (⟨_, .indexAddr _ _ _, _, _, _, _⟩ :: _) _ _ _; refine awl_pw (wt_none rfl) (pv_ix_own T0 rfl rfl rfl rfl (by omega) (by first | exact (rfl : Int.toNat 0 = 0) | exact Int.toNat_natCast _ | rfl)) rfl rfl ?_))
      refine awl_hw (wt_none rfl) (aop_store_rp T0 rfl rfl rfl rfl rfl rfl rfl rfl (by solve | repeat' constructor) (by first | omega | (simp; omega)) (by omega) rfl trivial ?_)
      simp only [cellsA]
      rw [hset]
      have hrt := intRows_tree (W.mins.set i m)
      rw [List.length_set] at hrt
      refine awl_ghost (ghost_freeze (E := 3) (sz := 1) (n := W.mins.length) (rows := (W.mins.set i m).map intRow) (d := 8) (fun q => [.sc (.int .i64 ((W.mins.set i m).getD q 0))]) (by solve | repeat' constructor) rfl (by simp) hrt) ?_
      rw [show (Tr.sl true 1 W.mins.length fun q => [.sc (.int .i64 ((W.mins.set i m).getD q 0))]) = intsT true (W.mins.set i m) from by unfold intsT; rw [List.length_set]]
      repeat (first | refine awp_seq ?_ | refine then_n ?_ | refine awl_nil ?_)
      refine awp_cut _ (awp_weak (by first | ((repeat' (first | exact True.intro | refine ⟨rfl, ?_⟩)); all_goals fail) | fail) (by solve | repeat' constructor) (nk_8 (ev := ev) (cp := cp) (c0 := c0) (p := p) (W := W) (W' := stepW p W (i, m)) (g1 := g1) (g2 := g2) (g3 := g3) (g4 := g4) (g5 := g5) (i := i) (m := m) (mins := W.mins.set i m) (rest := [.cl g5 4 [boolA false], .cl gn 129 (walkC c0 true true true p W)]) rfl hcome hC rfl)) ?_
      rintro s h ⟨rfl, rfl⟩
      simp only [List.cons_append, List.nil_append]
      cases hb : (leavesN p d (stepW p W (i, m))).any q
      · rw [upto_none hb, show vs ++ leavesL p d W l1 ++ leavesN p d (stepW p W (i, m)) = vs ++ leavesL p d W (l1 ++ [(i, m)]) from by rw [leavesL_app, leavesL_one, ← List.append_assoc]]
        repeat (first | refine awp_skip ?_ | refine blk_n ?_ | refine awp_cond_f rfl (by first | rfl | assumption | exact dF (by omega)) ?_)
        refine ⟨_, (by solve | repeat' constructor), _, rfl, l1 ++ [(i, m)], by rw [List.map_append]; rfl, ?_, rfl⟩
        rw [leavesL_app, leavesL_one, List.any_append, hany, hb]; rfl
      · rw [show vs ++ leavesL p d W l1 ++ uptoL q (leavesN p d (stepW p W (i, m))) = vs ++ uptoL q (leavesL p d W (l1 ++ [(i, m)])) from by rw [leavesL_app, leavesL_one, upto_app hany, ← List.append_assoc]]
        repeat (first | refine awp_seq ?_ | refine awp_region_lit rfl ?_ | refine awp_ret ?_ | refine then_n ?_ | refine blk_r ?_ | refine awp_cond_t rfl (by first | rfl | assumption | exact dT (by omega)) ?_ | (show AWL _ _ _ (⟨_, .store _ _ _, _, _, _, _⟩ :: _) _ _ _; refine awl_hw (wt_none rfl) (st_store T0 rfl rfl rfl rfl rfl (by first | assumption | (simp only [cellsA]; rfl)) rfl rfl rfl (by solve | repeat' constructor) (by solve | repeat' constructor) trivial ?_)) | refine awl_nil ?_)
        refine ⟨_, (by solve | repeat' constructor), rfl, l1 ++ [(i, m)], by rw [List.map_append]; rfl, ?_, rfl⟩
        rw [leavesL_app, leavesL_one, List.any_append, hany, hb]; rfl
    · rintro L h' hF ⟨l1, hL, hany, rfl⟩
      obtain rfl := yRow_inj (hF.symm.trans hL)
      simp only [List.cons_append, List.nil_append]
      repeat (first | refine awp_seq ?_ | refine awp_region_lit rfl ?_ | refine awp_ret ?_ | refine then_n ?_ | (show AWL _ _ _ (⟨_, .store _ _ _, _, _, _, _⟩ :: _) _ _ _; refine awl_hw (wt_none rfl) (st_store T0 rfl rfl rfl rfl rfl (by first | assumption | (simp only [cellsA]; rfl)) rfl rfl rfl (by solve | repeat' constructor) (by solve | repeat' constructor) trivial ?_)) | refine awl_nil ?_)
      refine body_r (h' := [.ob (E (vs ++ uptoL q (leavesN p (d + 1) W))), .cl g1 34 [.t (ordsT cp p.ords)], .cl g2 106 [ev], .cl g3 127 [.v (.func (.func 84) #[] #[ptrV g1, ptrV g2, ptrV g3])]]) (.cons ⟨g5, _, _, _, _, rfl, rfl, (by solve | repeat' constructor), Nat.le_refl _, .inr rfl, rfl⟩ .nil) (by rw [show uptoL q (leavesN p (d + 1) W) = leavesL p d W (nextL p W p.ords.length) from upto_none hany]; exact (by solve | repeat' constructor)) ⟨?_, rfl⟩
      · rw [show (leavesN p (d + 1) W).any q = false from hany]; rfl
    · rintro L h' ⟨l2, r, hl2, e2⟩ ⟨-, l1, hL, hany, rfl⟩
      obtain rfl := yRow_inj (e2.symm.trans hL)
      have e3 : leavesN p (d + 1) W = leavesL p d W l2 ++ leavesL p d W r := by
        rw [← leavesL_app, ← hl2]; rfl
      repeat (first | refine then_r ?_ | refine blk_r ?_)
      refine body_r (h' := [.ob (E (vs ++ uptoL q (leavesN p (d + 1) W))), .cl g1 34 [.t (ordsT cp p.ords)], .cl g2 106 [ev], .cl g3 127 [.v (.func (.func 84) #[] #[ptrV g1, ptrV g2, ptrV g3])]]) (.cons ⟨g5, _, _, _, _, rfl, rfl, (by solve | repeat' constructor), Nat.le_refl _, .inr rfl, rfl⟩ .nil) (by rw [e3, upto_app1 hany]; exact (by solve | repeat' constructor)) ⟨?_, rfl⟩
      · rw [e3, List.any_append, hany]; rfl
end Go.Proofs.Yteaoclpikdmkiaa
