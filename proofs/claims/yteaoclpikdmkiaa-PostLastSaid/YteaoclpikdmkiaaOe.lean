/- The smallest set of records: walks. -/
import Derived.Test.YteaoclpikdmkiaaOd
import Derived.Test.YteaoclpikdmkiaaTk
import Derived.Test.YteaoclpikdmkiaaTlw
import Derived.Test.YteaoclpikdmkiaaTy
import Derived.Test.YteaoclpikdmkiaaTz
import Derived.Test.YteaoclpikdmkiaaTv
namespace Go.Proofs.Yteaoclpikdmkiaa
open Go Go.RowKit Go.Tl
set_option linter.unusedVariables false
set_option linter.unusedSimpArgs false
set_option maxRecDepth 100000
set_option maxHeartbeats 4000000
/-- so many increasing numbers from one on, the smaller lists first -/
def combosL (n : Nat) : Nat → Nat → List (List Nat)
  | 0, _ => [[]]
  | m + 1, i => (List.range' i (n - m - i)).flatMap fun j => (combosL n m (j + 1)).map (j :: ·)
theorem combos_end {n m i : Nat} (h : n < i + (m + 1)) : combosL n (m + 1) i = [] := by
  simp only [combosL]
  rw [show n - m - i = 0 by omega]
  rfl
theorem combos_step {n m i : Nat} (h : i + (m + 1) ≤ n) : combosL n (m + 1) i = (combosL n m (i + 1)).map (i :: ·) ++ combosL n (m + 1) (i + 1) := by
  simp only [combosL]
  rw [show n - m - i = (n - m - (i + 1)) + 1 by omega, List.range'_succ, List.flatMap_cons]
/-- whether some truth explains the records without some -/
noncomputable def canB (p : PostD) (l : List SaleD) (o : List Nat) : Bool := (leaves p).any fun x => explB (recF l (natsI o)) x.1
/-- what the search comes to, with some records left out already -/
noncomputable def leR (p : PostD) (l : List SaleD) (o : List Nat) (cs : List (List Nat)) : Bool × List Nat := match cs.find? (fun e => canB p l (o ++ e)) with | some e => (true, o ++ e) | none => (false, o)
theorem leR_nil (p : PostD) (l : List SaleD) (o : List Nat) : leR p l o [] = (false, o) := rfl
theorem leR_one (p : PostD) (l : List SaleD) (o : List Nat) : leR p l o [[]] = (canB p l o, o) := by
  unfold leR
  simp only [List.find?, List.append_nil]
  cases c : canB p l o
  · rfl
  · simp
theorem leR_app {p : PostD} {l : List SaleD} {o : List Nat} {cs ds : List (List Nat)} : leR p l o (cs ++ ds) = if (leR p l o cs).1 = true then leR p l o cs else leR p l o ds := by
  unfold leR
  rw [List.find?_append]
  cases h : cs.find? (fun e => canB p l (o ++ e)) with
  | none => rw [if_neg Bool.false_ne_true]; rfl
  | some e => rw [if_pos rfl]; rfl
theorem leR_cons {p : PostD} {l : List SaleD} {o : List Nat} {i : Nat} {cs : List (List Nat)} : leR p l o (cs.map (i :: ·)) = if (leR p l (o ++ [i]) cs).1 = true then leR p l (o ++ [i]) cs else (false, o) := by
  unfold leR
  rw [List.find?_map]
  have e : ((fun e => canB p l (o ++ e)) ∘ fun x => i :: x) = fun e => canB p l (o ++ [i] ++ e) := by
    funext x; simp
  rw [e]
  cases h : cs.find? (fun e => canB p l (o ++ [i] ++ e)) with
  | none => rw [if_neg Bool.false_ne_true]; rfl
  | some e => rw [if_pos rfl]; simp
attribute [local irreducible] AWP AWL AOp PV LV AWT AWE
theorem contains_o (v : Value) (l : List Int) (x : Int) (hl : l.length ≤ 1000) : ACall Try.prog 89 [.v v, intA x] [.rw v 3 1 (l.map intRow)] (fun r h' => r = boolA (decide (x ∈ l)) ∧ h' = [.rw v 3 1 (l.map intRow)]) :=
  acall_lend lit_closed (contains_p true l x hl) (List.length_map _) (intRows_tree l)
theorem counted_o (c : Bool) (l : List SaleD) (v : Value) (out : List Int) (hl : l.length ≤ 1000) (ho : out.length ≤ 1000) :
    ACall Try.prog 73 [.t (salesT c l), .v v] [.rw v 3 1 (out.map intRow)] (fun r h' => ∃ g, r = .v (.map (some g)) ∧ h' = [recM g (recF l out), .rw v 3 1 (out.map intRow)]) := by
  refine acall_of_awp T0 Try.func73 rfl rfl rfl ?_
  repeat (first | refine awp_seq ?_ | refine awp_region_lit rfl ?_ | (show AWL _ _ _ (⟨_, .assign _, _, _, _, _⟩ :: _) _ _ _; refine awl_pw (wt_none rfl) (pv_assign rfl rfl) rfl rfl ?_) | refine awl_nil ?_)
  refine awl_hw (wt_none rfl) (aop_makeMapF saleV (intA 0) rfl rfl rfl fun g => ?_)
  repeat (first | refine awp_seq ?_ | refine awp_block ?_ | refine awp_region_lit rfl ?_ | (show AWL _ _ _ (⟨_, .move _, _, _, _, _⟩ :: _) _ _ _; refine awl_pw (wt_none rfl) (pv_move rfl rfl) rfl rfl ?_) | (show AWL _ _ _ (⟨_, .assign _, _, _, _, _⟩ :: _) _ _ _; refine awl_pw (wt_none rfl) (pv_assign rfl rfl) rfl rfl ?_) | (show AWL _ _ _ (⟨_, .call ⟨.builtin .len, _, _⟩, _, _, _, _⟩ :: _) _ _ _; refine awl_pw (wt_none rfl) (pv_len_t T0 rfl rfl rfl) rfl rfl ?_) | refine awl_nil ?_)
  refine awp_loop (fun m sl h => ∃ (k : Nat), k ≤ l.length ∧ m = l.length - k ∧ sl = [(0, .t (salesT c l)), (1, .v v), (5, .v (.map (some g))), (9, .t (salesT c l)), (10, intA l.length), (11, intA k)] ∧ h = [recM g (fun s => recN l out s k), .rw v 3 1 (out.map intRow)]) ?_ ⟨0, Nat.zero_le _, rfl, rfl, rfl⟩ (by first | ((repeat' (first | exact True.intro | refine ⟨rfl, ?_⟩)); all_goals fail) | fail) (by solve | repeat' constructor)
  rintro m sl h ⟨k, hk, rfl, rfl, rfl⟩
  by_cases hkt : k < l.length
  case neg =>
    obtain rfl : k = l.length := by omega
    repeat (first | refine awp_seq ?_ | refine awp_region_lit rfl ?_ | refine awp_exit ?_ | refine awp_ret ?_ | refine awp_cond_f rfl (by first | rfl | assumption | exact dF (by omega)) ?_ | (show AWL _ _ _ (⟨_, .move _, _, _, _, _⟩ :: _) _ _ _; refine awl_pw (wt_none rfl) (pv_move rfl rfl) rfl rfl ?_) | (show AWL _ _ _ (⟨_, .assign _, _, _, _, _⟩ :: _) _ _ _; refine awl_pw (wt_none rfl) (pv_assign rfl rfl) rfl rfl ?_) | (show AWL _ _ _ (⟨_, .binOp .lss _ _ _ _, _, _, _, _⟩ :: _) _ _ _; refine awl_pw (wt_none rfl) (pv_lss rfl rfl rfl) rfl rfl ?_) | refine awl_nil ?_)
    exact body_r (h' := [recM g (recF l out), .rw v 3 1 (out.map intRow)]) (.cons rfl .nil) (by solve | repeat' constructor) ⟨g, rfl, rfl⟩
  have hb := rec_bd l out (l.getD k default) k
  repeat (first | refine awp_seq ?_ | refine awp_block ?_ | refine awp_region_lit rfl ?_ | refine awp_skip ?_ | refine awp_cond_t rfl (by first | rfl | assumption | exact dT (by omega)) ?_ | (show AWL _ _ _ (⟨_, .move _, _, _, _, _⟩ :: _) _ _ _; refine awl_pw (wt_none rfl) (pv_move rfl rfl) rfl rfl ?_) | (show AWL _ _ _ (⟨_, .load _ _, _, _, _, _⟩ :: _) _ _ _; refine awl_lw (wt_none rfl) (lv_elt_ag T0 rfl rfl rfl rfl (by solve | repeat' constructor)) rfl rfl rfl ?_) | (show AWL _ _ _ (⟨_, .indexAddr _ _ _, _, _, _, _⟩ :: _) _ _ _; refine awl_pw (wt_none rfl) (pv_ix_t T0 rfl rfl rfl rfl (by omega) (by first | exact (rfl : Int.toNat 0 = 0) | exact Int.toNat_natCast _ | rfl)) rfl rfl ?_) | (show AWL _ _ _ (⟨_, .binOp .lss _ _ _ _, _, _, _, _⟩ :: _) _ _ _; refine awl_pw (wt_none rfl) (pv_lss rfl rfl rfl) rfl rfl ?_) | refine awl_nil ?_)
  refine awl_hw (wt_none rfl) (st_alloc T0 rfl rfl rfl rfl (by simp only [Value.cells, List.toList_toArray, List.map_cons, List.map_nil]; rfl) ?_)
  intro g7
  repeat (first | refine awp_seq ?_ | refine awp_region_lit rfl ?_ | (show AWL _ _ _ (⟨_, .move _, _, _, _, _⟩ :: _) _ _ _; refine awl_pw (wt_none rfl) (pv_move rfl rfl) rfl rfl ?_) | (show AWL _ _ _ (⟨_, .assign _, _, _, _, _⟩ :: _) _ _ _; refine awl_pw (wt_none rfl) (pv_assign rfl rfl) rfl rfl ?_) | (show AWL _ _ _ (⟨_, .store _ _ _, _, _, _, _⟩ :: _) _ _ _; refine awl_hw (wt_none rfl) (st_store T0 rfl rfl rfl rfl rfl (by first | assumption | (simp only [cellsA]; rfl)) rfl rfl rfl (by solve | repeat' constructor) (by solve | repeat' constructor) trivial ?_)) | refine awl_nil ?_)
  by_cases hc : (k : Int) ∈ out
  · have d1 := decide_eq_true hc
    have hst : (fun s => recN l out s (k + 1)) = fun s => recN l out s k := by
      funext s
      show (if (k : Int) ∉ out ∧ l.getD k default = s then _ else _) = _
      rw [if_neg (fun h => h.1 hc)]
    refine awl_hw (wt_none rfl) (st_acall T0 (contains_o v out k ho) rfl rfl rfl rfl (by first | exact callee_lit | exact callee_v | exact callee_fn | assumption) (by solve | repeat' constructor) (by first | rfl | assumption) rfl (by first | ((repeat' (first | exact SubH.refl _ | apply SubH.cons | exact Pick.here | apply Pick.there)); all_goals fail) | fail) (fun _ _ => trivial) ?_)
    rintro r h ⟨rfl, rfl⟩
    simp only [List.cons_append, List.nil_append]
    rw [d1]
    repeat (first | refine awp_region_lit rfl ?_ | refine awp_skip ?_ | refine then_n ?_ | refine awp_cond_f rfl (by first | rfl | assumption | exact dF (by omega)) ?_ | (show AWL _ _ _ (⟨_, .move _, _, _, _, _⟩ :: _) _ _ _; refine awl_pw (wt_none rfl) (pv_move rfl rfl) rfl rfl ?_) | (show AWL _ _ _ (⟨_, .binOp .add _ _ _ _, _, _, _, _⟩ :: _) _ _ _; refine awl_pw (wt_none rfl) (pv_add rfl rfl rfl (by first | assumption | exact wr64 (by omega))) rfl rfl ?_) | (show AWL _ _ _ (⟨_, .unOp .not _ _, _, _, _, _⟩ :: _) _ _ _; refine awl_pw (wt_none rfl) (pv_not rfl rfl) rfl rfl ?_) | refine awl_nil ?_)
    refine rnd_n _ _ _ ?_ ⟨k + 1, hkt, rfl, rfl, by rw [hst]⟩ (by first | ((repeat' (first | exact True.intro | refine ⟨rfl, ?_⟩)); all_goals fail) | fail) (by solve | repeat' constructor)
    omega
  · have d1 := decide_eq_false hc
    refine awl_hw (wt_none rfl) (st_acall T0 (contains_o v out k ho) rfl rfl rfl rfl (by first | exact callee_lit | exact callee_v | exact callee_fn | assumption) (by solve | repeat' constructor) (by first | rfl | assumption) rfl (by first | ((repeat' (first | exact SubH.refl _ | apply SubH.cons | exact Pick.here | apply Pick.there)); all_goals fail) | fail) (fun _ _ => trivial) ?_)
    rintro r h ⟨rfl, rfl⟩
    simp only [List.cons_append, List.nil_append]
    rw [d1]
    repeat (first | refine then_n ?_ | refine awp_cond_t rfl (by first | rfl | assumption | exact dT (by omega)) ?_ | (show AWL _ _ _ (⟨_, .unOp .not _ _, _, _, _, _⟩ :: _) _ _ _; refine awl_pw (wt_none rfl) (pv_not rfl rfl) rfl rfl ?_) | refine awl_nil ?_)
    refine awp_cutB _ (awp_weak (by first | ((repeat' (first | exact True.intro | refine ⟨rfl, ?_⟩)); all_goals fail) | fail) (by solve | repeat' constructor) (oc_6 (g := g) (g7 := g7) (F := fun s => recN l out s k) (F1 := fun s => recN l out s (k + 1)) (x := l.getD k default) (u0 := .t (salesT c l)) (u1 := .v v) (u9 := .t (salesT c l)) (u10 := intA l.length) (u11 := intA k) (rest := [.rw v 3 1 (out.map intRow)]) (by omega) (fun q => by
      show (if (k : Int) ∉ out ∧ l.getD k default = q then _ else _) = _
      by_cases e : l.getD k default = q
      · subst e; rw [if_pos ⟨hc, rfl⟩, if_pos rfl]
      · rw [if_neg (fun h => e h.2), if_neg (fun h => e h.symm)]) rfl)) ?_
    rintro s h ⟨rfl, rfl⟩
    repeat (first | refine awp_region_lit rfl ?_ | (show AWL _ _ _ (⟨_, .move _, _, _, _, _⟩ :: _) _ _ _; refine awl_pw (wt_none rfl) (pv_move rfl rfl) rfl rfl ?_) | (show AWL _ _ _ (⟨_, .binOp .add _ _ _ _, _, _, _, _⟩ :: _) _ _ _; refine awl_pw (wt_none rfl) (pv_add rfl rfl rfl (by first | assumption | exact wr64 (by omega))) rfl rfl ?_) | refine awl_nil ?_)
    refine rnd_n _ _ _ ?_ ⟨k + 1, hkt, rfl, rfl, rfl⟩ (by first | ((repeat' (first | exact True.intro | refine ⟨rfl, ?_⟩)); all_goals fail) | fail) (by solve | repeat' constructor)
    omega
/-- the memory of the search -/
abbrev leE (g2 g3 g4 g5 : Nat) (cp c : Bool) (p : PostD) (l : List SaleD) (v : Value) (o : List Nat) : List Ent :=
  [.cl g2 34 [.t (ordsT cp p.ords)], .cl g3 28 [.t (salesT c l)], .cl g4 25 [.v v], .rw v 3 1 ((natsI o).map intRow), .cl g5 117 [.v (.func (.func 75) #[] #[ptrV g2, ptrV g3, ptrV g4, ptrV g5])]]
section
variable {g2 g3 g4 g5 : Nat} {cp c : Bool} {p : PostD} {l : List SaleD} {v : Value} {o : List Nat} {u8 : AV}
theorem oe_2 (hv : VPost p) (hl : l.length ≤ 1000) (ho : o.length ≤ 1000) {ops : Array Oper} (h : regF Try.f75 2 = some ops) :
    AWP Try.prog Try.f75.ntmps none (.region 2 ops true) (cutQ (fun s h => s = [(8, u8), (10, boolA (canB p l o))] ∧ h = leE g2 g3 g4 g5 cp c p l v o))
      [(2, .v (ptrV g2)), (3, .v (ptrV g3)), (4, .v (ptrV g4)), (8, u8)] (leE g2 g3 g4 g5 cp c p l v o) := by
  cases h
  have ho' : (natsI o).length ≤ 1000 := by rw [natsI_len]; exact ho
  unfold leE
  refine awp_tree T0 [(0, 1), (1, 1), (2, 1), (3, 2), (4, 3), (5, 0), (6, 0), (7, 0), (8, 0), (9, 0)] (.op 0 1 (.op 1 1 (.op 2 1 (.op 3 2 (.op 4 3 (.op 5 0 (.op 6 0 (.op 7 0 (.op 8 0 (.op 9 0 .stop)))))))))) [.cl g2 _ _, .cl g3 _ _, .cl g4 _ _] rfl (by kernel_rfl) (by solve | repeat' constructor) ?_
  refine awt_lo rfl (wt_none rfl) (lv_cla T0 rfl rfl rfl (by solve | repeat' constructor) rfl) rfl rfl rfl ?_
  refine awt_lo rfl (wt_none rfl) (lv_cl1 T0 rfl rfl rfl (by solve | repeat' constructor) (by first | rfl | assumption)) rfl rfl rfl ?_
  refine awt_lo rfl (wt_none rfl) (lv_cl1 T0 rfl rfl rfl (by solve | repeat' constructor) (by first | rfl | assumption)) rfl rfl rfl ?_
  refine awt_h (hm := _) rfl (wt_none rfl) ?sub rfl (st_acall T0 (counted_o c l v (natsI o) hl ho') rfl rfl rfl rfl (by first | exact callee_lit | exact callee_v | exact callee_fn | assumption) (by solve | repeat' constructor) (by first | rfl | assumption) rfl (by first | ((repeat' (first | exact SubH.refl _ | apply SubH.cons | exact Pick.here | apply Pick.there)); all_goals fail) | fail) (fun b hb => hb) ?_)
  case sub => exact (by solve | repeat' constructor)
  (rintro r h' ⟨g, rfl, rfl⟩; first | refine awe_ghost (ghost_freezeMap (κ := SaleD) (kv := saleV) (z := intA 0) (f := fun s => intA (recF l (natsI o) s)) (by solve | repeat' constructor)) ?_ | refine awt_ghost (ghost_freezeMap (κ := SaleD) (kv := saleV) (z := intA 0) (f := fun s => intA (recF l (natsI o) s)) (by solve | repeat' constructor)) ?_)
  refine awt_s (md := fun _ => True) rfl (wt_none rfl) (st_acall T0 (truthOf_p cp p hv _ (recF l (natsI o))) rfl rfl rfl rfl (by first | exact callee_lit | exact callee_v | exact callee_fn | assumption) (by solve | repeat' constructor) (by first | rfl | assumption) rfl (by first | ((repeat' (first | exact SubH.refl _ | apply SubH.cons | exact Pick.here | apply Pick.there)); all_goals fail) | fail) (fun _ _ => trivial) ?_)
  rintro r h' ⟨rfl, rfl⟩
  refine awe_p rfl (wt_none rfl) (pv_move rfl rfl) rfl rfl ?_
  refine awe_p rfl (wt_none rfl) (pv_extract rfl rfl rfl) rfl rfl ?_
  refine awe_p rfl (wt_none rfl) (pv_extract rfl rfl rfl) rfl rfl ?_
  refine awe_p rfl (wt_none rfl) (pv_assign rfl rfl) rfl rfl ?_
  refine awe_p rfl (wt_none rfl) (pv_assign rfl rfl) rfl rfl ?_
  refine awe_end ?_
  exact cut_n ⟨rfl, rfl⟩ (by first | ((repeat' (first | exact True.intro | refine ⟨rfl, ?_⟩)); all_goals fail) | fail) (by solve | repeat' constructor)
end
theorem leR_false {p : PostD} {l : List SaleD} {o : List Nat} {cs : List (List Nat)} (h : (leR p l o cs).1 = false) : (leR p l o cs).2 = o := by
  unfold leR at h ⊢
  cases c : cs.find? (fun e => canB p l (o ++ e)) with
  | none => rfl
  | some e => rw [c] at h; cases h
theorem leave1_p (g2 g3 g4 g5 : Nat) (cp c : Bool) (p : PostD) (l : List SaleD) (hv : VPost p) (hl : l.length ≤ 6) : ∀ (m i : Nat) (o : List Nat) (a : Option Addr) (k : Nat), o.length + m ≤ 6 → i ≤ 100 →
    ACall Try.prog 75 [intA i, intA m, .v (ptrV g2), .v (ptrV g3), .v (ptrV g4), .v (ptrV g5)] (leE g2 g3 g4 g5 cp c p l (.slice a o.length k) o)
      (fun r h' => ∃ a' k', r = boolA (leR p l o (combosL l.length m i)).1 ∧ h' = leE g2 g3 g4 g5 cp c p l (.slice a' (leR p l o (combosL l.length m i)).2.length k') (leR p l o (combosL l.length m i)).2) := by
  intro m
  induction m with
  | zero =>
    intro i o a k ho hi
    refine acall_of_awp T0 Try.func75 rfl rfl rfl ?_
    rw [show combosL l.length 0 i = [[]] from rfl, leR_one]
    repeat (first | refine awp_seq ?_ | refine awp_region_lit rfl ?_ | refine then_n ?_ | refine awp_cond_t rfl (by first | rfl | assumption | exact dT (by omega)) ?_ | (show AWL _ _ _ (⟨_, .move _, _, _, _, _⟩ :: _) _ _ _; refine awl_pw (wt_none rfl) (pv_move rfl rfl) rfl rfl ?_) | (show AWL _ _ _ (⟨_, .assign _, _, _, _, _⟩ :: _) _ _ _; refine awl_pw (wt_none rfl) (pv_assign rfl rfl) rfl rfl ?_) | (show AWL _ _ _ (⟨_, .binOp .eql _ _ _ _, _, _, _, _⟩ :: _) _ _ _; refine awl_pw (wt_none rfl) (pv_eql rfl rfl rfl) rfl rfl ?_) | refine awl_nil ?_)
    refine awp_cut _ (awp_weak (by first | ((repeat' (first | exact True.intro | refine ⟨rfl, ?_⟩)); all_goals fail) | fail) (by solve | repeat' constructor) (oe_2 (g2 := g2) (g3 := g3) (g4 := g4) (g5 := g5) (cp := cp) (c := c) (p := p) (l := l) (v := .slice a o.length k) (o := o) (u8 := boolA false) hv (by omega) (by omega) rfl)) ?_
    rintro s h ⟨rfl, rfl⟩
    repeat (first | refine awp_seq ?_ | refine awp_region_lit rfl ?_ | refine awp_ret ?_ | refine then_r ?_ | (show AWL _ _ _ (⟨_, .move _, _, _, _, _⟩ :: _) _ _ _; refine awl_pw (wt_none rfl) (pv_move rfl rfl) rfl rfl ?_) | (show AWL _ _ _ (⟨_, .assign _, _, _, _, _⟩ :: _) _ _ _; refine awl_pw (wt_none rfl) (pv_assign rfl rfl) rfl rfl ?_) | refine awl_nil ?_)
    exact body_r (h' := leE g2 g3 g4 g5 cp c p l (.slice a o.length k) o) (.cons rfl .nil) (by solve | repeat' constructor) ⟨a, k, rfl, rfl⟩
  | succ m ih =>
    intro i0 o a0 k0 ho hi0
    refine acall_of_awp T0 Try.func75 rfl rfl rfl ?_
    repeat (first | refine awp_seq ?_ | refine awp_block ?_ | refine awp_region_lit rfl ?_ | refine awp_skip ?_ | refine then_n ?_ | refine awp_cond_f rfl (by first | rfl | assumption | exact dF (by omega)) ?_ | (show AWL _ _ _ (⟨_, .move _, _, _, _, _⟩ :: _) _ _ _; refine awl_pw (wt_none rfl) (pv_move rfl rfl) rfl rfl ?_) | (show AWL _ _ _ (⟨_, .assign _, _, _, _, _⟩ :: _) _ _ _; refine awl_pw (wt_none rfl) (pv_assign rfl rfl) rfl rfl ?_) | (show AWL _ _ _ (⟨_, .binOp .eql _ _ _ _, _, _, _, _⟩ :: _) _ _ _; refine awl_pw (wt_none rfl) (pv_eql rfl rfl rfl) rfl rfl ?_) | refine awl_nil ?_)
    refine awp_loop (fun w s h => ∃ (i : Nat) (a : Option Addr) (k : Nat), i0 ≤ i ∧ i ≤ 200 ∧ w = 200 - i ∧ leR p l o (combosL l.length (m + 1) i0) = leR p l o (combosL l.length (m + 1) i) ∧ s = [(1, intA ((m + 1 : Nat) : Int)), (2, .v (ptrV g2)), (3, .v (ptrV g3)), (4, .v (ptrV g4)), (5, .v (ptrV g5)), (8, boolA false), (11, intA i)] ∧ h = leE g2 g3 g4 g5 cp c p l (.slice a o.length k) o) ?_ ⟨i0, a0, k0, Nat.le_refl _, by omega, rfl, rfl, rfl, rfl⟩ (by first | ((repeat' (first | exact True.intro | refine ⟨rfl, ?_⟩)); all_goals fail) | fail) (by solve | repeat' constructor)
    rintro w s h ⟨i, a, k, hi, hi2, rfl, hR, rfl, rfl⟩
    by_cases hc : i + (m + 1) ≤ l.length
    case neg =>
      have d1 : decide ((i : Int) ≤ (l.length : Int) - ((m + 1 : Nat) : Int)) = false := decide_eq_false (by omega)
      rw [combos_end (i := i) (by omega), leR_nil] at hR
      rw [hR]
      repeat (first | refine awp_seq ?_ | refine awp_region_lit rfl ?_ | refine awp_exit ?_ | refine awp_ret ?_ | refine then_n ?_ | refine awp_cond_f rfl (by first | rfl | assumption | exact dF (by omega)) ?_ | (show AWL _ _ _ (⟨_, .move _, _, _, _, _⟩ :: _) _ _ _; refine awl_pw (wt_none rfl) (pv_move rfl rfl) rfl rfl ?_) | (show AWL _ _ _ (⟨_, .assign _, _, _, _, _⟩ :: _) _ _ _; refine awl_pw (wt_none rfl) (pv_assign rfl rfl) rfl rfl ?_) | (show AWL _ _ _ (⟨_, .load _ _, _, _, _, _⟩ :: _) _ _ _; refine awl_lw (wt_none rfl) (lv_cl1 T0 rfl rfl rfl (by solve | repeat' constructor) (by first | rfl | assumption)) rfl rfl rfl ?_) | (show AWL _ _ _ (⟨_, .binOp .sub _ _ _ _, _, _, _, _⟩ :: _) _ _ _; refine awl_pw (wt_none rfl) (pv_sub rfl rfl rfl (by first | assumption | exact wr64 (by omega))) rfl rfl ?_) | (show AWL _ _ _ (⟨_, .binOp .leq _ _ _ _, _, _, _, _⟩ :: _) _ _ _; refine awl_pw (wt_none rfl) (pv_leq rfl rfl rfl) rfl rfl ?_) | (show AWL _ _ _ (⟨_, .call ⟨.builtin .len, _, _⟩, _, _, _, _⟩ :: _) _ _ _; refine awl_pw (wt_none rfl) (pv_len_t T0 rfl rfl rfl) rfl rfl ?_) | refine awl_nil ?_)
      exact body_r (h' := leE g2 g3 g4 g5 cp c p l (.slice a o.length k) o) (.cons rfl .nil) (by solve | repeat' constructor) ⟨a, k, rfl, rfl⟩
    have d1 : decide ((i : Int) ≤ (l.length : Int) - ((m + 1 : Nat) : Int)) = true := decide_eq_true (by omega)
    rw [combos_step hc, leR_app, leR_cons] at hR
    have hrl : ((natsI o).map intRow).length = o.length := by rw [List.length_map, natsI_len]
    have hm1 : IntKind.i64.wrap (((m + 1 : Nat) : Int) - 1) = (m : Int) := (wr64 (x := ((m + 1 : Nat) : Int) - 1) (by omega)).trans (by omega)
    have hi1 : IntKind.i64.wrap ((i : Int) + 1) = ((i + 1 : Nat) : Int) := (wr64 (x := (i : Int) + 1) (by omega)).trans (by omega)
    have hC := fun a k => ih (i + 1) (o ++ [i]) a k (by simp; omega) (by omega)
    have hol : (o ++ [i]).length = o.length + 1 := by simp
    rw [hol] at hC
    have hro : (natsI (o ++ [i])).map intRow = (natsI o).map intRow ++ [[intA i]] := by simp [natsI, intRow]
    have hf : (leR p l (o ++ [i]) (combosL l.length m (i + 1))).1 = false → (leR p l (o ++ [i]) (combosL l.length m (i + 1))).2 = o ++ [i] := leR_false
    generalize leR p l (o ++ [i]) (combosL l.length m (i + 1)) = R1 at *
    repeat (first | refine awp_seq ?_ | refine awp_block ?_ | refine awp_region_lit rfl ?_ | refine awp_skip ?_ | refine then_n ?_ | refine awp_cond_t rfl (by first | rfl | assumption | exact dT (by omega)) ?_ | (show AWL _ _ _ (⟨_, .move _, _, _, _, _⟩ :: _) _ _ _; refine awl_pw (wt_none rfl) (pv_move rfl rfl) rfl rfl ?_) | (show AWL _ _ _ (⟨_, .load _ _, _, _, _, _⟩ :: _) _ _ _; refine awl_lw (wt_none rfl) (lv_cl1 T0 rfl rfl rfl (by solve | repeat' constructor) (by first | rfl | assumption)) rfl rfl rfl ?_) | (show AWL _ _ _ (⟨_, .binOp .sub _ _ _ _, _, _, _, _⟩ :: _) _ _ _; refine awl_pw (wt_none rfl) (pv_sub rfl rfl rfl (by first | assumption | exact wr64 (by omega))) rfl rfl ?_) | (show AWL _ _ _ (⟨_, .binOp .leq _ _ _ _, _, _, _, _⟩ :: _) _ _ _; refine awl_pw (wt_none rfl) (pv_leq rfl rfl rfl) rfl rfl ?_) | (show AWL _ _ _ (⟨_, .call ⟨.builtin .len, _, _⟩, _, _, _, _⟩ :: _) _ _ _; refine awl_pw (wt_none rfl) (pv_len_t T0 rfl rfl rfl) rfl rfl ?_) | refine awl_nil ?_)
    refine awl_hw (wt_none rfl) (st_bsl T0 rfl rfl rfl rfl rfl (by solve | repeat' constructor) rfl rfl rfl rfl (by simp only [List.map_cons, List.map_nil, cellsA]; rfl) ?_)
    intro g34
    skip
    refine awl_hw (wt_none rfl) (st_app T0 rfl rfl rfl rfl rfl rfl rfl rfl rfl (by solve | repeat' constructor) (by solve | repeat' constructor) rfl rfl hrl (by omega) (fun _ _ => trivial) ?_)
    intro a35 c35 p35
    repeat (first | refine awp_seq ?_ | refine awp_region_lit rfl ?_ | (show AWL _ _ _ (⟨_, .move _, _, _, _, _⟩ :: _) _ _ _; refine awl_pw (wt_none rfl) (pv_move rfl rfl) rfl rfl ?_) | (show AWL _ _ _ (⟨_, .load _ _, _, _, _, _⟩ :: _) _ _ _; refine awl_lw (wt_none rfl) (lv_cl1 T0 rfl rfl rfl (by solve | repeat' constructor) (by first | rfl | assumption)) rfl rfl rfl ?_) | (show AWL _ _ _ (⟨_, .binOp .add _ _ _ _, _, _, _, _⟩ :: _) _ _ _; refine awl_pw (wt_none rfl) (pv_add rfl rfl rfl (by first | assumption | exact wr64 (by omega))) rfl rfl ?_) | (show AWL _ _ _ (⟨_, .binOp .sub _ _ _ _, _, _, _, _⟩ :: _) _ _ _; refine awl_pw (wt_none rfl) (pv_sub rfl rfl rfl (by first | assumption | exact wr64 (by omega))) rfl rfl ?_) | (show AWL _ _ _ (⟨_, .store _ _ _, _, _, _, _⟩ :: _) _ _ _; refine awl_hw (wt_none rfl) (st_store T0 rfl rfl rfl rfl rfl (by first | assumption | (simp only [cellsA]; rfl)) rfl rfl rfl (by solve | repeat' constructor) (by solve | repeat' constructor) trivial ?_)) | refine awl_nil ?_)
    rw [← hro]
    refine awl_hw (wt_none rfl) (st_acall T0 (hC a35 c35) rfl rfl rfl rfl (by first | exact callee_lit | exact callee_v | exact callee_fn | assumption) (by solve | repeat' constructor) (by first | rfl | assumption) rfl (by first | ((repeat' (first | exact SubH.refl _ | apply SubH.cons | exact Pick.here | apply Pick.there)); all_goals fail) | fail) (fun _ _ => trivial) ?_)
    rintro r h ⟨a2, k2, rfl, rfl⟩
    simp only [List.cons_append, List.nil_append]
    obtain ⟨b1, o1⟩ := R1
    cases b1
    · obtain rfl : o1 = o ++ [i] := hf rfl
      rw [if_neg Bool.false_ne_true, if_neg Bool.false_ne_true] at hR
      dsimp only
      rw [hol]
      have hrl2 : ((natsI (o ++ [i])).map intRow).length = o.length + 1 := by rw [List.length_map, natsI_len, hol]
      refine awl_open (v := .slice a2 (o.length + 1) k2) (E := 3) (sz := 1) (rows := (natsI (o ++ [i])).map intRow) (by solve | repeat' constructor) fun ad cap he hg => ?_
      obtain ⟨g8, rfl⟩ := hg (by omega)
      rw [hrl2] at he
      cases he
      refine awl_cap (g := g8) (n := o.length + 1) (c := k2) (E := 3) (sz := 1) (rows := (natsI (o ++ [i])).map intRow) (by solve | repeat' constructor) fun _ hcap => ?_
      have hsub : IntKind.i64.wrap (((o.length + 1 : Nat) : Int) - 1) = (o.length : Int) := (wr64 (x := ((o.length + 1 : Nat) : Int) - 1) (by omega)).trans (by omega)
      refine awl_ghost (ghost_trunc (g := g8) (n := o.length + 1) (c := k2) (k := o.length) (E := 3) (sz := 1) (rows := (natsI (o ++ [i])).map intRow) (by solve | repeat' constructor) (by omega)) ?_
      rw [show ((natsI (o ++ [i])).map intRow).take o.length = (natsI o).map intRow from by rw [hro, List.take_append_of_le_length (by omega), List.take_of_length_le (by omega)]]
      repeat (first | refine awp_region_lit rfl ?_ | refine awp_skip ?_ | refine then_n ?_ | refine awp_cond_f rfl (by first | rfl | assumption | exact dF (by omega)) ?_ | (show AWL _ _ _ (⟨_, .move _, _, _, _, _⟩ :: _) _ _ _; refine awl_pw (wt_none rfl) (pv_move rfl rfl) rfl rfl ?_) | (show AWL _ _ _ (⟨_, .assign _, _, _, _, _⟩ :: _) _ _ _; refine awl_pw (wt_none rfl) (pv_assign rfl rfl) rfl rfl ?_) | (show AWL _ _ _ (⟨_, .load _ _, _, _, _, _⟩ :: _) _ _ _; refine awl_lw (wt_none rfl) (lv_cl1 T0 rfl rfl rfl (by solve | repeat' constructor) (by first | rfl | assumption)) rfl rfl rfl ?_) | (show AWL _ _ _ (⟨_, .slice _ _ _ _ _, _, _, _, _⟩ :: _) _ _ _; refine awl_pw (wt_none rfl) (pv_slice_hi_own T0 rfl rfl rfl rfl rfl (by omega) (by omega)) rfl rfl ?_) | (show AWL _ _ _ (⟨_, .binOp .add _ _ _ _, _, _, _, _⟩ :: _) _ _ _; refine awl_pw (wt_none rfl) (pv_add rfl rfl rfl (by first | assumption | exact wr64 (by omega))) rfl rfl ?_) | (show AWL _ _ _ (⟨_, .binOp .sub _ _ _ _, _, _, _, _⟩ :: _) _ _ _; refine awl_pw (wt_none rfl) (pv_sub rfl rfl rfl (by first | assumption | exact wr64 (by omega))) rfl rfl ?_) | (show AWL _ _ _ (⟨_, .call ⟨.builtin .len, _, _⟩, _, _, _, _⟩ :: _) _ _ _; refine awl_pw (wt_none rfl) (pv_len_v T0 rfl rfl rfl) rfl rfl ?_) | (show AWL _ _ _ (⟨_, .store _ _ _, _, _, _, _⟩ :: _) _ _ _; refine awl_hw (wt_none rfl) (st_store T0 rfl rfl rfl rfl rfl (by first | assumption | (simp only [cellsA]; rfl)) rfl rfl rfl (by solve | repeat' constructor) (by solve | repeat' constructor) trivial ?_)) | refine awl_nil ?_)
      refine rnd_n _ _ _ ?_ ⟨i + 1, some ⟨g8, 0, none⟩, k2, by omega, by omega, rfl, hR, rfl, rfl⟩ (by first | ((repeat' (first | exact True.intro | refine ⟨rfl, ?_⟩)); all_goals fail) | fail) (by solve | repeat' constructor)
      omega
    · rw [if_pos rfl, if_pos rfl] at hR
      rw [hR]
      repeat (first | refine awp_seq ?_ | refine awp_region_lit rfl ?_ | refine awp_ret ?_ | refine then_n ?_ | refine then_r ?_ | refine blk_r ?_ | refine sco_r ?_ | refine awp_cond_t rfl (by first | rfl | assumption | exact dT (by omega)) ?_ | (show AWL _ _ _ (⟨_, .assign _, _, _, _, _⟩ :: _) _ _ _; refine awl_pw (wt_none rfl) (pv_assign rfl rfl) rfl rfl ?_) | refine awl_nil ?_)
      exact body_r (h' := leE g2 g3 g4 g5 cp c p l (.slice a2 o1.length k2) o1) (.cons rfl .nil) (by solve | repeat' constructor) ⟨a2, k2, rfl, rfl⟩
/-- the sets that are tried, the shorter ones first -/
def sizesL (n k : Nat) : List (List Nat) := (List.range' k (n + 1 - k)).flatMap fun m => combosL n m 0
theorem sizes_step {n k : Nat} (h : k ≤ n) : sizesL n k = combosL n k 0 ++ sizesL n (k + 1) := by
  unfold sizesL
  rw [show n + 1 - k = (n + 1 - (k + 1)) + 1 by omega, List.range'_succ, List.flatMap_cons]
theorem sizes_end {n : Nat} : sizesL n (n + 1) = [] := by
  unfold sizesL
  rw [show n + 1 - (n + 1) = 0 by omega]
  rfl
/-- what Leave returns -/
noncomputable def leaveR (p : PostD) (l : List SaleD) : List Int × Int := if recdN p l ≠ 0 then ([], recdN p l) else (natsI (leR p l [] (sizesL l.length 0)).2, 0)
theorem Leave_p (cp c : Bool) (p : PostD) (l : List SaleD) (hl : p.ords.length ≤ 1000) (hll : l.length ≤ 1000) : PCall Try.prog 38 [postA cp p, .t (salesT c l)] (fun r => r = .tup [.t (intsT true (leaveR p l).1), intA (leaveR p l).2]) := by
  refine acall_of_awp T0 Try.func38 rfl rfl rfl ?_
  have hrr := recd_rng p l
  unfold leaveR
  repeat (first | refine awp_seq ?_ | refine awp_region_lit rfl ?_)
  refine awl_hw (wt_none rfl) (st_box rfl rfl (by first | rfl | assumption) (by first | assumption | (simp only [cellsA]; rfl)) rfl rfl ?_)
  intro g2
  skip
  refine awl_hw (wt_none rfl) (st_box rfl rfl (by first | rfl | assumption) (by first | assumption | (simp only [cellsA]; rfl)) rfl rfl ?_)
  intro g3
  repeat (first | refine awp_seq ?_ | refine awp_region_lit rfl ?_ | refine awp_scope ?_ | (show AWL _ _ _ (⟨_, .assign _, _, _, _, _⟩ :: _) _ _ _; refine awl_pw (wt_none rfl) (pv_assign rfl rfl) rfl rfl ?_) | (show AWL _ _ _ (⟨_, .load _ _, _, _, _, _⟩ :: _) _ _ _; refine awl_lw (wt_none rfl) (lv_cl1 T0 rfl rfl rfl (by solve | repeat' constructor) (by first | rfl | assumption)) rfl rfl rfl ?_) | (show AWL _ _ _ (⟨_, .load _ _, _, _, _, _⟩ :: _) _ _ _; refine awl_lw (wt_none rfl) (lv_cla T0 rfl rfl rfl (by solve | repeat' constructor) rfl) rfl rfl rfl ?_) | refine awl_nil ?_)
  refine awl_hw (wt_none rfl) (st_call T0 (recorded_p cp c p l hl hll) rfl rfl rfl rfl (by first | exact callee_lit | exact callee_v | exact callee_fn | assumption) (by solve | repeat' constructor) (by first | rfl | assumption) rfl ?_)
  rintro _ rfl
  by_cases h1 : recdN p l = 0
  case neg =>
    have d1 : decide (recdN p l ≠ 0) = true := decide_eq_true h1
    rw [if_pos h1]
    repeat (first | refine awp_seq ?_ | refine awp_region_lit rfl ?_ | refine awp_ret ?_ | refine then_n ?_ | refine then_r ?_ | refine sco_r ?_ | refine awp_cond_t rfl (by first | rfl | assumption | exact dT (by omega)) ?_ | (show AWL _ _ _ (⟨_, .move _, _, _, _, _⟩ :: _) _ _ _; refine awl_pw (wt_none rfl) (pv_move rfl rfl) rfl rfl ?_) | (show AWL _ _ _ (⟨_, .assign _, _, _, _, _⟩ :: _) _ _ _; refine awl_pw (wt_none rfl) (pv_assign rfl rfl) rfl rfl ?_) | (show AWL _ _ _ (⟨_, .binOp .neq _ _ _ _, _, _, _, _⟩ :: _) _ _ _; refine awl_pw (wt_none rfl) (pv_neq rfl rfl rfl) rfl rfl ?_) | refine awl_nil ?_)
    refine bodyQ_ghost (ghost_none (d := 4) (t := intsT true []) rfl nil_tree) ?_
    exact body_p (.cons rfl (.cons rfl .nil)) rfl
  have d1 : decide (recdN p l ≠ 0) = false := decide_eq_false (fun h => h h1)
  rw [if_neg (fun h => h h1)]
  obtain ⟨hf, hl6⟩ := recd_ok h1
  have hv := vpost hf
  repeat (first | refine awp_seq ?_ | refine awp_region_lit rfl ?_ | refine awp_skip ?_ | refine then_n ?_ | refine awp_cond_f rfl (by first | rfl | assumption | exact dF (by omega)) ?_ | (show AWL _ _ _ (⟨_, .move _, _, _, _, _⟩ :: _) _ _ _; refine awl_pw (wt_none rfl) (pv_move rfl rfl) rfl rfl ?_) | (show AWL _ _ _ (⟨_, .assign _, _, _, _, _⟩ :: _) _ _ _; refine awl_pw (wt_none rfl) (pv_assign rfl rfl) rfl rfl ?_) | (show AWL _ _ _ (⟨_, .binOp .neq _ _ _ _, _, _, _, _⟩ :: _) _ _ _; refine awl_pw (wt_none rfl) (pv_neq rfl rfl rfl) rfl rfl ?_) | refine awl_nil ?_)
  refine awl_hw (wt_none rfl) (st_alloc T0 rfl rfl rfl rfl (by simp only [Value.cells, List.toList_toArray, List.map_cons, List.map_nil]; rfl) ?_)
  intro g7
  repeat (first | refine awp_seq ?_ | refine awp_region_lit rfl ?_ | refine awl_nil ?_)
  refine awl_hw (wt_none rfl) (st_alloc T0 rfl rfl rfl rfl (by simp only [Value.cells, List.toList_toArray, List.map_cons, List.map_nil]; rfl) ?_)
  intro g8
  repeat (first | refine awp_seq ?_ | refine awp_region_lit rfl ?_ | refine awl_nil ?_)
  refine awl_pw (wt_none rfl) (pv_makeFunc_v (fs := []) (cs := [ptrV g2, ptrV g3, ptrV g7, ptrV g8]) rfl rfl rfl) rfl rfl ?_
  repeat (first | refine awp_seq ?_ | refine awp_block ?_ | refine awp_region_lit rfl ?_ | refine awp_label ?_ | (show AWL _ _ _ (⟨_, .move _, _, _, _, _⟩ :: _) _ _ _; refine awl_pw (wt_none rfl) (pv_move rfl rfl) rfl rfl ?_) | (show AWL _ _ _ (⟨_, .load _ _, _, _, _, _⟩ :: _) _ _ _; refine awl_lw (wt_none rfl) (lv_cl1 T0 rfl rfl rfl (by solve | repeat' constructor) (by first | rfl | assumption)) rfl rfl rfl ?_) | (show AWL _ _ _ (⟨_, .binOp .add _ _ _ _, _, _, _, _⟩ :: _) _ _ _; refine awl_pw (wt_none rfl) (pv_add rfl rfl rfl (by first | assumption | exact wr64 (by omega))) rfl rfl ?_) | (show AWL _ _ _ (⟨_, .call ⟨.builtin .len, _, _⟩, _, _, _, _⟩ :: _) _ _ _; refine awl_pw (wt_none rfl) (pv_len_t T0 rfl rfl rfl) rfl rfl ?_) | (show AWL _ _ _ (⟨_, .store _ _ _, _, _, _, _⟩ :: _) _ _ _; refine awl_hw (wt_none rfl) (st_store T0 rfl rfl rfl rfl rfl (by first | assumption | (simp only [cellsA]; rfl)) rfl rfl rfl (by solve | repeat' constructor) (by solve | repeat' constructor) trivial ?_)) | refine awl_nil ?_)
  refine awp_ghost (ghost_nilrow 3 1) ?_
  refine awp_cutX (fun s h => ∃ a k, s = [(3, .v (ptrV g3)), (7, .v (ptrV g7)), (8, .v (ptrV g8))] ∧ h = leE g2 g3 g7 g8 cp c p l (.slice a (leR p l [] (sizesL l.length 0)).2.length k) (leR p l [] (sizesL l.length 0)).2) ?_ ?_
  rotate_left
  · rintro s h ⟨a, k, rfl, rfl⟩
    generalize (leR p l [] (sizesL l.length 0)).2 = o at *
    have hrt := intRows_tree (natsI o)
    rw [natsI_len] at hrt
    repeat (first | refine awp_seq ?_ | refine awp_region_lit rfl ?_ | refine awp_ret ?_ | refine sco_r ?_ | (show AWL _ _ _ (⟨_, .assign _, _, _, _, _⟩ :: _) _ _ _; refine awl_pw (wt_none rfl) (pv_assign rfl rfl) rfl rfl ?_) | (show AWL _ _ _ (⟨_, .load _ _, _, _, _, _⟩ :: _) _ _ _; refine awl_lw (wt_none rfl) (lv_cl1 T0 rfl rfl rfl (by solve | repeat' constructor) (by first | rfl | assumption)) rfl rfl rfl ?_) | refine awl_nil ?_)
    refine bodyQ_ghost (ghost_freeze (E := 3) (sz := 1) (n := o.length) (rows := (natsI o).map intRow) (d := 4) (fun q => [.sc (.int .i64 ((natsI o).getD q 0))]) (by solve | repeat' constructor) rfl (by rw [List.length_map, natsI_len]) hrt) ?_
    refine body_p (.cons rfl (.cons rfl .nil)) ?_
    unfold intsT
    rw [natsI_len]
    rfl
  refine awp_loop (fun w s h => ∃ (m : Nat) (a : Option Addr) (k : Nat), m ≤ l.length + 1 ∧ w = l.length + 1 - m ∧ leR p l [] (sizesL l.length 0) = leR p l [] (sizesL l.length m) ∧ s = [(3, .v (ptrV g3)), (7, .v (ptrV g7)), (8, .v (ptrV g8)), (19, intA ((l.length + 1 : Nat) : Int)), (20, intA m)] ∧ h = leE g2 g3 g7 g8 cp c p l (.slice a ([] : List Nat).length k) []) ?_ ⟨0, none, 0, Nat.zero_le _, rfl, rfl, rfl, rfl⟩ (by first | ((repeat' (first | exact True.intro | refine ⟨rfl, ?_⟩)); all_goals fail) | fail) (by solve | repeat' constructor)
  rintro w s h ⟨m, a, k, hm, rfl, hR, rfl, rfl⟩
  by_cases hlt : m < l.length + 1
  case neg =>
    obtain rfl : m = l.length + 1 := by omega
    rw [sizes_end, leR_nil] at hR
    rw [hR]
    repeat (first | refine awp_seq ?_ | refine awp_region_lit rfl ?_ | refine awp_exit ?_ | refine then_x ?_ | refine blk_x ?_ | refine sco_x ?_ | refine awp_cond_f rfl (by first | rfl | assumption | exact dF (by omega)) ?_ | (show AWL _ _ _ (⟨_, .binOp .lss _ _ _ _, _, _, _, _⟩ :: _) _ _ _; refine awl_pw (wt_none rfl) (pv_lss rfl rfl rfl) rfl rfl ?_) | refine awl_nil ?_)
    exact cut_n ⟨a, k, rfl, rfl⟩ (by first | ((repeat' (first | exact True.intro | refine ⟨rfl, ?_⟩)); all_goals fail) | fail) (by solve | repeat' constructor)
  rw [sizes_step (k := m) (by omega), leR_app (cs := combosL l.length m 0)] at hR
  have hC := leave1_p g2 g3 g7 g8 cp c p l hv hl6 m 0 [] a k (by simp; omega) (by omega)
  have hfl : (leR p l [] (combosL l.length m 0)).1 = false → (leR p l [] (combosL l.length m 0)).2 = [] := leR_false
  generalize leR p l [] (combosL l.length m 0) = R1 at *
  obtain ⟨b1, o1⟩ := R1
  repeat (first | refine awp_seq ?_ | refine awp_block ?_ | refine awp_region_lit rfl ?_ | refine awp_skip ?_ | refine awp_cond_t rfl (by first | rfl | assumption | exact dT (by omega)) ?_ | (show AWL _ _ _ (⟨_, .move _, _, _, _, _⟩ :: _) _ _ _; refine awl_pw (wt_none rfl) (pv_move rfl rfl) rfl rfl ?_) | (show AWL _ _ _ (⟨_, .assign _, _, _, _, _⟩ :: _) _ _ _; refine awl_pw (wt_none rfl) (pv_assign rfl rfl) rfl rfl ?_) | (show AWL _ _ _ (⟨_, .load _ _, _, _, _, _⟩ :: _) _ _ _; refine awl_lw (wt_none rfl) (lv_cl1 T0 rfl rfl rfl (by solve | repeat' constructor) (by first | rfl | assumption)) rfl rfl rfl ?_) | (show AWL _ _ _ (⟨_, .binOp .lss _ _ _ _, _, _, _, _⟩ :: _) _ _ _; refine awl_pw (wt_none rfl) (pv_lss rfl rfl rfl) rfl rfl ?_) | refine awl_nil ?_)
  refine awl_hw (wt_none rfl) (st_acall T0 (hC) rfl rfl rfl rfl (by first | exact callee_lit | exact callee_v | exact callee_fn | assumption) (by solve | repeat' constructor) (by first | rfl | assumption) rfl (by first | ((repeat' (first | exact SubH.refl _ | apply SubH.cons | exact Pick.here | apply Pick.there)); all_goals fail) | fail) (fun _ _ => trivial) ?_)
  rintro r h ⟨a2, k2, rfl, rfl⟩
  simp only [List.cons_append, List.nil_append]
  cases b1
  · obtain rfl : o1 = [] := hfl rfl
    rw [if_neg Bool.false_ne_true] at hR
    repeat (first | refine awp_region_lit rfl ?_ | refine awp_skip ?_ | refine then_n ?_ | refine awp_cond_f rfl (by first | rfl | assumption | exact dF (by omega)) ?_ | (show AWL _ _ _ (⟨_, .move _, _, _, _, _⟩ :: _) _ _ _; refine awl_pw (wt_none rfl) (pv_move rfl rfl) rfl rfl ?_) | (show AWL _ _ _ (⟨_, .binOp .add _ _ _ _, _, _, _, _⟩ :: _) _ _ _; refine awl_pw (wt_none rfl) (pv_add rfl rfl rfl (by first | assumption | exact wr64 (by omega))) rfl rfl ?_) | refine awl_nil ?_)
    refine rnd_n _ _ _ ?_ ⟨m + 1, a2, k2, hlt, rfl, hR, rfl, rfl⟩ (by first | ((repeat' (first | exact True.intro | refine ⟨rfl, ?_⟩)); all_goals fail) | fail) (by solve | repeat' constructor)
    omega
  · rw [if_pos rfl] at hR
    rw [hR]
    repeat (first | refine awp_exit ?_ | refine then_n ?_ | refine then_x ?_ | refine blk_x ?_ | refine blk_y rfl ?_ | refine sco_x ?_ | refine awp_cond_t rfl (by first | rfl | assumption | exact dT (by omega)) ?_ | refine awl_nil ?_)
    exact cut_n ⟨a2, k2, rfl, rfl⟩ (by first | ((repeat' (first | exact True.intro | refine ⟨rfl, ?_⟩)); all_goals fail) | fail) (by solve | repeat' constructor)
end Go.Proofs.Yteaoclpikdmkiaa
