/- Joined texts: Hc, Hd, He. -/
import Derived.Test.YtlpknbneilgjkaaZgCGHa
import Derived.Test.YtlpknbneilgjkaaZgCMsp
section
namespace Go.Proofs.Ytlpknbneilgjkaa.C
open Go Go.RowKit Go.Tl
set_option linter.unusedVariables false
set_option linter.unusedSimpArgs false
set_option maxRecDepth 100000
set_option maxHeartbeats 4000000
def natsI (l : List Nat) : List Int := l.map fun (i : Nat) => (i : Int)
theorem natsI_len (l : List Nat) : (natsI l).length = l.length := List.length_map _
def combC (ok : Nat → Bool) (n : Nat) : Nat → Nat → List (List Nat)
  | 0, _ => [[]]
  | m + 1, i => (List.range' i (n - i)).flatMap fun j => if ok j = true then (combC ok n m (j + 1)).map (j :: ·) else []
theorem combC_end {ok : Nat → Bool} {n m i : Nat} (h : n ≤ i) : combC ok n (m + 1) i = [] := by
  simp only [combC]
  rw [show n - i = 0 by omega]
  rfl
theorem combC_yes {ok : Nat → Bool} {n m i : Nat} (h : i < n) (ho : ok i = true) : combC ok n (m + 1) i = (combC ok n m (i + 1)).map (i :: ·) ++ combC ok n (m + 1) (i + 1) := by
  simp only [combC]
  rw [show n - i = (n - (i + 1)) + 1 by omega, List.range'_succ, List.flatMap_cons, if_pos ho]
theorem combC_no {ok : Nat → Bool} {n m i : Nat} (h : i < n) (ho : ok i = false) : combC ok n (m + 1) i = combC ok n (m + 1) (i + 1) := by
  simp only [combC]
  rw [show n - i = (n - (i + 1)) + 1 by omega, List.range'_succ, List.flatMap_cons, ho, if_neg Bool.false_ne_true, List.nil_append]
def fndL (B : List Nat → Bool) (o : List Nat) (cs : List (List Nat)) : Option (List Nat) := (cs.find? fun e => B (o ++ e)).map (o ++ ·)
theorem fnd_nil (B : List Nat → Bool) (o : List Nat) : fndL B o [] = none := rfl
theorem fnd_one (B : List Nat → Bool) (o : List Nat) : fndL B o [[]] = if B o = true then some o else none := by
  unfold fndL
  simp only [List.find?, List.append_nil]
  cases c : B o
  · rfl
  · simp
theorem fnd_app {B : List Nat → Bool} {o : List Nat} {cs ds : List (List Nat)} : fndL B o (cs ++ ds) = (fndL B o cs).or (fndL B o ds) := by
  unfold fndL
  rw [List.find?_append]
  cases h : cs.find? (fun e => B (o ++ e)) with
  | none => rfl
  | some e => rfl
theorem fnd_cons {B : List Nat → Bool} {o : List Nat} {i : Nat} {cs : List (List Nat)} : fndL B o (cs.map (i :: ·)) = fndL B (o ++ [i]) cs := by
  unfold fndL
  rw [List.find?_map]
  have e : ((fun e => B (o ++ e)) ∘ fun x => i :: x) = fun e => B (o ++ [i] ++ e) := by
    funext x; simp
  rw [e]
  cases h : cs.find? (fun e => B (o ++ [i] ++ e)) with
  | none => rfl
  | some e => simp
attribute [local irreducible] AWP AWL AOp PV LV AWT AWE
def corB (m : MktD) (o : List Nat) : Bool := decide (0 < (bndN (keepM m (natsI o))).1)
abbrev sellB (m : MktD) (i : Nat) : Bool := (m.hou.getD i default).sells
abbrev coE (g1 g6 g7 : Nat) (cp cc : Bool) (m : MktD) (X : AV) : List Ent :=
  [.cl g1 191 [intA m.ex, .t (housT cp m.hou), .t (consT cc m.con)], .cl g6 29 [X], .cl g7 179 [.v (.func (.func 110) #[] #[ptrV g6, ptrV g1, ptrV g7])]]
section
variable {g1 g6 g7 i : Nat} {cp cc : Bool} {m : MktD} {o : List Nat} {X : AV} {mi : Int} {b : Bool} {Q : AV → Prop}
theorem hc_7n (hi : i < m.hou.length) (hs : sellB m i = false) {ops : Array Oper} (h : regF Try.f110 7 = some ops) :
    AWP Try.prog Try.f110.ntmps none (.region 7 ops true) (cutQ (fun s h => s = [(45, boolA false), (0, .t (intsT true (natsI o))), (2, intA mi), (3, .v (ptrV g6)), (4, .v (ptrV g1)), (5, .v (ptrV g7)), (10, intA i)] ∧ h = coE g1 g6 g7 cp cc m X))
      [(0, .t (intsT true (natsI o))), (2, intA mi), (3, .v (ptrV g6)), (4, .v (ptrV g1)), (5, .v (ptrV g7)), (10, intA i)] (coE g1 g6 g7 cp cc m X) := by
  cases h
  have hs' : (m.hou.getD i default).sells = false := hs
  have d1 : (m.hou.getD i default).sells = false := hs
  refine awp_treeN T0 [(0, 0), (1, 1), (2, 0), (3, 0), (4, 0), (5, 1), (6, 0), (7, 1), (8, 0), (10, 0), (13, 0), (14, 0), (15, 0), (16, 0), (9, 2), (11, 2), (12, 2), (17, 3), (18, 0)] (.op 0 0 (.op 1 1 (.op 2 0 (.op 3 0 (.op 4 0 (.op 5 1 (.op 6 0 (.op 7 1 (.op 8 0 (.op 10 0 (.op 13 0 (.op 14 0 (.op 15 0 (.op 16 0 (.fork 9 (.op 11 2 (.op 12 2 (.op 17 3 (.op 18 0 .stop)))) 11 (.op 9 2 (.op 12 2 (.op 17 3 (.op 18 0 .stop))))))))))))))))))) [.cl g1 _ _, .cl g7 _ _] rfl (by kernel_rfl) rcA ?_
  refine awt_po rfl (wt_none rfl) (pv_fa T0 rfl rfl rfl (by simp; rfl)) rfl rfl ?_
  refine awt_lo rfl (wt_none rfl) (lv_cl1 T0 rfl rfl rfl rcA raA) rfl rfl rfl ?_
  refine awt_po rfl (wt_none rfl) (pv_move rfl rfl) rfl rfl ?_
  refine awt_po rfl (wt_none rfl) (pv_ix_t T0 rfl rfl rfl rfl (by omega) ixA) rfl rfl ?_
  refine awt_po rfl (wt_none rfl) (pv_fa_elt T0 rfl rfl rfl (by simp; rfl)) rfl rfl ?_
  refine awt_lo rfl (wt_none rfl) (lv_elt_sc T0 rfl rfl rfl rfl) rfl rfl rfl ?_
  refine awt_po rfl (wt_none rfl) (pv_move rfl rfl) rfl rfl ?_
  refine awt_sk1 rfl (wf_some rfl rfl rfl rfl tfA) rfl rfl (fun _ _ h => h) rfl ?_
  refine awt_sk0 rfl (wf_some rfl rfl rfl rfl tfA) rfl rfl (fun _ _ h => h) rfl ?_
  refine awt_sk0 rfl (wf_some rfl rfl rfl rfl tfA) rfl rfl (fun _ _ h => h) rfl ?_
  refine awt_sk0 rfl (wf_some rfl rfl rfl rfl tfA) rfl rfl (fun _ _ h => h) rfl ?_
  refine awt_sk0 rfl (wf_some rfl rfl rfl rfl tfA) rfl rfl (fun _ _ h => h) rfl ?_
  refine awt_sk0 rfl (wf_some rfl rfl rfl rfl tfA) rfl rfl (fun _ _ h => h) rfl ?_
  refine awt_sk0 rfl (wf_some rfl rfl rfl rfl tfA) rfl rfl (fun _ _ h => h) rfl ?_
  refine awt_fork ?_ ?_
  · skip
    refine awt_sk2 rfl (wf_some rfl rfl rfl rfl tfA) rfl rfl (fun _ _ h => h) rfl ?_
    refine awt_sk2 rfl (wf_some rfl rfl rfl rfl tfA) rfl rfl (fun _ _ h => h) rfl ?_
    refine awt_sk2 rfl (wf_some rfl rfl rfl rfl tfA) rfl rfl (fun _ _ h => h) rfl ?_
    refine awt_sk3 rfl (wf_some rfl rfl rfl rfl tfA) rfl rfl ?_
    first
      | refine awe_p rfl (wt_none rfl) (pv_pick_t rfl rfl tfA rfl) rfl rfl ?_
      | refine awe_p rfl (wt_none rfl) (pv_pick_f rfl rfl tfA rfl) rfl rfl ?_
    refine awe_end ?_
    exact cut_n ⟨rfl, rfl⟩ ssA rcA
  · skip
    refine awt_sk2 rfl (wf_some rfl rfl rfl rfl tfA) rfl rfl (fun _ _ h => h) rfl ?_
    refine awt_sk2 rfl (wf_some rfl rfl rfl rfl tfA) rfl rfl (fun _ _ h => h) rfl ?_
    refine awt_sk2 rfl (wf_some rfl rfl rfl rfl tfA) rfl rfl (fun _ _ h => h) rfl ?_
    refine awt_sk3 rfl (wf_some rfl rfl rfl rfl tfA) rfl rfl ?_
    first
      | refine awe_p rfl (wt_none rfl) (pv_pick_t rfl rfl tfA rfl) rfl rfl ?_
      | refine awe_p rfl (wt_none rfl) (pv_pick_f rfl rfl tfA rfl) rfl rfl ?_
    refine awe_end ?_
    exact cut_n ⟨rfl, rfl⟩ ssA rcA
theorem hc_7y (hi : i < m.hou.length) (hi1 : i ≤ 100) (ho : (natsI o).length ≤ 1000) (hmi : 1 ≤ mi ∧ mi ≤ 100) (hs : sellB m i = true)
    (hC : ACall Try.prog 110 [.t (intsT true (natsI (o ++ [i]))), intA ((i : Int) + 1), intA (mi - 1), .v (ptrV g6), .v (ptrV g1), .v (ptrV g7)] (coE g1 g6 g7 cp cc m X) (fun r h' => r = boolA b ∧ ∃ X', Q X' ∧ h' = coE g1 g6 g7 cp cc m X'))
    {ops : Array Oper} (h : regF Try.f110 7 = some ops) :
    AWP Try.prog Try.f110.ntmps none (.region 7 ops true) (cutQ (fun s h => ∃ X', Q X' ∧ s = [(45, boolA b), (0, .t (intsT true (natsI o))), (2, intA mi), (3, .v (ptrV g6)), (4, .v (ptrV g1)), (5, .v (ptrV g7)), (10, intA i)] ∧ h = coE g1 g6 g7 cp cc m X'))
      [(0, .t (intsT true (natsI o))), (2, intA mi), (3, .v (ptrV g6)), (4, .v (ptrV g1)), (5, .v (ptrV g7)), (10, intA i)] (coE g1 g6 g7 cp cc m X) := by
  cases h
  have d1 : (m.hou.getD i default).sells = true := hs
  have hn : ((natsI o).map intRow).length = (natsI o).length := List.length_map _
  have hl1 : (natsI (o ++ [i])).length = (natsI o).length + 1 := by simp [natsI]
  have hro : (natsI o).map intRow ++ [[intA (i : Int)]] = (natsI (o ++ [i])).map intRow := by simp [natsI, intRow]
  have ht := intRows_tree (natsI (o ++ [i]))
  rw [hl1] at ht
  have hC2 := fun v => acall_ownG (v := v) (E := 3) (sz := 1) (rows := (natsI (o ++ [i])).map intRow) (f := fun k => [.sc (.int .i64 ((natsI (o ++ [i])).getD k 0))]) (n := (natsI o).length + 1) (by unfold intsT at hC; rw [hl1] at hC; exact hC) (by rw [List.length_map, hl1]) ht
  rw [← hro] at hC2
  refine awp_treeN T0 [(0, 0), (1, 1), (2, 0), (3, 0), (4, 0), (5, 1), (6, 0), (7, 1), (8, 0), (10, 0), (13, 0), (14, 0), (15, 0), (16, 0), (9, 2), (11, 2), (12, 2), (17, 3), (18, 0)] (.op 0 0 (.op 1 1 (.op 2 0 (.op 3 0 (.op 4 0 (.op 5 1 (.op 6 0 (.op 7 1 (.op 8 0 (.op 10 0 (.op 13 0 (.op 14 0 (.op 15 0 (.op 16 0 (.fork 9 (.op 11 2 (.op 12 2 (.op 17 3 (.op 18 0 .stop)))) 11 (.op 9 2 (.op 12 2 (.op 17 3 (.op 18 0 .stop))))))))))))))))))) [.cl g1 _ _, .cl g7 _ _] rfl (by kernel_rfl) rcA ?_
  refine awt_po rfl (wt_none rfl) (pv_fa T0 rfl rfl rfl (by simp; rfl)) rfl rfl ?_
  refine awt_lo rfl (wt_none rfl) (lv_cl1 T0 rfl rfl rfl rcA raA) rfl rfl rfl ?_
  refine awt_po rfl (wt_none rfl) (pv_move rfl rfl) rfl rfl ?_
  refine awt_po rfl (wt_none rfl) (pv_ix_t T0 rfl rfl rfl rfl (by omega) ixA) rfl rfl ?_
  refine awt_po rfl (wt_none rfl) (pv_fa_elt T0 rfl rfl rfl (by simp; rfl)) rfl rfl ?_
  refine awt_lo rfl (wt_none rfl) (lv_elt_sc T0 rfl rfl rfl rfl) rfl rfl rfl ?_
  refine awt_po rfl (wt_none rfl) (pv_move rfl rfl) rfl rfl ?_
  refine awt_lo rfl wtS (lv_cl1 T0 rfl rfl rfl rcA raA) rfl rfl rfl ?_
  refine awt_po rfl wtS (pv_move rfl rfl) rfl rfl ?_
  refine awt_po rfl wtS (pv_move rfl rfl) rfl rfl ?_
  refine awt_po rfl wtS (pv_move rfl rfl) rfl rfl ?_
  refine awt_po rfl wtS (pv_add rfl rfl rfl (by first | assumption | exact wr64 (by omega))) rfl rfl ?_
  refine awt_po rfl wtS (pv_move rfl rfl) rfl rfl ?_
  refine awt_po rfl wtS (pv_sub rfl rfl rfl (by first | assumption | exact wr64 (by omega))) rfl rfl ?_
  refine awt_fork ?_ ?_
  · skip
    refine awt_h (hm := _) rfl wtS ?sub rfl (st_acall T0 (iclone_o true (natsI o) ho) rfl rfl rfl rfl (by first | exact callee_lit | exact callee_v | exact callee_fn | assumption) rcA raA rfl (by first | ((repeat' (first | exact SubH.refl _ | apply SubH.cons | exact Pick.here | apply Pick.there)); all_goals fail) | fail) (fun b hb => hb) ?_)
    case sub => exact rcA
    rintro r h' ⟨a, c, rfl, rfl⟩
    refine awt_h (hm := []) rfl wtS rcA rfl (st_bsl T0 rfl rfl rfl rfl rfl rcA rfl rfl rfl rfl (by simp only [List.map_cons, List.map_nil, cellsA]; rfl) ?_)
    intro g38
    refine awt_h (hm := _) rfl wtS ?sub rfl (st_app_o T0 rfl rfl rfl rfl rfl rfl rfl rfl rfl rcA rcA rfl rfl hn (by omega) ?_)
    case sub => exact rcA
    intro a39 c39 p39
    refine awt_s (md := fun _ => True) rfl wtS (st_acall T0 (hC2 _) rfl rfl rfl rfl (by first | exact callee_lit | exact callee_v | exact callee_fn | assumption) rcA raA rfl (by first | ((repeat' (first | exact SubH.refl _ | apply SubH.cons | exact Pick.here | apply Pick.there)); all_goals fail) | fail) (fun _ _ => trivial) ?_)
    rintro r h' ⟨rfl, X', hX, rfl⟩
    first
      | refine awe_p rfl (wt_none rfl) (pv_pick_t rfl rfl tfA rfl) rfl rfl ?_
      | refine awe_p rfl (wt_none rfl) (pv_pick_f rfl rfl tfA rfl) rfl rfl ?_
    refine awe_end ?_
    exact cut_n ⟨X', hX, rfl, rfl⟩ ssA rcA
  · skip
    refine awt_h (hm := []) rfl wtS rcA rfl (st_bsl T0 rfl rfl rfl rfl rfl rcA rfl rfl rfl rfl (by simp only [List.map_cons, List.map_nil, cellsA]; rfl) ?_)
    intro g38
    refine awt_h (hm := _) rfl wtS ?sub rfl (st_acall T0 (iclone_o true (natsI o) ho) rfl rfl rfl rfl (by first | exact callee_lit | exact callee_v | exact callee_fn | assumption) rcA raA rfl (by first | ((repeat' (first | exact SubH.refl _ | apply SubH.cons | exact Pick.here | apply Pick.there)); all_goals fail) | fail) (fun b hb => hb) ?_)
    case sub => exact rcA
    rintro r h' ⟨a, c, rfl, rfl⟩
    refine awt_h (hm := _) rfl wtS ?sub rfl (st_app_o T0 rfl rfl rfl rfl rfl rfl rfl rfl rfl rcA rcA rfl rfl hn (by omega) ?_)
    case sub => exact rcA
    intro a39 c39 p39
    refine awt_s (md := fun _ => True) rfl wtS (st_acall T0 (hC2 _) rfl rfl rfl rfl (by first | exact callee_lit | exact callee_v | exact callee_fn | assumption) rcA raA rfl (by first | ((repeat' (first | exact SubH.refl _ | apply SubH.cons | exact Pick.here | apply Pick.there)); all_goals fail) | fail) (fun _ _ => trivial) ?_)
    rintro r h' ⟨rfl, X', hX, rfl⟩
    first
      | refine awe_p rfl (wt_none rfl) (pv_pick_t rfl rfl tfA rfl) rfl rfl ?_
      | refine awe_p rfl (wt_none rfl) (pv_pick_f rfl rfl tfA rfl) rfl rfl ?_
    refine awe_end ?_
    exact cut_n ⟨X', hX, rfl, rfl⟩ ssA rcA
end
end Go.Proofs.Ytlpknbneilgjkaa.C
end
section
namespace Go.Proofs.Ytlpknbneilgjkaa.C
open Go Go.RowKit Go.Tl
set_option linter.unusedVariables false
set_option linter.unusedSimpArgs false
set_option maxRecDepth 100000
set_option maxHeartbeats 4000000
theorem fld46 (a c : Int) (w : World) : (Instr.field 184 (.agg #[.int .i64 a, .int .i64 c]) 0).run Try.prog w = .ok (.int .i64 a) w := by kernel_rfl
theorem pv_fld46 {o : Oper} {sl : Slots} {x : Operand} {a c : Int} (ho : o.op = .field 184 x 0) (hx : evA sl x = some (.ag [intA a, intA c])) : PV Try.prog o sl (intA a) := fun w S act hs => by
  have h1 := hs.eval hx
  generalize hev : act.eval x = v at *
  obtain ⟨vs, rfl, hv⟩ := ag_inv h1
  obtain ⟨v1, us, rfl, k1, hv⟩ := rels1 hv
  obtain ⟨v2, us, rfl, k2, hv⟩ := rels1 hv
  obtain rfl := rels0 hv
  rw [k1.lit_inv, k2.lit_inv] at hev
  exact ⟨.int .i64 a, fun w' => by simp [execOp, ho, hev, fld46 a c w'], .v _⟩
attribute [local irreducible] AWP AWL AOp PV LV AWT AWE
theorem or_some {α : Type} {x y : Option α} (h : x.isSome = true) : x.or y = x := by cases x; cases h; rfl
theorem or_none {α : Type} {x y : Option α} (h : x.isSome = false) : x.or y = y := by cases x; rfl; cases h
theorem natsI_mem {o : List Nat} {x : Int} (h : x ∈ natsI o) : ∃ i ∈ o, x = (i : Int) := by
  unfold natsI at h
  obtain ⟨i, hi, rfl⟩ := List.mem_map.1 h
  exact ⟨i, hi, rfl⟩
theorem add_p (g1 g6 g7 : Nat) (cp cc : Bool) (m : MktD) (hv : VMkt m) : ∀ (n i : Nat) (o : List Nat) (X : AV), o.length + n ≤ 100 → i ≤ 50 → (∀ x ∈ o, x < m.hou.length) →
    ACall Try.prog 110 [.t (intsT true (natsI o)), intA i, intA n, .v (ptrV g6), .v (ptrV g1), .v (ptrV g7)] (coE g1 g6 g7 cp cc m X)
      (fun r h' => r = boolA (fndL (corB m) o (combC (sellB m) m.hou.length n i)).isSome ∧ ∃ X', (∀ e, fndL (corB m) o (combC (sellB m) m.hou.length n i) = some e → X' = .t (intsT true (natsI e))) ∧ h' = coE g1 g6 g7 cp cc m X') := by
  have hlen := hv.len
  intro n
  induction n with
  | zero =>
    intro i o X ho hi hox
    rw [show combC (sellB m) m.hou.length 0 i = [[]] from rfl, fnd_one]
    have hC := keeping_p cp cc true m (natsI o) hv (by rw [natsI_len]; omega) (fun x hx => by obtain ⟨j, hj, rfl⟩ := natsI_mem hx; have := hox j hj; omega)
    have hB : corB m o = decide (0 < (bndN (keepM m (natsI o))).1) := rfl
    refine acall_of_awp T0 Try.func110 rfl rfl rfl ?_
    repeat (first | refine awp_seq ?_ | refine awp_region_lit rfl ?_ | with_reducible refine then_n ?_ | refine awp_cond_t rfl (by first | rfl | assumption | exact dT (by omega)) ?_ | ((first | (show AWL _ _ _ (⟨_, .move _, _, _, _, _⟩ :: _) _ _ _; refine awl_pw ?wtq (pv_move rfl rfl) rfl rfl ?_) | (show AWL _ _ _ (⟨_, .assign _, _, _, _, _⟩ :: _) _ _ _; refine awl_pw ?wtq (pv_assign rfl rfl) rfl rfl ?_) | (show AWL _ _ _ (⟨_, .load _ _, _, _, _, _⟩ :: _) _ _ _; refine awl_lw ?wtq (lv_cla T0 rfl rfl rfl rcA rfl) rfl rfl rfl ?_) | (show AWL _ _ _ (⟨_, .binOp .eql _ _ _ _, _, _, _, _⟩ :: _) _ _ _; refine awl_pw ?wtq (pv_eql rfl rfl rfl) rfl rfl ?_)); case wtq => exact wtA) | (show AWL _ _ _ (⟨_, .store _ _ _, _, _, _, _⟩ :: _) _ _ _; refine awl_hw wtA (st_store T0 rfl rfl rfl rfl rfl (by first | assumption | (simp only [cellsA]; rfl)) rfl rfl rfl rcA rcA trivial ?_)) | refine awl_nil ?_)
    refine awl_hw wtA (st_call T0 (hC) rfl rfl rfl rfl (by first | exact callee_lit | exact callee_v | exact callee_fn | assumption) rcA raA rfl ?_)
    rintro _ rfl
    refine awl_pw (wt_none rfl) (pv_fld46 rfl rfl) rfl rfl ?_
    repeat (first | refine awp_ret ?_ | with_reducible refine then_r ?_ | ((first | (show AWL _ _ _ (⟨_, .assign _, _, _, _, _⟩ :: _) _ _ _; refine awl_pw ?wtq (pv_assign rfl rfl) rfl rfl ?_) | (show AWL _ _ _ (⟨_, .binOp .gtr _ _ _ _, _, _, _, _⟩ :: _) _ _ _; refine awl_pw ?wtq (pv_gtr rfl rfl rfl) rfl rfl ?_)); case wtq => exact wtA) | refine awl_nil ?_)
    refine body_r (h' := coE g1 g6 g7 cp cc m (.t (intsT true (natsI o)))) (.cons rfl .nil) rcA ⟨?_, _, fun e he => ?_, rfl⟩
    · rw [← hB]
      cases corB m o
      · rfl
      · rfl
    · cases c : corB m o
      · rw [c] at he; cases he
      · rw [c, if_pos rfl] at he; cases he; rfl
  | succ n ih =>
    intro i0 o X0 ho hi0 hox
    refine acall_of_awp T0 Try.func110 rfl rfl rfl ?_
    have dn : decide (((n + 1 : Nat) : Int) = 0) = false := decide_eq_false (by omega)
    repeat (first | refine awp_seq ?_ | refine awp_block ?_ | refine awp_region_lit rfl ?_ | refine awp_skip ?_ | with_reducible refine then_n ?_ | refine awp_cond_f rfl (by first | rfl | assumption | exact dF (by omega)) ?_ | ((first | (show AWL _ _ _ (⟨_, .move _, _, _, _, _⟩ :: _) _ _ _; refine awl_pw ?wtq (pv_move rfl rfl) rfl rfl ?_) | (show AWL _ _ _ (⟨_, .assign _, _, _, _, _⟩ :: _) _ _ _; refine awl_pw ?wtq (pv_assign rfl rfl) rfl rfl ?_) | (show AWL _ _ _ (⟨_, .binOp .eql _ _ _ _, _, _, _, _⟩ :: _) _ _ _; refine awl_pw ?wtq (pv_eql rfl rfl rfl) rfl rfl ?_)); case wtq => exact wtA) | refine awl_nil ?_)
    refine awp_loop (fun w s h => ∃ (i : Nat) (X : AV), i0 ≤ i ∧ i ≤ 60 ∧ w = 60 - i ∧ fndL (corB m) o (combC (sellB m) m.hou.length (n + 1) i0) = fndL (corB m) o (combC (sellB m) m.hou.length (n + 1) i) ∧ s = [(0, .t (intsT true (natsI o))), (2, intA ((n + 1 : Nat) : Int)), (3, .v (ptrV g6)), (4, .v (ptrV g1)), (5, .v (ptrV g7)), (10, intA i)] ∧ h = coE g1 g6 g7 cp cc m X) ?_ ⟨i0, X0, Nat.le_refl _, by omega, rfl, rfl, rfl, rfl⟩ ssA rcA
    rintro w s h ⟨i, X, hi, hi2, rfl, hR, rfl, rfl⟩
    by_cases hlt : i < m.hou.length
    case neg =>
      have d1 : decide ((i : Int) < m.hou.length) = false := decide_eq_false (by omega)
      rw [combC_end (i := i) (by omega), fnd_nil] at hR
      rw [hR]
      repeat (first | refine awp_seq ?_ | refine awp_region_lit rfl ?_ | refine awp_exit ?_ | refine awp_ret ?_ | with_reducible refine then_n ?_ | refine awp_cond_f rfl (by first | rfl | assumption | exact dF (by omega)) ?_ | ((first | (show AWL _ _ _ (⟨_, .move _, _, _, _, _⟩ :: _) _ _ _; refine awl_pw ?wtq (pv_move rfl rfl) rfl rfl ?_) | (show AWL _ _ _ (⟨_, .assign _, _, _, _, _⟩ :: _) _ _ _; refine awl_pw ?wtq (pv_assign rfl rfl) rfl rfl ?_) | (show AWL _ _ _ (⟨_, .load _ _, _, _, _, _⟩ :: _) _ _ _; refine awl_lw ?wtq (lv_cl1 T0 rfl rfl rfl rcA raA) rfl rfl rfl ?_) | (show AWL _ _ _ (⟨_, .fieldAddr _ _ _, _, _, _, _⟩ :: _) _ _ _; refine awl_pw ?wtq (pv_fa T0 rfl rfl rfl (by simp; rfl)) rfl rfl ?_) | (show AWL _ _ _ (⟨_, .binOp .lss _ _ _ _, _, _, _, _⟩ :: _) _ _ _; refine awl_pw ?wtq (pv_lss rfl rfl rfl) rfl rfl ?_) | (show AWL _ _ _ (⟨_, .call ⟨.builtin .len, _, _⟩, _, _, _, _⟩ :: _) _ _ _; refine awl_pw ?wtq (pv_len_t T0 rfl rfl rfl) rfl rfl ?_)); case wtq => exact wtA) | refine awl_nil ?_)
      exact body_r (h' := coE g1 g6 g7 cp cc m X) (.cons rfl .nil) rcA ⟨rfl, X, (fun e he => by cases he), rfl⟩
    have d1 : decide ((i : Int) < m.hou.length) = true := decide_eq_true (by omega)
    cases hs : sellB m i
    · rw [combC_no hlt hs] at hR
      repeat (first | refine awp_seq ?_ | refine awp_block ?_ | refine awp_region_lit rfl ?_ | refine awp_skip ?_ | with_reducible refine then_n ?_ | refine awp_cond_t rfl (by first | rfl | assumption | exact dT (by omega)) ?_ | ((first | (show AWL _ _ _ (⟨_, .move _, _, _, _, _⟩ :: _) _ _ _; refine awl_pw ?wtq (pv_move rfl rfl) rfl rfl ?_) | (show AWL _ _ _ (⟨_, .load _ _, _, _, _, _⟩ :: _) _ _ _; refine awl_lw ?wtq (lv_cl1 T0 rfl rfl rfl rcA raA) rfl rfl rfl ?_) | (show AWL _ _ _ (⟨_, .fieldAddr _ _ _, _, _, _, _⟩ :: _) _ _ _; refine awl_pw ?wtq (pv_fa T0 rfl rfl rfl (by simp; rfl)) rfl rfl ?_) | (show AWL _ _ _ (⟨_, .binOp .lss _ _ _ _, _, _, _, _⟩ :: _) _ _ _; refine awl_pw ?wtq (pv_lss rfl rfl rfl) rfl rfl ?_) | (show AWL _ _ _ (⟨_, .call ⟨.builtin .len, _, _⟩, _, _, _, _⟩ :: _) _ _ _; refine awl_pw ?wtq (pv_len_t T0 rfl rfl rfl) rfl rfl ?_)); case wtq => exact wtA) | refine awl_nil ?_)
      refine awp_cut _ (awp_weak ssA rcA (hc_7n (g1 := g1) (g6 := g6) (g7 := g7) (i := i) (cp := cp) (cc := cc) (m := m) (o := o) (X := X) (mi := ((n + 1 : Nat) : Int)) hlt hs rfl)) ?_
      rintro s h ⟨rfl, rfl⟩
      repeat (first | refine awp_region_lit rfl ?_ | refine awp_skip ?_ | refine awp_cond_f rfl (by first | rfl | assumption | exact dF (by omega)) ?_ | ((first | (show AWL _ _ _ (⟨_, .move _, _, _, _, _⟩ :: _) _ _ _; refine awl_pw ?wtq (pv_move rfl rfl) rfl rfl ?_) | (show AWL _ _ _ (⟨_, .assign _, _, _, _, _⟩ :: _) _ _ _; refine awl_pw ?wtq (pv_assign rfl rfl) rfl rfl ?_) | (show AWL _ _ _ (⟨_, .binOp .add _ _ _ _, _, _, _, _⟩ :: _) _ _ _; refine awl_pw ?wtq (pv_add rfl rfl rfl (by first | assumption | exact wr64 (by omega))) rfl rfl ?_)); case wtq => exact wtA) | refine awl_nil ?_)
      refine rnd_n _ _ _ ?_ ⟨i + 1, X, by omega, by omega, rfl, hR, rfl, rfl⟩ ssA rcA
      omega
    · rw [combC_yes hlt hs, fnd_app, fnd_cons] at hR
      have hC := ih (i + 1) (o ++ [i]) X (by simp; omega) (by omega) (fun x hx => by simp at hx; rcases hx with h | rfl; exact hox x h; exact hlt)
      rw [show intA ((n : Nat) : Int) = intA (((n + 1 : Nat) : Int) - 1) from by rw [show ((n + 1 : Nat) : Int) - 1 = (n : Int) from by omega]] at hC
      have ho1 : (natsI o).length ≤ 1000 := by rw [natsI_len]; omega
      generalize hf : fndL (corB m) (o ++ [i]) (combC (sellB m) m.hou.length n (i + 1)) = F at *
      repeat (first | refine awp_seq ?_ | refine awp_block ?_ | refine awp_region_lit rfl ?_ | refine awp_skip ?_ | with_reducible refine then_n ?_ | refine awp_cond_t rfl (by first | rfl | assumption | exact dT (by omega)) ?_ | ((first | (show AWL _ _ _ (⟨_, .move _, _, _, _, _⟩ :: _) _ _ _; refine awl_pw ?wtq (pv_move rfl rfl) rfl rfl ?_) | (show AWL _ _ _ (⟨_, .load _ _, _, _, _, _⟩ :: _) _ _ _; refine awl_lw ?wtq (lv_cl1 T0 rfl rfl rfl rcA raA) rfl rfl rfl ?_) | (show AWL _ _ _ (⟨_, .fieldAddr _ _ _, _, _, _, _⟩ :: _) _ _ _; refine awl_pw ?wtq (pv_fa T0 rfl rfl rfl (by simp; rfl)) rfl rfl ?_) | (show AWL _ _ _ (⟨_, .binOp .lss _ _ _ _, _, _, _, _⟩ :: _) _ _ _; refine awl_pw ?wtq (pv_lss rfl rfl rfl) rfl rfl ?_) | (show AWL _ _ _ (⟨_, .call ⟨.builtin .len, _, _⟩, _, _, _, _⟩ :: _) _ _ _; refine awl_pw ?wtq (pv_len_t T0 rfl rfl rfl) rfl rfl ?_)); case wtq => exact wtA) | refine awl_nil ?_)
      refine awp_cut _ (awp_weak ssA rcA (hc_7y (g1 := g1) (g6 := g6) (g7 := g7) (i := i) (cp := cp) (cc := cc) (m := m) (o := o) (X := X) (mi := ((n + 1 : Nat) : Int)) (b := F.isSome) (Q := fun X' => ∀ e, F = some e → X' = .t (intsT true (natsI e))) hlt (by omega) ho1 (by omega) hs hC rfl)) ?_
      rintro s h ⟨X', hX', rfl, rfl⟩
      cases c : F.isSome
      · rw [or_none c] at hR
        repeat (first | refine awp_region_lit rfl ?_ | refine awp_skip ?_ | refine awp_cond_f rfl (by first | rfl | assumption | exact dF (by omega)) ?_ | ((first | (show AWL _ _ _ (⟨_, .move _, _, _, _, _⟩ :: _) _ _ _; refine awl_pw ?wtq (pv_move rfl rfl) rfl rfl ?_) | (show AWL _ _ _ (⟨_, .assign _, _, _, _, _⟩ :: _) _ _ _; refine awl_pw ?wtq (pv_assign rfl rfl) rfl rfl ?_) | (show AWL _ _ _ (⟨_, .binOp .add _ _ _ _, _, _, _, _⟩ :: _) _ _ _; refine awl_pw ?wtq (pv_add rfl rfl rfl (by first | assumption | exact wr64 (by omega))) rfl rfl ?_)); case wtq => exact wtA) | refine awl_nil ?_)
        refine rnd_n _ _ _ ?_ ⟨i + 1, X', by omega, by omega, rfl, hR, rfl, rfl⟩ ssA rcA
        omega
      · rw [or_some c] at hR
        rw [hR]
        repeat (first | refine awp_seq ?_ | refine awp_region_lit rfl ?_ | refine awp_ret ?_ | with_reducible refine then_r ?_ | with_reducible refine blk_r ?_ | refine sco_r ?_ | refine awp_cond_t rfl (by first | rfl | assumption | exact dT (by omega)) ?_ | ((first | (show AWL _ _ _ (⟨_, .assign _, _, _, _, _⟩ :: _) _ _ _; refine awl_pw ?wtq (pv_assign rfl rfl) rfl rfl ?_)); case wtq => exact wtA) | refine awl_nil ?_)
        exact body_r (h' := coE g1 g6 g7 cp cc m X') (.cons rfl .nil) rcA ⟨by rw [c]; rfl, X', hX', rfl⟩
end Go.Proofs.Ytlpknbneilgjkaa.C
end
section
namespace Go.Proofs.Ytlpknbneilgjkaa.C
open Go Go.RowKit Go.Tl
set_option linter.unusedVariables false
set_option linter.unusedSimpArgs false
set_option maxRecDepth 100000
set_option maxHeartbeats 4000000
attribute [local irreducible] AWP AWL AOp PV LV AWT AWE
def sizesC (ok : Nat → Bool) (n k : Nat) : List (List Nat) := (List.range' k (n + 1 - k)).flatMap fun m => combC ok n m 0
theorem sizesC_step {ok : Nat → Bool} {n k : Nat} (h : k ≤ n) : sizesC ok n k = combC ok n k 0 ++ sizesC ok n (k + 1) := by
  unfold sizesC
  rw [show n + 1 - k = (n + 1 - (k + 1)) + 1 by omega, List.range'_succ, List.flatMap_cons]
theorem sizesC_end {ok : Nat → Bool} {n : Nat} : sizesC ok n (n + 1) = [] := by
  unfold sizesC
  rw [show n + 1 - (n + 1) = 0 by omega]
  rfl
def cornR (m : MktD) : List Int × Int := if (askedR m).2 ≠ 0 then ([], (askedR m).2) else match fndL (corB m) [] (sizesC (sellB m) m.hou.length 0) with | some e => (natsI e, 0) | none => ([], 7)
theorem add_top (g1 g6 g7 : Nat) (cp cc : Bool) (m : MktD) (hv : VMkt m) (n : Nat) (X : AV) (hn : n ≤ 100) :
    ACall Try.prog 110 [.v (.slice none 0 0), intA 0, intA n, .v (ptrV g6), .v (ptrV g1), .v (ptrV g7)] (coE g1 g6 g7 cp cc m X)
      (fun r h' => r = boolA (fndL (corB m) [] (combC (sellB m) m.hou.length n 0)).isSome ∧ ∃ X', (∀ e, fndL (corB m) [] (combC (sellB m) m.hou.length n 0) = some e → X' = .t (intsT true (natsI e))) ∧ h' = coE g1 g6 g7 cp cc m X') :=
  acall_nilG (add_p g1 g6 g7 cp cc m hv n 0 [] X (by simpa using hn) (by omega) (fun x hx => by cases hx))
theorem Corner_p (cp cc : Bool) (m : MktD) (hl : m.hou.length ≤ 1000) (hc : m.con.length ≤ 1000) : PCall Try.prog 74 [mktA cp cc m] (fun r => r = .tup [.t (intsT true (cornR m).1), intA (cornR m).2]) := by
  refine acall_of_awp T0 Try.func74 rfl rfl rfl ?_
  unfold cornR
  by_cases h0 : (askedR m).2 = 0
  case neg =>
    have d1 := decide_eq_true h0
    rw [if_pos h0]
    repeat (first | refine awp_seq ?_ | refine awp_region_lit rfl ?_)
    refine awl_hw (wt_none rfl) (st_box rfl rfl raA (by first | assumption | (simp only [cellsA]; rfl)) rfl rfl ?_)
    intro g1
    repeat (first | refine awp_seq ?_ | refine awp_region_lit rfl ?_ | refine awp_scope ?_ | (show AWL _ _ _ (⟨_, .assign _, _, _, _, _⟩ :: _) _ _ _; refine awl_pw (wt_none rfl) (pv_assign rfl rfl) rfl rfl ?_) | (show AWL _ _ _ (⟨_, .load _ _, _, _, _, _⟩ :: _) _ _ _; refine awl_lw (wt_none rfl) (lv_cla T0 rfl rfl rfl rcA rfl) rfl rfl rfl ?_) | refine awl_nil ?_)
    refine awl_hw (wt_none rfl) (st_call T0 (asked_p cp cc m hl hc) rfl rfl rfl rfl (by first | exact callee_lit | exact callee_v | exact callee_fn | assumption) rcA raA rfl ?_)
    rintro _ rfl
    repeat (first | (show AWL _ _ _ (⟨_, .move _, _, _, _, _⟩ :: _) _ _ _; refine awl_pw (wt_none rfl) (pv_move rfl rfl) rfl rfl ?_) | (show AWL _ _ _ (⟨_, .extract _ _, _, _, _, _⟩ :: _) _ _ _; refine awl_pw (wt_none rfl) (pv_extract rfl rfl rfl) rfl rfl ?_))
    refine awl_hw (wt_none rfl) (st_alloc T0 rfl rfl rfl rfl scA ?_)
    intro g4
    repeat (first | refine awp_seq ?_ | refine awp_region_lit rfl ?_ | refine awp_ret ?_ | with_reducible refine then_n ?_ | with_reducible refine then_r ?_ | refine sco_r ?_ | refine awp_cond_t rfl (by first | rfl | assumption | exact dT (by omega)) ?_ | (show AWL _ _ _ (⟨_, .move _, _, _, _, _⟩ :: _) _ _ _; refine awl_pw (wt_none rfl) (pv_move rfl rfl) rfl rfl ?_) | (show AWL _ _ _ (⟨_, .assign _, _, _, _, _⟩ :: _) _ _ _; refine awl_pw (wt_none rfl) (pv_assign rfl rfl) rfl rfl ?_) | (show AWL _ _ _ (⟨_, .binOp .neq _ _ _ _, _, _, _, _⟩ :: _) _ _ _; refine awl_pw (wt_none rfl) (pv_neq rfl rfl rfl) rfl rfl ?_) | (show AWL _ _ _ (⟨_, .store _ _ _, _, _, _, _⟩ :: _) _ _ _; refine awl_hw (wt_none rfl) (st_store T0 rfl rfl rfl rfl rfl (by first | assumption | (simp only [cellsA]; rfl)) rfl rfl rfl rcA rcA trivial ?_)) | refine awl_nil ?_)
    refine bodyQ_ghost (ghost_none (d := 2) (t := intsT true []) rfl nil_tree) ?_
    exact body_p (.cons rfl (.cons rfl .nil)) rfl
  have d1 : decide ((askedR m).2 ≠ 0) = false := decide_eq_false (fun h => h h0)
  rw [if_neg (fun h => h h0)]
  have hf : faultN m = 0 := by
    cases Decidable.em (faultN m = 0) with
    | inl h => exact h
    | inr h => unfold askedR at h0; rw [if_pos h] at h0; exact h0
  have hv := vmkt hf
  have hlen := hv.len
  repeat (first | refine awp_seq ?_ | refine awp_region_lit rfl ?_)
  refine awl_hw (wt_none rfl) (st_box rfl rfl raA (by first | assumption | (simp only [cellsA]; rfl)) rfl rfl ?_)
  intro g1
  repeat (first | refine awp_seq ?_ | refine awp_region_lit rfl ?_ | refine awp_scope ?_ | (show AWL _ _ _ (⟨_, .assign _, _, _, _, _⟩ :: _) _ _ _; refine awl_pw (wt_none rfl) (pv_assign rfl rfl) rfl rfl ?_) | (show AWL _ _ _ (⟨_, .load _ _, _, _, _, _⟩ :: _) _ _ _; refine awl_lw (wt_none rfl) (lv_cla T0 rfl rfl rfl rcA rfl) rfl rfl rfl ?_) | refine awl_nil ?_)
  refine awl_hw (wt_none rfl) (st_call T0 (asked_p cp cc m hl hc) rfl rfl rfl rfl (by first | exact callee_lit | exact callee_v | exact callee_fn | assumption) rcA raA rfl ?_)
  rintro _ rfl
  rw [h0]
  repeat (first | (show AWL _ _ _ (⟨_, .move _, _, _, _, _⟩ :: _) _ _ _; refine awl_pw (wt_none rfl) (pv_move rfl rfl) rfl rfl ?_) | (show AWL _ _ _ (⟨_, .extract _ _, _, _, _, _⟩ :: _) _ _ _; refine awl_pw (wt_none rfl) (pv_extract rfl rfl rfl) rfl rfl ?_))
  refine awl_hw (wt_none rfl) (st_alloc T0 rfl rfl rfl rfl scA ?_)
  intro g4
  repeat (first | refine awp_seq ?_ | refine awp_region_lit rfl ?_ | refine awp_skip ?_ | with_reducible refine then_n ?_ | refine awp_cond_f rfl (by first | rfl | assumption | exact dF (by omega)) ?_ | (show AWL _ _ _ (⟨_, .move _, _, _, _, _⟩ :: _) _ _ _; refine awl_pw (wt_none rfl) (pv_move rfl rfl) rfl rfl ?_) | (show AWL _ _ _ (⟨_, .assign _, _, _, _, _⟩ :: _) _ _ _; refine awl_pw (wt_none rfl) (pv_assign rfl rfl) rfl rfl ?_) | (show AWL _ _ _ (⟨_, .binOp .neq _ _ _ _, _, _, _, _⟩ :: _) _ _ _; refine awl_pw (wt_none rfl) (pv_neq rfl rfl rfl) rfl rfl ?_) | (show AWL _ _ _ (⟨_, .store _ _ _, _, _, _, _⟩ :: _) _ _ _; refine awl_hw (wt_none rfl) (st_store T0 rfl rfl rfl rfl rfl (by first | assumption | (simp only [cellsA]; rfl)) rfl rfl rfl rcA rcA trivial ?_)) | refine awl_nil ?_)
  refine awl_hw (wt_none rfl) (st_alloc T0 rfl rfl rfl rfl scA ?_)
  intro g6
  repeat (first | refine awp_seq ?_ | refine awp_region_lit rfl ?_ | refine awl_nil ?_)
  refine awl_hw (wt_none rfl) (st_alloc T0 rfl rfl rfl rfl scA ?_)
  intro g7
  repeat (first | refine awp_seq ?_ | refine awp_region_lit rfl ?_ | refine awl_nil ?_)
  refine awl_pw (wt_none rfl) (pv_makeFunc_v (fs := []) (cs := [ptrV g6, ptrV g1, ptrV g7]) rfl rfl rfl) rfl rfl ?_
  repeat (first | refine awp_seq ?_ | refine awp_block ?_ | refine awp_region_lit rfl ?_ | refine awp_label ?_ | (show AWL _ _ _ (⟨_, .move _, _, _, _, _⟩ :: _) _ _ _; refine awl_pw (wt_none rfl) (pv_move rfl rfl) rfl rfl ?_) | (show AWL _ _ _ (⟨_, .assign _, _, _, _, _⟩ :: _) _ _ _; refine awl_pw (wt_none rfl) (pv_assign rfl rfl) rfl rfl ?_) | (show AWL _ _ _ (⟨_, .load _ _, _, _, _, _⟩ :: _) _ _ _; refine awl_lw (wt_none rfl) (lv_cl1 T0 rfl rfl rfl rcA raA) rfl rfl rfl ?_) | (show AWL _ _ _ (⟨_, .fieldAddr _ _ _, _, _, _, _⟩ :: _) _ _ _; refine awl_pw (wt_none rfl) (pv_fa T0 rfl rfl rfl (by simp; rfl)) rfl rfl ?_) | (show AWL _ _ _ (⟨_, .binOp .add _ _ _ _, _, _, _, _⟩ :: _) _ _ _; refine awl_pw (wt_none rfl) (pv_add rfl rfl rfl (by first | assumption | exact wr64 (by omega))) rfl rfl ?_) | (show AWL _ _ _ (⟨_, .call ⟨.builtin .len, _, _⟩, _, _, _, _⟩ :: _) _ _ _; refine awl_pw (wt_none rfl) (pv_len_t T0 rfl rfl rfl) rfl rfl ?_) | (show AWL _ _ _ (⟨_, .store _ _ _, _, _, _, _⟩ :: _) _ _ _; refine awl_hw (wt_none rfl) (st_store T0 rfl rfl rfl rfl rfl (by first | assumption | (simp only [cellsA]; rfl)) rfl rfl rfl rcA rcA trivial ?_)) | refine awl_nil ?_)
  refine awp_cutX (fun s h => ∃ (X : AV) (b : Bool), (fndL (corB m) [] (sizesC (sellB m) m.hou.length 0)).isSome = b ∧ (∀ e, fndL (corB m) [] (sizesC (sellB m) m.hou.length 0) = some e → X = .t (intsT true (natsI e))) ∧ s = [(6, .v (ptrV g6)), (8, boolA b)] ∧ h = coE g1 g6 g7 cp cc m X) ?_ ?_
  rotate_left
  · rintro s h ⟨X, b, hb, hX, rfl, rfl⟩
    cases c : fndL (corB m) [] (sizesC (sellB m) m.hou.length 0) with
    | none =>
      rw [c] at hb
      subst hb
      repeat (first | refine awp_seq ?_ | refine awp_region_lit rfl ?_ | refine awp_ret ?_ | with_reducible refine then_n ?_ | with_reducible refine then_r ?_ | refine sco_r ?_ | refine awp_cond_t rfl (by first | rfl | assumption | exact dT (by omega)) ?_ | (show AWL _ _ _ (⟨_, .move _, _, _, _, _⟩ :: _) _ _ _; refine awl_pw (wt_none rfl) (pv_move rfl rfl) rfl rfl ?_) | (show AWL _ _ _ (⟨_, .assign _, _, _, _, _⟩ :: _) _ _ _; refine awl_pw (wt_none rfl) (pv_assign rfl rfl) rfl rfl ?_) | (show AWL _ _ _ (⟨_, .unOp .not _ _, _, _, _, _⟩ :: _) _ _ _; refine awl_pw (wt_none rfl) (pv_not rfl rfl) rfl rfl ?_) | refine awl_nil ?_)
      refine bodyQ_ghost (ghost_none (d := 2) (t := intsT true []) rfl nil_tree) ?_
      exact body_p (.cons rfl (.cons rfl .nil)) rfl
    | some e =>
      rw [c] at hb
      subst hb
      obtain rfl := hX e c
      repeat (first | refine awp_seq ?_ | refine awp_region_lit rfl ?_ | refine awp_skip ?_ | refine awp_ret ?_ | with_reducible refine then_n ?_ | refine sco_r ?_ | refine awp_cond_f rfl (by first | rfl | assumption | exact dF (by omega)) ?_ | (show AWL _ _ _ (⟨_, .move _, _, _, _, _⟩ :: _) _ _ _; refine awl_pw (wt_none rfl) (pv_move rfl rfl) rfl rfl ?_) | (show AWL _ _ _ (⟨_, .assign _, _, _, _, _⟩ :: _) _ _ _; refine awl_pw (wt_none rfl) (pv_assign rfl rfl) rfl rfl ?_) | (show AWL _ _ _ (⟨_, .load _ _, _, _, _, _⟩ :: _) _ _ _; refine awl_lw (wt_none rfl) (lv_cl1 T0 rfl rfl rfl rcA raA) rfl rfl rfl ?_) | (show AWL _ _ _ (⟨_, .unOp .not _ _, _, _, _, _⟩ :: _) _ _ _; refine awl_pw (wt_none rfl) (pv_not rfl rfl) rfl rfl ?_) | refine awl_nil ?_)
      exact body_p (.cons rfl (.cons rfl .nil)) rfl
  refine awp_loop (fun w s h => ∃ (n : Nat) (X : AV), n ≤ m.hou.length + 1 ∧ w = m.hou.length + 1 - n ∧ fndL (corB m) [] (sizesC (sellB m) m.hou.length 0) = fndL (corB m) [] (sizesC (sellB m) m.hou.length n) ∧ s = [(1, .v (ptrV g1)), (6, .v (ptrV g6)), (7, .v (ptrV g7)), (8, boolA false), (22, intA ((m.hou.length : Int) + 1)), (23, intA n)] ∧ h = coE g1 g6 g7 cp cc m X) ?_ ⟨0, _, Nat.zero_le _, rfl, rfl, rfl, rfl⟩ ssA rcA
  rintro w s h ⟨n, X, hn, rfl, hR, rfl, rfl⟩
  by_cases hlt : n < m.hou.length + 1
  case neg =>
    obtain rfl : n = m.hou.length + 1 := by omega
    have d2 : decide (((m.hou.length + 1 : Nat) : Int) < (m.hou.length : Int) + 1) = false := decide_eq_false (by omega)
    rw [sizesC_end, fnd_nil] at hR
    repeat (first | refine awp_seq ?_ | refine awp_region_lit rfl ?_ | refine awp_exit ?_ | with_reducible refine then_x ?_ | with_reducible refine blk_x ?_ | refine sco_x ?_ | refine awp_cond_f rfl (by first | rfl | assumption | exact dF (by omega)) ?_ | (show AWL _ _ _ (⟨_, .binOp .lss _ _ _ _, _, _, _, _⟩ :: _) _ _ _; refine awl_pw (wt_none rfl) (pv_lss rfl rfl rfl) rfl rfl ?_) | refine awl_nil ?_)
    exact cut_n ⟨X, false, by rw [hR]; rfl, (fun e he => by rw [hR] at he; cases he), rfl, rfl⟩ ssA rcA
  have d2 : decide ((n : Int) < (m.hou.length : Int) + 1) = true := decide_eq_true (by omega)
  rw [sizesC_step (k := n) (by omega), fnd_app] at hR
  have hC := add_top g1 g6 g7 cp cc m hv n X (by omega)
  generalize fndL (corB m) [] (combC (sellB m) m.hou.length n 0) = F at *
  repeat (first | refine awp_seq ?_ | refine awp_block ?_ | refine awp_region_lit rfl ?_ | refine awp_skip ?_ | refine awp_cond_t rfl (by first | rfl | assumption | exact dT (by omega)) ?_ | (show AWL _ _ _ (⟨_, .move _, _, _, _, _⟩ :: _) _ _ _; refine awl_pw (wt_none rfl) (pv_move rfl rfl) rfl rfl ?_) | (show AWL _ _ _ (⟨_, .assign _, _, _, _, _⟩ :: _) _ _ _; refine awl_pw (wt_none rfl) (pv_assign rfl rfl) rfl rfl ?_) | (show AWL _ _ _ (⟨_, .load _ _, _, _, _, _⟩ :: _) _ _ _; refine awl_lw (wt_none rfl) (lv_cl1 T0 rfl rfl rfl rcA raA) rfl rfl rfl ?_) | (show AWL _ _ _ (⟨_, .binOp .lss _ _ _ _, _, _, _, _⟩ :: _) _ _ _; refine awl_pw (wt_none rfl) (pv_lss rfl rfl rfl) rfl rfl ?_) | refine awl_nil ?_)
  refine awl_hw (wt_none rfl) (st_acall T0 (hC) rfl rfl rfl rfl (by first | exact callee_lit | exact callee_v | exact callee_fn | assumption) rcA raA rfl (by first | ((repeat' (first | exact SubH.refl _ | apply SubH.cons | exact Pick.here | apply Pick.there)); all_goals fail) | fail) (fun _ _ => trivial) ?_)
  rintro r h ⟨rfl, X', hX', rfl⟩
  simp only [List.cons_append, List.nil_append]
  cases c : F.isSome
  · rw [or_none c] at hR
    repeat (first | refine awp_seq ?_ | refine awp_region_lit rfl ?_ | refine awp_skip ?_ | with_reducible refine then_n ?_ | refine awp_cond_f rfl (by first | rfl | assumption | exact dF (by omega)) ?_ | (show AWL _ _ _ (⟨_, .move _, _, _, _, _⟩ :: _) _ _ _; refine awl_pw (wt_none rfl) (pv_move rfl rfl) rfl rfl ?_) | (show AWL _ _ _ (⟨_, .assign _, _, _, _, _⟩ :: _) _ _ _; refine awl_pw (wt_none rfl) (pv_assign rfl rfl) rfl rfl ?_) | (show AWL _ _ _ (⟨_, .binOp .add _ _ _ _, _, _, _, _⟩ :: _) _ _ _; refine awl_pw (wt_none rfl) (pv_add rfl rfl rfl (by first | assumption | exact wr64 (by omega))) rfl rfl ?_) | refine awl_nil ?_)
    refine rnd_n _ _ _ ?_ ⟨n + 1, X', by omega, rfl, hR, rfl, rfl⟩ ssA rcA
    omega
  · rw [or_some c] at hR
    repeat (first | refine awp_seq ?_ | refine awp_region_lit rfl ?_ | refine awp_exit ?_ | with_reducible refine then_n ?_ | with_reducible refine then_x ?_ | with_reducible refine blk_x ?_ | refine blk_y rfl ?_ | refine sco_x ?_ | refine awp_cond_t rfl (by first | rfl | assumption | exact dT (by omega)) ?_ | (show AWL _ _ _ (⟨_, .move _, _, _, _, _⟩ :: _) _ _ _; refine awl_pw (wt_none rfl) (pv_move rfl rfl) rfl rfl ?_) | (show AWL _ _ _ (⟨_, .assign _, _, _, _, _⟩ :: _) _ _ _; refine awl_pw (wt_none rfl) (pv_assign rfl rfl) rfl rfl ?_) | refine awl_nil ?_)
    exact cut_n ⟨X', true, by rw [hR]; exact c, (fun e he => hX' e (by rw [← hR]; exact he)), rfl, rfl⟩ ssA rcA
end Go.Proofs.Ytlpknbneilgjkaa.C
end
