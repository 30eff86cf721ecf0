/- The smallest set of contracts: try and Fewest. Walks. -/
import Derived.Test.YtlpknbneilgjkaaZnRDf
import Derived.Test.YtlpknbneilgjkaaZnGTs
import Derived.Test.YtlpknbneilgjkaaZnRFr
namespace Go.Tl
open Go Go.RowKit
set_option linter.unusedSimpArgs false
set_option linter.unusedVariables false
end Go.Tl
namespace Go.Proofs.Ytlpknbneilgjkaa.R
open Go Go.RowKit Go.Tl
set_option linter.unusedVariables false
set_option linter.unusedSimpArgs false
set_option maxRecDepth 100000
set_option maxHeartbeats 4000000
theorem ext_room {n : Int} : ∀ {t : List Int} {x fr : Int}, Ext n (x :: t) fr → x + t.length + 1 ≤ n
  | [], x, fr, h => by have := (ext_cons.1 h).2.1; simp; omega
  | y :: t, x, fr, h => by
    have h1 := ext_cons.1 h
    have h2 := ext_cons.1 h1.2.2
    have h3 := ext_room h1.2.2
    simp only [List.length_cons]
    omega
inductive TryR (b : BookD) (e : List Int) (fr : Int) (m : Nat) : Bool → AV → AV → Prop
  | no {A D : AV} (h : ∀ t : List Int, t.length = m → Ext b.cons.length t fr → ¬ EnL b (e ++ t)) : TryR b e fr m false A D
  | yes {t : List Int} {f : Nat → Int} (hl : t.length = m) (hx : Ext b.cons.length t fr) (hE : EnL b (e ++ t)) (hD : DelF b (capS b (inL (e ++ t))) f) (hmin : ∀ t' : List Int, t'.length = m → Ext b.cons.length t' fr → EnL b (e ++ t') → ¬ lexL t' t) :
    TryR b e fr m true (.t (intsT true (e ++ t))) (.t (intsT true (digL f b.cons.length)))
structure FewOk (b : BookD) (s : List Int) (f : Nat → Int) : Prop where
  min : MinS b s
  del : DelF b (capS b (inL s)) f
theorem full_ex {b : BookD} (hv : VBook b) : ∃ s, Ext b.cons.length s 0 ∧ EnL b s ∧ s.length ≤ b.cons.length := by
  have hl := hv.len
  have hm : 2 ^ b.cons.length - 1 < 2 ^ b.cons.length := by have := Nat.one_le_two_pow (n := b.cons.length); omega
  have hx := bits_ext hm (by omega)
  refine ⟨bitsL (2 ^ b.cons.length - 1) 16, hx, (enL_bits hv hm).2 (enough_of hv (f := numF b) (del_full hv fun i hi => by rw [Nat.testBit_two_pow_sub_one]; exact decide_eq_true hi)), ?_⟩
  cases e : bitsL (2 ^ b.cons.length - 1) 16 with
  | nil => simp
  | cons x t =>
    rw [e] at hx
    have h1 := ext_room hx
    have h2 := (ext_cons.1 hx).1
    simp only [List.length_cons]
    omega
attribute [local irreducible] AWP AWL AOp PV LV AWT AWE
theorem iclone_o (cp : Bool) (l : List Int) (hl : l.length ≤ 1000) : ACall Try.prog 66 [.t (intsT cp l)] [] (fun r h' => ∃ (a : Option Addr) (c : Nat), r = .v (.slice a l.length c) ∧ h' = [.rw (.slice a l.length c) 3 1 (l.map intRow)]) := by
  refine acall_of_awp T0 Try.func66 rfl rfl rfl ?_
  repeat (first | refine awp_seq ?_ | refine awp_region_lit rfl ?_ | (show AWL _ _ _ (⟨_, .move _, _, _, _, _⟩ :: _) _ _ _; refine awl_pw (wt_none rfl) (pv_move rfl rfl) rfl rfl ?_) | (show AWL _ _ _ (⟨_, .assign _, _, _, _, _⟩ :: _) _ _ _; refine awl_pw (wt_none rfl) (pv_assign rfl rfl) rfl rfl ?_) | refine awl_nil ?_)
  refine awl_hw (wt_none rfl) (aop_isnil T0 rfl rfl rfl rfl rfl ?_)
  intro bb hb
  cases bb
  · repeat (first | refine awp_seq ?_ | refine awp_region_lit rfl ?_ | refine awp_skip ?_ | with_reducible refine then_n ?_ | refine awp_cond_f rfl (by first | rfl | assumption | exact dF (by omega)) ?_ | refine awl_nil ?_)
    refine awl_hw (wt_none rfl) (st_bsl T0 rfl rfl rfl rfl rfl (by solve | repeat' constructor) rfl rfl rfl rfl (by simp only [List.map_cons, List.map_nil, cellsA]; rfl) ?_)
    intro g
    repeat (first | (show AWL _ _ _ (⟨_, .move _, _, _, _, _⟩ :: _) _ _ _; refine awl_pw (wt_none rfl) (pv_move rfl rfl) rfl rfl ?_))
    refine awl_hw (wt_none rfl) (st_appt T0 rfl rfl rfl rfl rfl rfl rfl rfl rfl (by solve | repeat' constructor) (by intro k hk u hu; simp at hu; subst hu; rfl) (rfl : ([] : List (List AV)).length = 0) (by first | omega | (simp; omega)) (fun _ _ => trivial) rfl ?_)
    intro a c p
    repeat (first | refine awp_ret ?_ | (show AWL _ _ _ (⟨_, .assign _, _, _, _, _⟩ :: _) _ _ _; refine awl_pw (wt_none rfl) (pv_assign rfl rfl) rfl rfl ?_) | refine awl_nil ?_)
    simp only [List.nil_append, List.length_nil, Nat.zero_add]
    have hrows : ((List.range l.length).map fun k => List.map AV.ofTr [Tr.sc (.int .i64 (l.getD k 0))]) = l.map intRow := by
      refine List.ext_getElem (by simp) fun k h1 h2 => ?_
      simp at h1 h2
      simp [List.getD_eq_getElem?_getD, h1, AV.ofTr, intRow]
    rw [hrows]
    exact body_r (h' := [.rw (.slice a l.length c) 3 1 (l.map intRow)]) (.cons rfl .nil) (by solve | repeat' constructor) ⟨a, c, rfl, rfl⟩
  · have hl0 : l = [] := by
      refine List.length_eq_zero_iff.1 ?_
      rcases Nat.eq_zero_or_pos l.length with e | e
      · exact e
      · have := hb e; cases this
    subst hl0
    repeat (first | refine awp_seq ?_ | refine awp_region_lit rfl ?_ | refine awp_ret ?_ | with_reducible refine then_n ?_ | with_reducible refine then_r ?_ | refine awp_cond_t rfl (by first | rfl | assumption | exact dT (by omega)) ?_ | (show AWL _ _ _ (⟨_, .assign _, _, _, _, _⟩ :: _) _ _ _; refine awl_pw (wt_none rfl) (pv_assign rfl rfl) rfl rfl ?_) | refine awl_nil ?_)
    refine bodyQ_ghost (ghost_nilrow 3 1) ?_
    exact body_r (h' := [.rw (.slice none 0 0) 3 1 []]) (.cons rfl .nil) (by solve | repeat' constructor) ⟨none, 0, rfl, rfl⟩
abbrev tyE (g1 g2 g3 g6 : Nat) (b : BookD) (cp : Bool) (A D : AV) : List Ent :=
  [.cl g1 99 [intA b.houses, .t (consT cp b.cons)], .cl g2 29 [A], .cl g3 29 [D], .cl g6 179 [.v (.func (.func 64) #[] #[ptrV g1, ptrV g2, ptrV g3, ptrV g6])]]
section
variable {b : BookD} {cp : Bool} {g1 g2 g3 g6 : Nat} {A D : AV} {e : List Int} {i many : Int} {R : Bool → AV → AV → Prop}
theorem dg_8 (hl : e.length ≤ 1000) (hi : -1000 ≤ i ∧ i ≤ 1000) (hm : -1000 ≤ many ∧ many ≤ 1000)
    (hC : ACall Try.prog 64 [.t (.sl true 1 (e.length + 1) (fun q => [.sc (.int .i64 ((e ++ [i]).getD q 0))])), intA (i + 1), intA (many - 1), .v (ptrV g1), .v (ptrV g2), .v (ptrV g3), .v (ptrV g6)] (tyE g1 g2 g3 g6 b cp A D) (fun r h' => ∃ rb A' D', R rb A' D' ∧ r = boolA rb ∧ h' = tyE g1 g2 g3 g6 b cp A' D'))
    {ops : Array Oper} (h : regF Try.f64 8 = some ops) :
    AWP Try.prog Try.f64.ntmps none (.region 8 ops true) (cutQ (fun s h => ∃ rb A' D', R rb A' D' ∧ s = [(45, boolA rb), (0, .t (intsT true e)), (2, intA many), (3, .v (ptrV g1)), (4, .v (ptrV g2)), (5, .v (ptrV g3)), (6, .v (ptrV g6)), (13, intA i)] ∧ h = tyE g1 g2 g3 g6 b cp A' D'))
      [(0, .t (intsT true e)), (2, intA many), (3, .v (ptrV g1)), (4, .v (ptrV g2)), (5, .v (ptrV g3)), (6, .v (ptrV g6)), (13, intA i)] (tyE g1 g2 g3 g6 b cp A D) := by
  cases h
  have hrl : (e.map intRow ++ [intRow i]).length = e.length + 1 := by simp
  have hrt : ∀ k, k < e.length + 1 → (e.map intRow ++ [intRow i]).getD k [] = ((fun q => [Tr.sc (.int .i64 ((e ++ [i]).getD q 0))]) k).map AV.ofTr := fun k hk => by
    have h1 := intRows_tree (e ++ [i]) k (by simp; omega)
    rw [List.map_append] at h1
    exact h1
  refine awp_tree T0 [(0, 1), (1, 0), (3, 0), (6, 0), (7, 0), (8, 0), (9, 0), (2, 2), (4, 2), (5, 2), (10, 3)] (.op 0 1 (.op 1 0 (.op 3 0 (.op 6 0 (.op 7 0 (.op 8 0 (.op 9 0 (.fork 2 (.op 4 2 (.op 5 2 (.op 10 3 .stop))) 4 (.op 2 2 (.op 5 2 (.op 10 3 .stop))))))))))) [.cl g1 _ _, .cl g2 _ _, .cl g3 _ _, .cl g6 _ _] rfl (by kernel_rfl) (by solve | repeat' constructor) ?_
  refine awt_lo rfl (wt_none rfl) (lv_cl1 T0 rfl rfl rfl (by solve | repeat' constructor) (by first | rfl | assumption)) rfl rfl rfl ?_
  refine awt_po rfl (wt_none rfl) (pv_move rfl rfl) rfl rfl ?_
  refine awt_po rfl (wt_none rfl) (pv_move rfl rfl) rfl rfl ?_
  refine awt_po rfl (wt_none rfl) (pv_move rfl rfl) rfl rfl ?_
  refine awt_po rfl (wt_none rfl) (pv_add rfl rfl rfl (by first | assumption | exact wr64 (by omega))) rfl rfl ?_
  refine awt_po rfl (wt_none rfl) (pv_move rfl rfl) rfl rfl ?_
  refine awt_po rfl (wt_none rfl) (pv_sub rfl rfl rfl (by first | assumption | exact wr64 (by omega))) rfl rfl ?_
  refine awt_fork ?_ ?_
  · skip
    refine awt_h (hm := _) rfl (wt_none rfl) ?sub rfl (st_acall T0 (iclone_o true e hl) rfl rfl rfl rfl (by first | exact callee_lit | exact callee_v | exact callee_fn | assumption) (by solve | repeat' constructor) (by first | rfl | assumption) rfl (by first | ((repeat' (first | exact SubH.refl _ | apply SubH.cons | exact Pick.here | apply Pick.there)); all_goals fail) | fail) (fun b hb => hb) ?_)
    case sub => exact (by solve | repeat' constructor)
    rintro r h' ⟨a37, c37, rfl, rfl⟩
    refine awt_h (hm := []) rfl (wt_none rfl) (by solve | repeat' constructor) rfl (st_bsl T0 rfl rfl rfl rfl rfl (by solve | repeat' constructor) rfl rfl rfl rfl (by simp only [List.map_cons, List.map_nil, cellsA]; rfl) ?_)
    intro g39
    refine awt_h (hm := _) rfl (wt_none rfl) ?sub rfl (st_app_o T0 rfl rfl rfl rfl rfl rfl rfl rfl rfl (by solve | repeat' constructor) (by solve | repeat' constructor) rfl rfl (by rw [List.length_map]) (by omega) ?_)
    case sub => exact (by solve | repeat' constructor)
    intro a40 c40 p40
    refine awt_s (md := fun _ => True) rfl (wt_none rfl) (st_acall T0 ((acall_ownG (E := 3) (rows := e.map intRow ++ [intRow i]) hC hrl hrt)) rfl rfl rfl rfl (by first | exact callee_lit | exact callee_v | exact callee_fn | assumption) (by solve | repeat' constructor) (by first | rfl | assumption) rfl (by first | ((repeat' (first | exact SubH.refl _ | apply SubH.cons | exact Pick.here | apply Pick.there)); all_goals fail) | fail) (fun _ _ => trivial) ?_)
    rintro r h' ⟨rb, A', D', hR, rfl, rfl⟩
    refine awe_end ?_
    exact cut_n ⟨rb, A', D', hR, rfl, rfl⟩ (by first | ((repeat' (first | exact True.intro | refine ⟨rfl, ?_⟩)); all_goals fail) | fail) (by solve | repeat' constructor)
  · skip
    refine awt_h (hm := []) rfl (wt_none rfl) (by solve | repeat' constructor) rfl (st_bsl T0 rfl rfl rfl rfl rfl (by solve | repeat' constructor) rfl rfl rfl rfl (by simp only [List.map_cons, List.map_nil, cellsA]; rfl) ?_)
    intro g39
    refine awt_h (hm := _) rfl (wt_none rfl) ?sub rfl (st_acall T0 (iclone_o true e hl) rfl rfl rfl rfl (by first | exact callee_lit | exact callee_v | exact callee_fn | assumption) (by solve | repeat' constructor) (by first | rfl | assumption) rfl (by first | ((repeat' (first | exact SubH.refl _ | apply SubH.cons | exact Pick.here | apply Pick.there)); all_goals fail) | fail) (fun b hb => hb) ?_)
    case sub => exact (by solve | repeat' constructor)
    rintro r h' ⟨a37, c37, rfl, rfl⟩
    refine awt_h (hm := _) rfl (wt_none rfl) ?sub rfl (st_app_o T0 rfl rfl rfl rfl rfl rfl rfl rfl rfl (by solve | repeat' constructor) (by solve | repeat' constructor) rfl rfl (by rw [List.length_map]) (by omega) ?_)
    case sub => exact (by solve | repeat' constructor)
    intro a40 c40 p40
    refine awt_s (md := fun _ => True) rfl (wt_none rfl) (st_acall T0 ((acall_ownG (E := 3) (rows := e.map intRow ++ [intRow i]) hC hrl hrt)) rfl rfl rfl rfl (by first | exact callee_lit | exact callee_v | exact callee_fn | assumption) (by solve | repeat' constructor) (by first | rfl | assumption) rfl (by first | ((repeat' (first | exact SubH.refl _ | apply SubH.cons | exact Pick.here | apply Pick.there)); all_goals fail) | fail) (fun _ _ => trivial) ?_)
    rintro r h' ⟨rb, A', D', hR, rfl, rfl⟩
    refine awe_end ?_
    exact cut_n ⟨rb, A', D', hR, rfl, rfl⟩ (by first | ((repeat' (first | exact True.intro | refine ⟨rfl, ?_⟩)); all_goals fail) | fail) (by solve | repeat' constructor)
end
theorem try_p (g1 g2 g3 g6 : Nat) (b : BookD) (cp : Bool) (hv : VBook b) : ∀ (m : Nat) (e : List Int) (fr : Int) (A D : AV), 0 ≤ fr → fr ≤ 100 → (∀ x ∈ e, 0 ≤ x ∧ x < b.cons.length) → e.length + m ≤ 20 →
    ACall Try.prog 64 [.t (intsT true e), intA fr, intA m, .v (ptrV g1), .v (ptrV g2), .v (ptrV g3), .v (ptrV g6)] (tyE g1 g2 g3 g6 b cp A D) (fun r h' => ∃ rb A' D', TryR b e fr m rb A' D' ∧ r = boolA rb ∧ h' = tyE g1 g2 g3 g6 b cp A' D') := by
  have hlen := hv.len
  intro m
  induction m with
  | zero =>
    intro e fr A D h0 h1 he hl
    have hap : e ++ [] = e := List.append_nil e
    refine acall_of_awp T0 Try.func64 rfl rfl rfl ?_
    repeat (first | refine awp_seq ?_ | refine awp_region_lit rfl ?_ | with_reducible refine then_n ?_ | refine awp_cond_t rfl (by first | rfl | assumption | exact dT (by omega)) ?_ | (show AWL _ _ _ (⟨_, .move _, _, _, _, _⟩ :: _) _ _ _; refine awl_pw (wt_none rfl) (pv_move rfl rfl) rfl rfl ?_) | (show AWL _ _ _ (⟨_, .assign _, _, _, _, _⟩ :: _) _ _ _; refine awl_pw (wt_none rfl) (pv_assign rfl rfl) rfl rfl ?_) | (show AWL _ _ _ (⟨_, .load _ _, _, _, _, _⟩ :: _) _ _ _; refine awl_lw (wt_none rfl) (lv_cla T0 rfl rfl rfl (by solve | repeat' constructor) rfl) rfl rfl rfl ?_) | (show AWL _ _ _ (⟨_, .binOp .eql _ _ _ _, _, _, _, _⟩ :: _) _ _ _; refine awl_pw (wt_none rfl) (pv_eql rfl rfl rfl) rfl rfl ?_) | refine awl_nil ?_)
    refine awl_hw (wt_none rfl) (st_call T0 (deliver_p cp true b e hv he (by omega)) rfl rfl rfl rfl (by first | exact callee_lit | exact callee_v | exact callee_fn | assumption) (by solve | repeat' constructor) (by first | rfl | assumption) rfl ?_)
    rintro r (⟨f, hD, rfl⟩ | ⟨hE, rfl⟩)
    · repeat (first | refine awp_seq ?_ | refine awp_region_lit rfl ?_ | refine awp_ret ?_ | with_reducible refine then_r ?_ | (show AWL _ _ _ (⟨_, .move _, _, _, _, _⟩ :: _) _ _ _; refine awl_pw (wt_none rfl) (pv_move rfl rfl) rfl rfl ?_) | (show AWL _ _ _ (⟨_, .assign _, _, _, _, _⟩ :: _) _ _ _; refine awl_pw (wt_none rfl) (pv_assign rfl rfl) rfl rfl ?_) | (show AWL _ _ _ (⟨_, .extract _ _, _, _, _, _⟩ :: _) _ _ _; refine awl_pw (wt_none rfl) (pv_extract rfl rfl rfl) rfl rfl ?_) | (show AWL _ _ _ (⟨_, .store _ _ _, _, _, _, _⟩ :: _) _ _ _; refine awl_hw (wt_none rfl) (st_store T0 rfl rfl rfl rfl rfl (by first | assumption | (simp only [cellsA]; rfl)) rfl rfl rfl (by solve | repeat' constructor) (by solve | repeat' constructor) trivial ?_)) | refine awl_nil ?_)
      refine body_r (h' := tyE g1 g2 g3 g6 b cp (.t (intsT true e)) (.t (intsT true (digL f b.cons.length)))) (.cons rfl .nil) (by solve | repeat' constructor) ⟨true, _, _, ?_, rfl, rfl⟩
      have := TryR.yes (b := b) (e := e) (fr := fr) (m := 0) (t := []) (f := f) rfl ext_nil (by rw [hap]; exact enough_of hv hD) (by rw [hap]; exact hD) (fun t' ht' _ _ h => by
        rw [List.length_eq_zero_iff.1 ht'] at h; exact h)
      rwa [hap] at this
    · repeat (first | refine awp_seq ?_ | refine awp_region_lit rfl ?_ | refine awp_ret ?_ | with_reducible refine then_r ?_ | (show AWL _ _ _ (⟨_, .move _, _, _, _, _⟩ :: _) _ _ _; refine awl_pw (wt_none rfl) (pv_move rfl rfl) rfl rfl ?_) | (show AWL _ _ _ (⟨_, .assign _, _, _, _, _⟩ :: _) _ _ _; refine awl_pw (wt_none rfl) (pv_assign rfl rfl) rfl rfl ?_) | (show AWL _ _ _ (⟨_, .extract _ _, _, _, _, _⟩ :: _) _ _ _; refine awl_pw (wt_none rfl) (pv_extract rfl rfl rfl) rfl rfl ?_) | (show AWL _ _ _ (⟨_, .store _ _ _, _, _, _, _⟩ :: _) _ _ _; refine awl_hw (wt_none rfl) (st_store T0 rfl rfl rfl rfl rfl (by first | assumption | (simp only [cellsA]; rfl)) rfl rfl rfl (by solve | repeat' constructor) (by solve | repeat' constructor) trivial ?_)) | refine awl_nil ?_)
      refine body_r (h' := tyE g1 g2 g3 g6 b cp (.t (intsT true e)) noneA) (.cons rfl .nil) (by solve | repeat' constructor) ⟨false, _, _, .no fun t ht _ h => ?_, rfl, rfl⟩
      rw [List.length_eq_zero_iff.1 ht, hap] at h
      exact hE h
  | succ m ih =>
    intro e fr A D h0 h1 he hl
    refine acall_of_awp T0 Try.func64 rfl rfl rfl ?_
    repeat (first | refine awp_seq ?_ | refine awp_block ?_ | refine awp_region_lit rfl ?_ | refine awp_skip ?_ | with_reducible refine then_n ?_ | refine awp_cond_f rfl (by first | rfl | assumption | exact dF (by omega)) ?_ | (show AWL _ _ _ (⟨_, .move _, _, _, _, _⟩ :: _) _ _ _; refine awl_pw (wt_none rfl) (pv_move rfl rfl) rfl rfl ?_) | (show AWL _ _ _ (⟨_, .assign _, _, _, _, _⟩ :: _) _ _ _; refine awl_pw (wt_none rfl) (pv_assign rfl rfl) rfl rfl ?_) | (show AWL _ _ _ (⟨_, .binOp .eql _ _ _ _, _, _, _, _⟩ :: _) _ _ _; refine awl_pw (wt_none rfl) (pv_eql rfl rfl rfl) rfl rfl ?_) | refine awl_nil ?_)
    refine awp_loop (fun q s h => ∃ (i : Int) (A D : AV), fr ≤ i ∧ i ≤ 200 ∧ q = (200 - i).toNat ∧ (∀ (x : Int) (t : List Int), t.length = m → Ext b.cons.length (x :: t) fr → x < i → ¬ EnL b (e ++ x :: t)) ∧
      s = [(0, .t (intsT true e)), (2, intA ((m + 1 : Nat) : Int)), (3, .v (ptrV g1)), (4, .v (ptrV g2)), (5, .v (ptrV g3)), (6, .v (ptrV g6)), (13, intA i)] ∧ h = tyE g1 g2 g3 g6 b cp A D) ?_
      ⟨fr, A, D, Int.le_refl _, by omega, rfl, (fun x t _ hx hlt => by have := (ext_cons.1 hx).1; omega), rfl, rfl⟩ (by first | ((repeat' (first | exact True.intro | refine ⟨rfl, ?_⟩)); all_goals fail) | fail) (by solve | repeat' constructor)
    clear A D
    rintro q s h ⟨i, A, D, hfi, hi2, rfl, hno, rfl, rfl⟩
    by_cases hlt : i ≤ (b.cons.length : Int) - ((m + 1 : Nat) : Int)
    case neg =>
      have d1 := decide_eq_false hlt
      repeat (first | refine awp_seq ?_ | refine awp_region_lit rfl ?_ | refine awp_exit ?_ | refine awp_ret ?_ | with_reducible refine then_n ?_ | refine awp_cond_f rfl (by first | rfl | assumption | exact dF (by omega)) ?_ | (show AWL _ _ _ (⟨_, .move _, _, _, _, _⟩ :: _) _ _ _; refine awl_pw (wt_none rfl) (pv_move rfl rfl) rfl rfl ?_) | (show AWL _ _ _ (⟨_, .assign _, _, _, _, _⟩ :: _) _ _ _; refine awl_pw (wt_none rfl) (pv_assign rfl rfl) rfl rfl ?_) | (show AWL _ _ _ (⟨_, .load _ _, _, _, _, _⟩ :: _) _ _ _; refine awl_lw (wt_none rfl) (lv_cl1 T0 rfl rfl rfl (by solve | repeat' constructor) (by first | rfl | assumption)) rfl rfl rfl ?_) | (show AWL _ _ _ (⟨_, .fieldAddr _ _ _, _, _, _, _⟩ :: _) _ _ _; refine awl_pw (wt_none rfl) (pv_fa T0 rfl rfl rfl (by simp; rfl)) rfl rfl ?_) | (show AWL _ _ _ (⟨_, .binOp .sub _ _ _ _, _, _, _, _⟩ :: _) _ _ _; refine awl_pw (wt_none rfl) (pv_sub rfl rfl rfl (by first | assumption | exact wr64 (by omega))) rfl rfl ?_) | (show AWL _ _ _ (⟨_, .binOp .leq _ _ _ _, _, _, _, _⟩ :: _) _ _ _; refine awl_pw (wt_none rfl) (pv_leq rfl rfl rfl) rfl rfl ?_) | (show AWL _ _ _ (⟨_, .call ⟨.builtin .len, _, _⟩, _, _, _, _⟩ :: _) _ _ _; refine awl_pw (wt_none rfl) (pv_len_t T0 rfl rfl rfl) rfl rfl ?_) | refine awl_nil ?_)
      refine body_r (h' := tyE g1 g2 g3 g6 b cp A D) (.cons rfl .nil) (by solve | repeat' constructor) ⟨false, A, D, .no fun t ht hx => ?_, rfl, rfl⟩
      cases t with
      | nil => cases ht
      | cons x t =>
        have h3 := ext_room hx
        have ht' : t.length = m := by simpa using ht
        exact hno x t ht' hx (by omega)
    have d1 := decide_eq_true hlt
    have hap : ∀ t : List Int, (e ++ [i]) ++ t = e ++ i :: t := fun t => by simp
    have hel : (e ++ [i]).length = e.length + 1 := by simp
    have hC := ih (e ++ [i]) (i + 1) A D (by omega) (by omega) (fun x hx => by
      rcases List.mem_append.1 hx with hx | hx
      · exact he x hx
      · have := List.mem_singleton.1 hx; omega) (by omega)
    have eT : intsT true (e ++ [i]) = Tr.sl true 1 (e.length + 1) (fun q => [.sc (.int .i64 ((e ++ [i]).getD q 0))]) := by rw [← hel]; rfl
    have eM : ((m : Nat) : Int) = ((m + 1 : Nat) : Int) - 1 := by omega
    rw [eT, eM] at hC
    repeat (first | refine awp_seq ?_ | refine awp_block ?_ | refine awp_region_lit rfl ?_ | refine awp_skip ?_ | with_reducible refine then_n ?_ | refine awp_cond_t rfl (by first | rfl | assumption | exact dT (by omega)) ?_ | (show AWL _ _ _ (⟨_, .move _, _, _, _, _⟩ :: _) _ _ _; refine awl_pw (wt_none rfl) (pv_move rfl rfl) rfl rfl ?_) | (show AWL _ _ _ (⟨_, .load _ _, _, _, _, _⟩ :: _) _ _ _; refine awl_lw (wt_none rfl) (lv_cl1 T0 rfl rfl rfl (by solve | repeat' constructor) (by first | rfl | assumption)) rfl rfl rfl ?_) | (show AWL _ _ _ (⟨_, .fieldAddr _ _ _, _, _, _, _⟩ :: _) _ _ _; refine awl_pw (wt_none rfl) (pv_fa T0 rfl rfl rfl (by simp; rfl)) rfl rfl ?_) | (show AWL _ _ _ (⟨_, .binOp .sub _ _ _ _, _, _, _, _⟩ :: _) _ _ _; refine awl_pw (wt_none rfl) (pv_sub rfl rfl rfl (by first | assumption | exact wr64 (by omega))) rfl rfl ?_) | (show AWL _ _ _ (⟨_, .binOp .leq _ _ _ _, _, _, _, _⟩ :: _) _ _ _; refine awl_pw (wt_none rfl) (pv_leq rfl rfl rfl) rfl rfl ?_) | (show AWL _ _ _ (⟨_, .call ⟨.builtin .len, _, _⟩, _, _, _, _⟩ :: _) _ _ _; refine awl_pw (wt_none rfl) (pv_len_t T0 rfl rfl rfl) rfl rfl ?_) | refine awl_nil ?_)
    refine awp_cut _ (awp_weak (by first | ((repeat' (first | exact True.intro | refine ⟨rfl, ?_⟩)); all_goals fail) | fail) (by solve | repeat' constructor) (dg_8 (b := b) (cp := cp) (g1 := g1) (g2 := g2) (g3 := g3) (g6 := g6) (A := A) (D := D) (e := e) (i := i) (many := ((m + 1 : Nat) : Int)) (by omega) (by omega) (by omega) hC rfl)) ?_
    rintro s h ⟨rb, A', D', hR, rfl, rfl⟩
    cases hR with
    | no hR =>
      repeat (first | refine awp_region_lit rfl ?_ | refine awp_skip ?_ | refine awp_cond_f rfl (by first | rfl | assumption | exact dF (by omega)) ?_ | (show AWL _ _ _ (⟨_, .move _, _, _, _, _⟩ :: _) _ _ _; refine awl_pw (wt_none rfl) (pv_move rfl rfl) rfl rfl ?_) | (show AWL _ _ _ (⟨_, .assign _, _, _, _, _⟩ :: _) _ _ _; refine awl_pw (wt_none rfl) (pv_assign rfl rfl) rfl rfl ?_) | (show AWL _ _ _ (⟨_, .binOp .add _ _ _ _, _, _, _, _⟩ :: _) _ _ _; refine awl_pw (wt_none rfl) (pv_add rfl rfl rfl (by first | assumption | exact wr64 (by omega))) rfl rfl ?_) | refine awl_nil ?_)
      refine rnd_n _ _ _ ?_ ⟨i + 1, A', D', by omega, by omega, rfl, fun x t ht hx hxi => ?_, rfl, rfl⟩ (by first | ((repeat' (first | exact True.intro | refine ⟨rfl, ?_⟩)); all_goals fail) | fail) (by solve | repeat' constructor)
      · omega
      · by_cases c : x = i
        · subst c
          rw [← hap]
          exact hR t ht (ext_cons.1 hx).2.2
        · exact hno x t ht hx (by omega)
    | @yes t f hl' hx hE hD hmin =>
      repeat (first | refine awp_seq ?_ | refine awp_region_lit rfl ?_ | refine awp_ret ?_ | with_reducible refine then_r ?_ | with_reducible refine blk_r ?_ | refine sco_r ?_ | refine awp_cond_t rfl (by first | rfl | assumption | exact dT (by omega)) ?_ | (show AWL _ _ _ (⟨_, .assign _, _, _, _, _⟩ :: _) _ _ _; refine awl_pw (wt_none rfl) (pv_assign rfl rfl) rfl rfl ?_) | refine awl_nil ?_)
      refine body_r (h' := tyE g1 g2 g3 g6 b cp (.t (intsT true ((e ++ [i]) ++ t))) (.t (intsT true (digL f b.cons.length)))) (.cons rfl .nil) (by solve | repeat' constructor) ⟨true, _, _, ?_, rfl, rfl⟩
      rw [hap] at hE hD ⊢
      refine .yes (t := i :: t) (by simp [hl']) (ext_cons.2 ⟨hfi, by omega, hx⟩) hE hD fun t' ht' hx' hE' hlex => ?_
      cases t' with
      | nil => cases ht'
      | cons x t2 =>
        have ht2 : t2.length = m := by simpa using ht'
        rcases hlex with h3 | ⟨h3, h4⟩
        · exact hno x t2 ht2 hx' h3 hE'
        · subst h3
          rw [← hap] at hE'
          exact hmin t2 ht2 (ext_cons.1 hx').2.2 hE' h4
section
variable {g2 g3 : Nat} {x y : List Int} {u : AV}
theorem dg_11 {ops : Array Oper} (h : regF Try.f27 11 = some ops) :
    AWP Try.prog Try.f27.ntmps none (.region 11 ops true) (cutQ (fun s h => s = [(4, intA 0), (2, .v (ptrV g2)), (3, .v (ptrV g3))] ∧ h = [.cl g2 29 [.t (intsT true x)], .cl g3 29 [.t (intsT true y)]]))
      [(2, .v (ptrV g2)), (3, .v (ptrV g3)), (4, u)] ([.cl g2 29 [.t (intsT true x)], .cl g3 29 [.t (intsT true y)]]) := by
  cases h
  refine awp_tree T0 [(0, 3), (1, 3), (2, 3), (3, 3), (4, 0)] (.fork 0 (.fork 1 (.op 2 3 (.op 3 3 (.op 4 0 .stop))) 2 (.op 1 3 (.op 3 3 (.op 4 0 .stop)))) 1 (.op 0 3 (.op 2 3 (.op 3 3 (.op 4 0 .stop))))) [] rfl (by kernel_rfl) (by solve | repeat' constructor) ?_
  refine awt_fork ?_ ?_
  · skip
    refine awt_h (hm := []) rfl (wt_none rfl) (by solve | repeat' constructor) rfl (aop_lv (lv_cl1 T0 rfl rfl rfl (by solve | repeat' constructor) rfl) rfl (blt_lt rfl) ?_)
    refine awt_fork ?_ ?_
    · skip
      refine awt_h (hm := []) rfl (wt_none rfl) (by solve | repeat' constructor) rfl (aop_lv (lv_cl1 T0 rfl rfl rfl (by solve | repeat' constructor) rfl) rfl (blt_lt rfl) ?_)
      refine awt_s (md := fun _ => True) rfl (wt_none rfl) (st_store T0 rfl rfl rfl rfl rfl (by first | assumption | (simp only [cellsA]; rfl)) rfl rfl rfl (by solve | repeat' constructor) (by solve | repeat' constructor) trivial ?_)
      refine awe_s (md := fun _ => True) rfl (wt_none rfl) (st_store T0 rfl rfl rfl rfl rfl (by first | assumption | (simp only [cellsA]; rfl)) rfl rfl rfl (by solve | repeat' constructor) (by solve | repeat' constructor) trivial ?_)
      refine awe_p rfl (wt_none rfl) (pv_assign rfl rfl) rfl rfl ?_
      refine awe_end ?_
      exact cut_n ⟨rfl, rfl⟩ (by first | ((repeat' (first | exact True.intro | refine ⟨rfl, ?_⟩)); all_goals fail) | fail) (by solve | repeat' constructor)
    · skip
      refine awt_h (hm := _) rfl (wt_none rfl) ?sub rfl (st_store_o T0 rfl rfl rfl rfl rfl (by first | assumption | (simp only [cellsA]; rfl)) rfl rfl rfl (by solve | repeat' constructor) (by solve | repeat' constructor) ?_)
      case sub => exact (by solve | repeat' constructor)
      refine awt_s (md := fun _ => True) rfl (wt_none rfl) (aop_lv (lv_cl1 T0 rfl rfl rfl (by solve | repeat' constructor) rfl) rfl (blt_lt rfl) ?_)
      refine awe_s (md := fun _ => True) rfl (wt_none rfl) (st_store T0 rfl rfl rfl rfl rfl (by first | assumption | (simp only [cellsA]; rfl)) rfl rfl rfl (by solve | repeat' constructor) (by solve | repeat' constructor) trivial ?_)
      refine awe_p rfl (wt_none rfl) (pv_assign rfl rfl) rfl rfl ?_
      refine awe_end ?_
      exact cut_n ⟨rfl, rfl⟩ (by first | ((repeat' (first | exact True.intro | refine ⟨rfl, ?_⟩)); all_goals fail) | fail) (by solve | repeat' constructor)
  · skip
    refine awt_h (hm := []) rfl (wt_none rfl) (by solve | repeat' constructor) rfl (aop_lv (lv_cl1 T0 rfl rfl rfl (by solve | repeat' constructor) rfl) rfl (blt_lt rfl) ?_)
    refine awt_s (md := fun _ => True) rfl (wt_none rfl) (aop_lv (lv_cl1 T0 rfl rfl rfl (by solve | repeat' constructor) rfl) rfl (blt_lt rfl) ?_)
    refine awe_s (md := fun _ => True) rfl (wt_none rfl) (st_store T0 rfl rfl rfl rfl rfl (by first | assumption | (simp only [cellsA]; rfl)) rfl rfl rfl (by solve | repeat' constructor) (by solve | repeat' constructor) trivial ?_)
    refine awe_s (md := fun _ => True) rfl (wt_none rfl) (st_store T0 rfl rfl rfl rfl rfl (by first | assumption | (simp only [cellsA]; rfl)) rfl rfl rfl (by solve | repeat' constructor) (by solve | repeat' constructor) trivial ?_)
    refine awe_p rfl (wt_none rfl) (pv_assign rfl rfl) rfl rfl ?_
    refine awe_end ?_
    exact cut_n ⟨rfl, rfl⟩ (by first | ((repeat' (first | exact True.intro | refine ⟨rfl, ?_⟩)); all_goals fail) | fail) (by solve | repeat' constructor)
end
theorem fewest_p (cp : Bool) (b : BookD) (hl : b.cons.length ≤ 1000) : PCall Try.prog 27 [bookA cp b] (fun r => if faultN b = 0 then ∃ s f, FewOk b s f ∧ r = .tup [.t (intsT true s), .t (intsT true (digL f b.cons.length)), intA 0] else r = .tup [noneA, noneA, intA (faultN b)]) := by
  refine acall_of_awp T0 Try.func27 rfl rfl rfl ?_
  repeat (first | refine awp_seq ?_ | refine awp_region_lit rfl ?_)
  refine awl_hw (wt_none rfl) (st_box rfl rfl (by first | rfl | assumption) (by first | assumption | (simp only [cellsA]; rfl)) rfl rfl ?_)
  intro g1
  skip
  refine awl_hw (wt_none rfl) (st_alloc T0 rfl rfl rfl rfl (by simp only [Value.cells, List.toList_toArray, List.map_cons, List.map_nil]; rfl) ?_)
  intro g2
  skip
  refine awl_hw (wt_none rfl) (st_alloc T0 rfl rfl rfl rfl (by simp only [Value.cells, List.toList_toArray, List.map_cons, List.map_nil]; rfl) ?_)
  intro g3
  repeat (first | refine awp_seq ?_ | refine awp_region_lit rfl ?_ | refine awp_scope ?_ | (show AWL _ _ _ (⟨_, .assign _, _, _, _, _⟩ :: _) _ _ _; refine awl_pw (wt_none rfl) (pv_assign rfl rfl) rfl rfl ?_) | (show AWL _ _ _ (⟨_, .load _ _, _, _, _, _⟩ :: _) _ _ _; refine awl_lw (wt_none rfl) (lv_cla T0 rfl rfl rfl (by solve | repeat' constructor) rfl) rfl rfl rfl ?_) | refine awl_nil ?_)
  refine awl_hw (wt_none rfl) (st_call T0 (check_p cp b hl) rfl rfl rfl rfl (by first | exact callee_lit | exact callee_v | exact callee_fn | assumption) (by solve | repeat' constructor) (by first | rfl | assumption) rfl ?_)
  rintro _ rfl
  by_cases hf : faultN b = 0
  case neg =>
    have d1 : decide (faultN b ≠ 0) = true := decide_eq_true hf
    repeat (first | refine awp_seq ?_ | refine awp_region_lit rfl ?_ | refine awp_ret ?_ | with_reducible refine then_n ?_ | with_reducible refine then_r ?_ | refine sco_r ?_ | refine awp_cond_t rfl (by first | rfl | assumption | exact dT (by omega)) ?_ | (show AWL _ _ _ (⟨_, .move _, _, _, _, _⟩ :: _) _ _ _; refine awl_pw (wt_none rfl) (pv_move rfl rfl) rfl rfl ?_) | (show AWL _ _ _ (⟨_, .assign _, _, _, _, _⟩ :: _) _ _ _; refine awl_pw (wt_none rfl) (pv_assign rfl rfl) rfl rfl ?_) | (show AWL _ _ _ (⟨_, .binOp .neq _ _ _ _, _, _, _, _⟩ :: _) _ _ _; refine awl_pw (wt_none rfl) (pv_neq rfl rfl rfl) rfl rfl ?_) | (show AWL _ _ _ (⟨_, .store _ _ _, _, _, _, _⟩ :: _) _ _ _; refine awl_hw (wt_none rfl) (st_store T0 rfl rfl rfl rfl rfl (by first | assumption | (simp only [cellsA]; rfl)) rfl rfl rfl (by solve | repeat' constructor) (by solve | repeat' constructor) trivial ?_)) | refine awl_nil ?_)
    refine body_p (.cons ⟨g2, _, _, _, _, rfl, rfl, (by solve | repeat' constructor), by simp, .inr rfl, rfl⟩ (.cons ⟨g3, _, _, _, _, rfl, rfl, (by solve | repeat' constructor), by simp, .inr rfl, rfl⟩ (.cons rfl .nil))) ?_
    rw [if_neg hf]; rfl
  have hv := vbook hf
  have hlen := hv.len
  obtain ⟨sf, hsx, hsE, hsl⟩ := full_ex hv
  simp only [if_pos hf]
  rw [hf]
  repeat (first | refine awp_seq ?_ | refine awp_region_lit rfl ?_ | refine awp_skip ?_ | with_reducible refine then_n ?_ | refine awp_cond_f rfl (by first | rfl | assumption | exact dF (by omega)) ?_ | (show AWL _ _ _ (⟨_, .move _, _, _, _, _⟩ :: _) _ _ _; refine awl_pw (wt_none rfl) (pv_move rfl rfl) rfl rfl ?_) | (show AWL _ _ _ (⟨_, .assign _, _, _, _, _⟩ :: _) _ _ _; refine awl_pw (wt_none rfl) (pv_assign rfl rfl) rfl rfl ?_) | (show AWL _ _ _ (⟨_, .binOp .neq _ _ _ _, _, _, _, _⟩ :: _) _ _ _; refine awl_pw (wt_none rfl) (pv_neq rfl rfl rfl) rfl rfl ?_) | refine awl_nil ?_)
  refine awl_hw (wt_none rfl) (st_alloc T0 rfl rfl rfl rfl (by simp only [Value.cells, List.toList_toArray, List.map_cons, List.map_nil]; rfl) ?_)
  intro g6
  repeat (first | refine awp_seq ?_ | refine awp_region_lit rfl ?_ | refine awl_nil ?_)
  refine awl_pw (wt_none rfl) (pv_makeFunc_v (fs := []) (cs := [ptrV g1, ptrV g2, ptrV g3, ptrV g6]) rfl rfl rfl) rfl rfl ?_
  repeat (first | refine awp_seq ?_ | refine awp_block ?_ | refine awp_region_lit rfl ?_ | refine awp_label ?_ | (show AWL _ _ _ (⟨_, .move _, _, _, _, _⟩ :: _) _ _ _; refine awl_pw (wt_none rfl) (pv_move rfl rfl) rfl rfl ?_) | (show AWL _ _ _ (⟨_, .load _ _, _, _, _, _⟩ :: _) _ _ _; refine awl_lw (wt_none rfl) (lv_cl1 T0 rfl rfl rfl (by solve | repeat' constructor) (by first | rfl | assumption)) rfl rfl rfl ?_) | (show AWL _ _ _ (⟨_, .fieldAddr _ _ _, _, _, _, _⟩ :: _) _ _ _; refine awl_pw (wt_none rfl) (pv_fa T0 rfl rfl rfl (by simp; rfl)) rfl rfl ?_) | (show AWL _ _ _ (⟨_, .binOp .add _ _ _ _, _, _, _, _⟩ :: _) _ _ _; refine awl_pw (wt_none rfl) (pv_add rfl rfl rfl (by first | assumption | exact wr64 (by omega))) rfl rfl ?_) | (show AWL _ _ _ (⟨_, .call ⟨.builtin .len, _, _⟩, _, _, _, _⟩ :: _) _ _ _; refine awl_pw (wt_none rfl) (pv_len_t T0 rfl rfl rfl) rfl rfl ?_) | (show AWL _ _ _ (⟨_, .store _ _ _, _, _, _, _⟩ :: _) _ _ _; refine awl_hw (wt_none rfl) (st_store T0 rfl rfl rfl rfl rfl (by first | assumption | (simp only [cellsA]; rfl)) rfl rfl rfl (by solve | repeat' constructor) (by solve | repeat' constructor) trivial ?_)) | refine awl_nil ?_)
  refine awp_loop (fun q s h => ∃ (k : Nat) (A D : AV), k ≤ b.cons.length + 1 ∧ q = b.cons.length + 1 - k ∧ (∀ t : List Int, t.length < k → Ext b.cons.length t 0 → ¬ EnL b t) ∧
    s = [(2, .v (ptrV g2)), (3, .v (ptrV g3)), (4, intA 0), (6, .v (ptrV g6)), (17, intA ((b.cons.length : Int) + 1)), (18, intA k)] ∧ h = tyE g1 g2 g3 g6 b cp A D) ?_
    ⟨0, _, _, Nat.zero_le _, rfl, (fun t ht => absurd ht (Nat.not_lt_zero _)), rfl, rfl⟩ (by first | ((repeat' (first | exact True.intro | refine ⟨rfl, ?_⟩)); all_goals fail) | fail) (by solve | repeat' constructor)
  rintro q s h ⟨k, A, D, hk, rfl, hno, rfl, rfl⟩
  by_cases hlt : k < b.cons.length + 1
  case neg => exact absurd hsE (hno sf (by omega) hsx)
  have hC := acall_nilG (try_p g1 g2 g3 g6 b cp hv k [] 0 A D (Int.le_refl _) (by omega) (fun x hx => by cases hx) (by simp; omega))
  repeat (first | refine awp_seq ?_ | refine awp_block ?_ | refine awp_region_lit rfl ?_ | refine awp_skip ?_ | refine awp_cond_t rfl (by first | rfl | assumption | exact dT (by omega)) ?_ | (show AWL _ _ _ (⟨_, .move _, _, _, _, _⟩ :: _) _ _ _; refine awl_pw (wt_none rfl) (pv_move rfl rfl) rfl rfl ?_) | (show AWL _ _ _ (⟨_, .assign _, _, _, _, _⟩ :: _) _ _ _; refine awl_pw (wt_none rfl) (pv_assign rfl rfl) rfl rfl ?_) | (show AWL _ _ _ (⟨_, .load _ _, _, _, _, _⟩ :: _) _ _ _; refine awl_lw (wt_none rfl) (lv_cl1 T0 rfl rfl rfl (by solve | repeat' constructor) (by first | rfl | assumption)) rfl rfl rfl ?_) | (show AWL _ _ _ (⟨_, .binOp .lss _ _ _ _, _, _, _, _⟩ :: _) _ _ _; refine awl_pw (wt_none rfl) (pv_lss rfl rfl rfl) rfl rfl ?_) | refine awl_nil ?_)
  refine awl_hw (wt_none rfl) (st_acall T0 (hC) rfl rfl rfl rfl (by first | exact callee_lit | exact callee_v | exact callee_fn | assumption) (by solve | repeat' constructor) (by first | rfl | assumption) rfl (by first | ((repeat' (first | exact SubH.refl _ | apply SubH.cons | exact Pick.here | apply Pick.there)); all_goals fail) | fail) (fun _ _ => trivial) ?_)
  rintro r h ⟨rb, A', D', hR, rfl, rfl⟩
  simp only [List.cons_append, List.nil_append]
  cases hR with
  | no hR =>
    repeat (first | refine awp_region_lit rfl ?_ | refine awp_skip ?_ | with_reducible refine then_n ?_ | refine awp_cond_f rfl (by first | rfl | assumption | exact dF (by omega)) ?_ | (show AWL _ _ _ (⟨_, .move _, _, _, _, _⟩ :: _) _ _ _; refine awl_pw (wt_none rfl) (pv_move rfl rfl) rfl rfl ?_) | (show AWL _ _ _ (⟨_, .binOp .add _ _ _ _, _, _, _, _⟩ :: _) _ _ _; refine awl_pw (wt_none rfl) (pv_add rfl rfl rfl (by first | assumption | exact wr64 (by omega))) rfl rfl ?_) | refine awl_nil ?_)
    refine rnd_n _ _ _ ?_ ⟨k + 1, A', D', by omega, rfl, fun t ht hx => ?_, rfl, rfl⟩ (by first | ((repeat' (first | exact True.intro | refine ⟨rfl, ?_⟩)); all_goals fail) | fail) (by solve | repeat' constructor)
    · omega
    · by_cases c : t.length = k
      · exact hR t c hx
      · exact hno t (by omega) hx
  | @yes t f hl' hx hE hD hmin =>
    simp only [List.nil_append] at hE hD hmin
    repeat (first | refine awp_seq ?_ | refine awp_exit ?_ | with_reducible refine then_n ?_ | refine awp_cond_t rfl (by first | rfl | assumption | exact dT (by omega)) ?_ | refine awl_nil ?_)
    refine awp_cut _ (awp_weak (by first | ((repeat' (first | exact True.intro | refine ⟨rfl, ?_⟩)); all_goals fail) | fail) (by solve | repeat' constructor) (dg_11 (g2 := g2) (g3 := g3) (x := t) (y := digL f b.cons.length) (u := intA 0) rfl)) ?_
    rintro s h ⟨rfl, rfl⟩
    repeat (first | refine awp_ret ?_ | refine sco_r ?_)
    refine body_p (.cons ⟨g2, _, _, _, _, rfl, rfl, (by solve | repeat' constructor), by simp, .inr rfl, rfl⟩ (.cons ⟨g3, _, _, _, _, rfl, rfl, (by solve | repeat' constructor), by simp, .inr rfl, rfl⟩ (.cons rfl .nil))) ⟨t, f, ⟨⟨hx, hE, fun e he hE' hls => ?_⟩, hD⟩, rfl⟩
    rcases hls with h3 | ⟨h3, h4⟩
    · exact hno e (by omega) he hE'
    · exact hmin e (by omega) he hE' h4
end Go.Proofs.Ytlpknbneilgjkaa.R
