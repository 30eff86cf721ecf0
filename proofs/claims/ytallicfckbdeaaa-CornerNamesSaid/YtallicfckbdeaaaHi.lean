/- The houses are sorted by what they ask: plain, and walks. -/
import Derived.Test.YtallicfckbdeaaaGHc
import Derived.Test.YtallicfckbdeaaaGTy
namespace Go.Proofs.Ytallicfckbdeaaa
open Go Go.RowKit Go.Tl
set_option linter.unusedVariables false
set_option linter.unusedSimpArgs false
set_option maxRecDepth 100000
set_option maxHeartbeats 4000000
/-- which of two houses is cheaper, or as cheap and first -/
def KB (t : List Int) (i j : Nat) : Prop := t.getD i 0 < t.getD j 0 ∨ (t.getD i 0 = t.getD j 0 ∧ i < j)
theorem kb_irr {t : List Int} (i : Nat) : ¬ KB t i i := fun h => by unfold KB at h; omega
theorem kb_asym {t : List Int} (i j : Nat) (h : KB t i j) : ¬ KB t j i := fun h' => by unfold KB at h h'; omega
theorem kb_trans {t : List Int} {i j k : Nat} (h : KB t i j) (h' : KB t j k) : KB t i k := by unfold KB at *; omega
theorem kb_total {t : List Int} {i j : Nat} (h : i ≠ j) : KB t i j ∨ KB t j i := by unfold KB; omega
theorem pw_unique {α : Type} {R : α → α → Prop} (hi : ∀ a, ¬ R a a) (has : ∀ a b, R a b → ¬ R b a) : ∀ {l l' : List α}, l.Pairwise R → l'.Pairwise R → (∀ x, x ∈ l ↔ x ∈ l') → l = l'
  | [], [], _, _, _ => rfl
  | [], b :: l', _, _, h => absurd ((h b).2 List.mem_cons_self) (List.not_mem_nil)
  | a :: l, [], _, _, h => absurd ((h a).1 List.mem_cons_self) (List.not_mem_nil)
  | a :: l, b :: l', h1, h2, h => by
    have h1' := List.pairwise_cons.1 h1
    have h2' := List.pairwise_cons.1 h2
    have hab : a = b := by
      rcases List.mem_cons.1 ((h a).1 List.mem_cons_self) with e | e
      · exact e
      · rcases List.mem_cons.1 ((h b).2 List.mem_cons_self) with e2 | e2
        · exact e2.symm
        · exact absurd (h1'.1 _ e2) (has _ _ (h2'.1 _ e))
    subst hab
    rw [pw_unique hi has h1'.2 h2'.2 fun x => ?_]
    have hx := h x
    simp only [List.mem_cons] at hx
    constructor
    · intro hl
      rcases hx.1 (.inr hl) with e | e
      · subst e; exact absurd (h1'.1 _ hl) (hi _)
      · exact e
    · intro hl
      rcases hx.2 (.inr hl) with e | e
      · subst e; exact absurd (h2'.1 _ hl) (hi _)
      · exact e
/-- the houses, the cheaper ones first -/
def ordN (t : List Int) : List Nat := (List.range 1001).flatMap fun (m : Nat) => (List.range t.length).filter fun i => decide (t.getD i 0 = (m : Int))
theorem ord_mem {t : List Int} {i : Nat} : i ∈ ordN t ↔ i < t.length ∧ 0 ≤ t.getD i 0 ∧ t.getD i 0 ≤ 1000 := by
  unfold ordN
  simp only [List.mem_flatMap, List.mem_range, List.mem_filter, decide_eq_true_eq]
  constructor
  · rintro ⟨m, hm, hi, h⟩
    omega
  · rintro ⟨hi, h1, h2⟩
    exact ⟨(t.getD i 0).toNat, by omega, hi, by omega⟩
theorem ord_srt (t : List Int) : (ordN t).Pairwise (KB t) := by
  unfold ordN
  rw [List.pairwise_flatMap]
  refine ⟨fun m hm => ?_, ?_⟩
  · have h1 : ((List.range t.length).filter fun i => decide (t.getD i 0 = (m : Int))).Pairwise (· < ·) := List.Pairwise.filter _ List.pairwise_lt_range
    refine List.Pairwise.imp_of_mem ?_ h1
    intro a b ha hb hab
    simp only [List.mem_filter, decide_eq_true_eq] at ha hb
    exact .inr ⟨by rw [ha.2, hb.2], hab⟩
  · refine List.Pairwise.imp ?_ List.pairwise_lt_range
    intro a b hab x hx y hy
    simp only [List.mem_filter, decide_eq_true_eq] at hx hy
    exact .inl (by rw [hx.2, hy.2]; omega)
theorem srt_nodup {t : List Int} {l : List Nat} (h : l.Pairwise (KB t)) : l.Nodup := List.Pairwise.imp (fun h e => by subst e; exact kb_irr _ h) h
theorem pigeon : ∀ (n : Nat) (l : List Nat), l.Nodup → (∀ i ∈ l, i < n) → l.length ≤ n
  | 0, l, _, h => by
    cases l with
    | nil => exact Nat.le_refl _
    | cons a l => exact absurd (h a List.mem_cons_self) (Nat.not_lt_zero _)
  | n + 1, l, hd, h => by
    have h1 := pigeon n (l.erase n) (hd.erase n) fun i hi => by
      have h2 := (hd.mem_erase_iff).1 hi
      have h3 := h i h2.2
      have h4 := h2.1
      omega
    by_cases c : n ∈ l
    · rw [List.length_erase_of_mem c] at h1; omega
    · rw [List.erase_of_not_mem c] at h1; omega
theorem all_in {n : Nat} {l : List Nat} (hd : l.Nodup) (hlt : ∀ i ∈ l, i < n) (hl : l.length = n) : ∀ i, i < n → i ∈ l := fun i hi => by
  by_cases c : i ∈ l
  · exact c
  · have := pigeon n (i :: l) (List.nodup_cons.2 ⟨c, hd⟩) fun j hj => by
      rcases List.mem_cons.1 hj with rfl | hj
      · exact hi
      · exact hlt j hj
    rw [List.length_cons] at this
    omega
theorem getD_mid {α : Type} {d x : α} {l r : List α} {k : Nat} (h : l.length = k) : (l ++ x :: r).getD k d = x := by
  subst h
  simp [List.getD_eq_getElem?_getD]
theorem getD_mid2 {α : Type} {d x y : α} {l r : List α} {k : Nat} (h : l.length = k) : (l ++ x :: y :: r).getD (k + 1) d = y := by
  subst h
  rw [List.getD_eq_getElem?_getD, List.getElem?_append_right (by omega), show l.length + 1 - l.length = 1 by omega]
  rfl
theorem set_mid {α : Type} {x y : α} {l r : List α} {k : Nat} (h : l.length = k) : (l ++ x :: r).set k y = l ++ y :: r := by
  subst h
  simp [List.set_append]
theorem set_mid2 {α : Type} {x y z : α} {l r : List α} {k : Nat} (h : l.length = k) : (l ++ x :: y :: r).set (k + 1) z = l ++ x :: z :: r := by
  subst h
  rw [List.set_append, if_neg (by omega), show l.length + 1 - l.length = 1 by omega]
  rfl
theorem row_at (ys : List Int) (k : Nat) (hk : k < ys.length) : ((ys.map intRow).getD k [])[0]? = some (intA (ys.getD k 0)) := by
  simp [List.getD_eq_getElem?_getD, hk, intRow]
theorem row_set (ys : List Int) (k : Nat) (x : Int) (hk : k < ys.length) : (ys.map intRow).set k (spA ((ys.map intRow).getD k []) 0 [intA x]) = (ys.set k x).map intRow := by
  have e : spA ((ys.map intRow).getD k []) 0 [intA x] = intRow x := by simp [List.getD_eq_getElem?_getD, hk, intRow, spA]
  rw [e, List.map_set]
/-- an order is put among those before it that are sorted: it lies behind A, and B has been passed -/
structure InsB (t : List Int) (i j : Nat) (A B : List Nat) : Prop where
  la : A.length = j
  lb : A.length + B.length = i
  srt : (A ++ B).Pairwise (KB t)
  lt : ∀ x ∈ A ++ B, x < i
  gt : ∀ x ∈ B, KB t i x
theorem ins_start {t : List Int} {i : Nat} {A : List Nat} (hl : A.length = i) (hs : A.Pairwise (KB t)) (hlt : ∀ x ∈ A, x < i) : InsB t i i A [] :=
  ⟨hl, hl, by simpa using hs, by simpa using hlt, fun _ h => nomatch h⟩
theorem ins_step {t : List Int} {i j a : Nat} {A B : List Nat} (h : InsB t i (j + 1) (A ++ [a]) B) (hlt : t.getD i 0 < t.getD a 0) : InsB t i j A (a :: B) :=
  ⟨by have := h.la; simp at this; omega, by have := h.lb; simp at this ⊢; omega, by simpa using h.srt, by simpa using h.lt, fun x hx => by
    rcases List.mem_cons.1 hx with rfl | hx
    · exact .inl hlt
    · exact h.gt x hx⟩
theorem ins_done0 {t : List Int} {i : Nat} {B : List Nat} (h : InsB t i 0 [] B) : (i :: B).Pairwise (KB t) := List.pairwise_cons.2 ⟨h.gt, by simpa using h.srt⟩
theorem ins_done {t : List Int} {i j a : Nat} {A B : List Nat} (h : InsB t i (j + 1) (A ++ [a]) B) (hle : ¬ t.getD i 0 < t.getD a 0) : (A ++ [a] ++ i :: B).Pairwise (KB t) := by
  have hs := List.pairwise_append.1 h.srt
  have hai : KB t a i := by
    have h1 := h.lt a (by simp)
    unfold KB
    omega
  refine List.pairwise_append.2 ⟨hs.1, List.pairwise_cons.2 ⟨h.gt, hs.2.1⟩, fun x hx y hy => ?_⟩
  rcases List.mem_cons.1 hy with rfl | hy
  · rcases List.mem_append.1 hx with hx | hx
    · exact kb_trans ((List.pairwise_append.1 hs.1).2.2 x hx a (by simp)) hai
    · rw [List.mem_singleton.1 hx]; exact hai
  · exact hs.2.2 x hx y hy
/-- the orders, the first i of them sorted -/
abbrev insL (A : List Nat) (i n : Nat) : List Int := natsI (A ++ List.range' i (n - i))
theorem range_cut {i n : Nat} (h : i < n) : List.range' i (n - i) = i :: List.range' (i + 1) (n - (i + 1)) := by
  rw [show n - i = (n - (i + 1)) + 1 by omega, List.range'_succ]
attribute [local irreducible] AWP AWL AOp PV LV AWT AWE
theorem nan_p (a : Int) : PCall Try.prog 102 [intA a] (fun r => r = boolA false) := by
  refine acall_of_awp T0 Try.func102 rfl rfl rfl ?_
  have d1 : decide (a ≠ a) = false := decide_eq_false (fun h => h rfl)
  repeat (first | refine awp_seq ?_ | refine awp_region_lit rfl ?_ | refine awp_ret ?_ | ((first | (show AWL _ _ _ (⟨_, .move _, _, _, _, _⟩ :: _) _ _ _; refine awl_pw ?wtq (pv_move rfl rfl) rfl rfl ?_) | (show AWL _ _ _ (⟨_, .assign _, _, _, _, _⟩ :: _) _ _ _; refine awl_pw ?wtq (pv_assign rfl rfl) rfl rfl ?_) | (show AWL _ _ _ (⟨_, .binOp .neq _ _ _ _, _, _, _, _⟩ :: _) _ _ _; refine awl_pw ?wtq (pv_neq rfl rfl rfl) rfl rfl ?_)); case wtq => exact wtA) | refine awl_nil ?_)
  refine body_p (.cons rfl .nil) ?_
  rw [d1]
  rfl
def cmpN (a b : Int) : Int := if a < b then -1 else if b < a then 1 else 0
theorem compare_p (a b : Int) : PCall Try.prog 97 [intA a, intA b] (fun r => r = intA (cmpN a b)) := by
  refine acall_of_awp T0 Try.func97 rfl rfl rfl ?_
  unfold cmpN
  by_cases h1 : a < b
  · have d1 := decide_eq_true h1
    rw [if_pos h1]
    repeat (first | refine awp_seq ?_ | refine awp_region_lit rfl ?_ | ((first | (show AWL _ _ _ (⟨_, .move _, _, _, _, _⟩ :: _) _ _ _; refine awl_pw ?wtq (pv_move rfl rfl) rfl rfl ?_) | (show AWL _ _ _ (⟨_, .assign _, _, _, _, _⟩ :: _) _ _ _; refine awl_pw ?wtq (pv_assign rfl rfl) rfl rfl ?_)); case wtq => exact wtA) | refine awl_nil ?_)
    refine awl_hw wtA (st_call T0 (nan_p a) rfl rfl rfl rfl (by first | exact callee_lit | exact callee_v | exact callee_fn | assumption) rcA raA rfl ?_)
    rintro _ rfl
    repeat (first | refine awp_seq ?_ | refine awp_region_lit rfl ?_ | ((first | (show AWL _ _ _ (⟨_, .move _, _, _, _, _⟩ :: _) _ _ _; refine awl_pw ?wtq (pv_move rfl rfl) rfl rfl ?_) | (show AWL _ _ _ (⟨_, .assign _, _, _, _, _⟩ :: _) _ _ _; refine awl_pw ?wtq (pv_assign rfl rfl) rfl rfl ?_)); case wtq => exact wtA) | refine awl_nil ?_)
    refine awl_hw wtA (st_call T0 (nan_p b) rfl rfl rfl rfl (by first | exact callee_lit | exact callee_v | exact callee_fn | assumption) rcA raA rfl ?_)
    rintro _ rfl
    repeat (first | refine awp_seq ?_ | refine awp_region_lit rfl ?_ | refine awp_skip ?_ | refine awp_ret ?_ | refine then_n ?_ | refine then_r ?_ | refine awp_cond_t rfl (by first | rfl | assumption | exact dT (by omega)) ?_ | refine awp_cond_f rfl (by first | rfl | assumption | exact dF (by omega)) ?_ | ((first | (show AWL _ _ _ (⟨_, .move _, _, _, _, _⟩ :: _) _ _ _; refine awl_pw ?wtq (pv_move rfl rfl) rfl rfl ?_) | (show AWL _ _ _ (⟨_, .assign _, _, _, _, _⟩ :: _) _ _ _; refine awl_pw ?wtq (pv_assign rfl rfl) rfl rfl ?_) | (show AWL _ _ _ (⟨_, .binOp .lss _ _ _ _, _, _, _, _⟩ :: _) _ _ _; refine awl_pw ?wtq (pv_lss rfl rfl rfl) rfl rfl ?_)); case wtq => exact wtA) | refine awl_nil ?_)
    exact body_p (.cons rfl .nil) rfl
  · have d1 := decide_eq_false h1
    rw [if_neg h1]
    by_cases h2 : b < a
    · have d2 := decide_eq_true h2
      rw [if_pos h2]
      repeat (first | refine awp_seq ?_ | refine awp_region_lit rfl ?_ | ((first | (show AWL _ _ _ (⟨_, .move _, _, _, _, _⟩ :: _) _ _ _; refine awl_pw ?wtq (pv_move rfl rfl) rfl rfl ?_) | (show AWL _ _ _ (⟨_, .assign _, _, _, _, _⟩ :: _) _ _ _; refine awl_pw ?wtq (pv_assign rfl rfl) rfl rfl ?_)); case wtq => exact wtA) | refine awl_nil ?_)
      refine awl_hw wtA (st_call T0 (nan_p a) rfl rfl rfl rfl (by first | exact callee_lit | exact callee_v | exact callee_fn | assumption) rcA raA rfl ?_)
      rintro _ rfl
      repeat (first | refine awp_seq ?_ | refine awp_region_lit rfl ?_ | ((first | (show AWL _ _ _ (⟨_, .move _, _, _, _, _⟩ :: _) _ _ _; refine awl_pw ?wtq (pv_move rfl rfl) rfl rfl ?_) | (show AWL _ _ _ (⟨_, .assign _, _, _, _, _⟩ :: _) _ _ _; refine awl_pw ?wtq (pv_assign rfl rfl) rfl rfl ?_)); case wtq => exact wtA) | refine awl_nil ?_)
      refine awl_hw wtA (st_call T0 (nan_p b) rfl rfl rfl rfl (by first | exact callee_lit | exact callee_v | exact callee_fn | assumption) rcA raA rfl ?_)
      rintro _ rfl
      repeat (first | refine awp_seq ?_ | refine awp_region_lit rfl ?_ | refine awp_skip ?_ | refine awp_ret ?_ | refine then_n ?_ | refine then_r ?_ | refine awp_cond_t rfl (by first | rfl | assumption | exact dT (by omega)) ?_ | refine awp_cond_f rfl (by first | rfl | assumption | exact dF (by omega)) ?_ | ((first | (show AWL _ _ _ (⟨_, .move _, _, _, _, _⟩ :: _) _ _ _; refine awl_pw ?wtq (pv_move rfl rfl) rfl rfl ?_) | (show AWL _ _ _ (⟨_, .assign _, _, _, _, _⟩ :: _) _ _ _; refine awl_pw ?wtq (pv_assign rfl rfl) rfl rfl ?_) | (show AWL _ _ _ (⟨_, .binOp .lss _ _ _ _, _, _, _, _⟩ :: _) _ _ _; refine awl_pw ?wtq (pv_lss rfl rfl rfl) rfl rfl ?_) | (show AWL _ _ _ (⟨_, .binOp .gtr _ _ _ _, _, _, _, _⟩ :: _) _ _ _; refine awl_pw ?wtq (pv_gtr rfl rfl rfl) rfl rfl ?_)); case wtq => exact wtA) | refine awl_nil ?_)
      exact body_p (.cons rfl .nil) rfl
    · have d2 := decide_eq_false h2
      rw [if_neg h2]
      repeat (first | refine awp_seq ?_ | refine awp_region_lit rfl ?_ | ((first | (show AWL _ _ _ (⟨_, .move _, _, _, _, _⟩ :: _) _ _ _; refine awl_pw ?wtq (pv_move rfl rfl) rfl rfl ?_) | (show AWL _ _ _ (⟨_, .assign _, _, _, _, _⟩ :: _) _ _ _; refine awl_pw ?wtq (pv_assign rfl rfl) rfl rfl ?_)); case wtq => exact wtA) | refine awl_nil ?_)
      refine awl_hw wtA (st_call T0 (nan_p a) rfl rfl rfl rfl (by first | exact callee_lit | exact callee_v | exact callee_fn | assumption) rcA raA rfl ?_)
      rintro _ rfl
      repeat (first | refine awp_seq ?_ | refine awp_region_lit rfl ?_ | ((first | (show AWL _ _ _ (⟨_, .move _, _, _, _, _⟩ :: _) _ _ _; refine awl_pw ?wtq (pv_move rfl rfl) rfl rfl ?_) | (show AWL _ _ _ (⟨_, .assign _, _, _, _, _⟩ :: _) _ _ _; refine awl_pw ?wtq (pv_assign rfl rfl) rfl rfl ?_)); case wtq => exact wtA) | refine awl_nil ?_)
      refine awl_hw wtA (st_call T0 (nan_p b) rfl rfl rfl rfl (by first | exact callee_lit | exact callee_v | exact callee_fn | assumption) rcA raA rfl ?_)
      rintro _ rfl
      repeat (first | refine awp_seq ?_ | refine awp_region_lit rfl ?_ | refine awp_skip ?_ | refine awp_ret ?_ | refine then_n ?_ | refine awp_cond_f rfl (by first | rfl | assumption | exact dF (by omega)) ?_ | ((first | (show AWL _ _ _ (⟨_, .move _, _, _, _, _⟩ :: _) _ _ _; refine awl_pw ?wtq (pv_move rfl rfl) rfl rfl ?_) | (show AWL _ _ _ (⟨_, .assign _, _, _, _, _⟩ :: _) _ _ _; refine awl_pw ?wtq (pv_assign rfl rfl) rfl rfl ?_) | (show AWL _ _ _ (⟨_, .binOp .lss _ _ _ _, _, _, _, _⟩ :: _) _ _ _; refine awl_pw ?wtq (pv_lss rfl rfl rfl) rfl rfl ?_) | (show AWL _ _ _ (⟨_, .binOp .gtr _ _ _ _, _, _, _, _⟩ :: _) _ _ _; refine awl_pw ?wtq (pv_gtr rfl rfl rfl) rfl rfl ?_)); case wtq => exact wtA) | refine awl_nil ?_)
      exact body_p (.cons rfl .nil) rfl
abbrev mkE (g : Nat) (cp cc : Bool) (m : MktD) : Ent := .cl g 35 [intA m.ex, .t (housT cp m.hou), .t (consT cc m.con)]
/-- what the houses ask -/
def asks (m : MktD) : List Int := m.hou.map HouD.ask
theorem asks_at {m : MktD} {i : Nat} (h : i < m.hou.length) : (asks m).getD i 0 = (m.hou.getD i default).ask := by
  simp [asks, List.getD_eq_getElem?_getD, h]
theorem cmp_p (cp cc : Bool) (g : Nat) (m : MktD) (a b : Nat) (ha : a < m.hou.length) (hb : b < m.hou.length) :
    ACall Try.prog 96 [intA a, intA b, .v (ptrV g)] [mkE g cp cc m] (fun r h' => r = intA (cmpN ((asks m).getD a 0) ((asks m).getD b 0)) ∧ h' = [mkE g cp cc m]) := by
  rw [asks_at ha, asks_at hb]
  refine acall_of_awp T0 Try.func96 rfl rfl rfl ?_
  repeat (first | refine awp_seq ?_ | refine awp_region_lit rfl ?_ | ((first | (show AWL _ _ _ (⟨_, .assign _, _, _, _, _⟩ :: _) _ _ _; refine awl_pw ?wtq (pv_assign rfl rfl) rfl rfl ?_)); case wtq => exact wtA) | refine awl_nil ?_)
  refine awp_cut (M := fun s h => s = [(5, intA (cmpN (m.hou.getD a default).ask (m.hou.getD b default).ask))] ∧ h = [mkE g cp cc m]) ?_ ?_
  · refine awp_weak (s' := [(0, intA a), (1, intA b), (2, .v (ptrV g))]) (h' := [mkE g cp cc m]) ssA rcA ?_
    refine awp_par T0 (l := (0 :: 1 :: 2 :: 3 :: 4 :: 5 :: 6 :: 7 :: 8 :: 9 :: 10 :: 11 :: 12 :: 13 :: [])) rfl (by kernel_rfl) (by kernel_rfl) ?_
    apply parW_op (ds := [2]) rfl rfl rfl rfl (by kernel_rfl)
    · exact .inl ⟨(wt_none rfl), stepQ_pv (pv_fa T0 rfl rfl rfl (by simp; rfl)) rfl rfl⟩
    apply parW_op (ds := [6]) rfl rfl rfl rfl (by kernel_rfl)
    · exact .inl ⟨(wt_none rfl), stepQ_lv (lv_cl1 T0 rfl rfl rfl rcA raA) rfl rfl⟩
    apply parW_op (ds := [0]) rfl rfl rfl rfl (by kernel_rfl)
    · exact .inl ⟨(wt_none rfl), stepQ_pv (pv_move rfl rfl) rfl rfl⟩
    apply parW_op (ds := [7, 8]) rfl rfl rfl rfl (by kernel_rfl)
    · exact .inl ⟨(wt_none rfl), stepQ_pv (pv_ix_t T0 rfl rfl rfl rfl (by omega) ixA) rfl rfl⟩
    apply parW_op (ds := [9]) rfl rfl rfl rfl (by kernel_rfl)
    · exact .inl ⟨(wt_none rfl), stepQ_pv (pv_fa_elt T0 rfl rfl rfl (by simp; rfl)) rfl rfl⟩
    apply parW_op (ds := [10]) rfl rfl rfl rfl (by kernel_rfl)
    · exact .inl ⟨(wt_none rfl), stepQ_lv (lv_elt_sc T0 rfl rfl rfl rfl) rfl rfl⟩
    apply parW_op (ds := [2]) rfl rfl rfl rfl (by kernel_rfl)
    · exact .inl ⟨(wt_none rfl), stepQ_pv (pv_fa T0 rfl rfl rfl (by simp; rfl)) rfl rfl⟩
    apply parW_op (ds := [12]) rfl rfl rfl rfl (by kernel_rfl)
    · exact .inl ⟨(wt_none rfl), stepQ_lv (lv_cl1 T0 rfl rfl rfl rcA raA) rfl rfl⟩
    apply parW_op (ds := [1]) rfl rfl rfl rfl (by kernel_rfl)
    · exact .inl ⟨(wt_none rfl), stepQ_pv (pv_move rfl rfl) rfl rfl⟩
    apply parW_op (ds := [13, 14]) rfl rfl rfl rfl (by kernel_rfl)
    · exact .inl ⟨(wt_none rfl), stepQ_pv (pv_ix_t T0 rfl rfl rfl rfl (by omega) ixA) rfl rfl⟩
    apply parW_op (ds := [15]) rfl rfl rfl rfl (by kernel_rfl)
    · exact .inl ⟨(wt_none rfl), stepQ_pv (pv_fa_elt T0 rfl rfl rfl (by simp; rfl)) rfl rfl⟩
    apply parW_op (ds := [16]) rfl rfl rfl rfl (by kernel_rfl)
    · exact .inl ⟨(wt_none rfl), stepQ_lv (lv_elt_sc T0 rfl rfl rfl rfl) rfl rfl⟩
    apply parW_op (ds := [11, 17]) rfl rfl rfl rfl (by kernel_rfl)
    · refine .inl ⟨(wt_none rfl), ?_⟩
      refine st_call T0 (compare_p (m.hou.getD a default).ask (m.hou.getD b default).ask) rfl rfl rfl rfl (by first | exact callee_lit | exact callee_v | exact callee_fn | assumption) rcA raA rfl ?_
      rintro _ rfl
      exact ⟨_, Ghost.refl, rfl⟩
    apply parW_op (ds := [18]) rfl rfl rfl rfl (by kernel_rfl)
    · exact .inl ⟨(wt_none rfl), stepQ_pv (pv_assign rfl rfl) rfl rfl⟩
    refine parW_nil ?_
    exact cut_n ⟨rfl, rfl⟩ ssA rcA
  rintro s h ⟨rfl, rfl⟩
  repeat (first | refine awp_ret ?_)
  exact body_r (h' := [mkE g cp cc m]) (.cons rfl .nil) rcA ⟨rfl, rfl⟩
abbrev cmpV (g : Nat) : AV := .v (.func (.func 96) #[] #[ptrV g])
theorem insert_p (cp cc : Bool) (g0 g c n : Nat) (m : MktD) (hn : m.hou.length = n) (h1 : 1 ≤ n) (h6 : n ≤ 6) :
    ACall Try.prog 103 [.v (.slice (some ⟨g0, 0, none⟩) n c), intA 0, intA n, cmpV g] [.rw (.slice (some ⟨g0, 0, none⟩) n c) 3 1 ((natsI (List.range n)).map intRow), mkE g cp cc m] (fun r h' => ∃ l, l.Pairwise (KB (asks m)) ∧ (∀ x, x ∈ l ↔ x < n) ∧ l.length = n ∧ h' = [.rw (.slice (some ⟨g0, 0, none⟩) n c) 3 1 ((natsI l).map intRow), mkE g cp cc m]) := by
  have h0 : List.range n = [0] ++ List.range' 1 (n - 1) := by
    obtain ⟨k, rfl⟩ : ∃ k, n = k + 1 := ⟨n - 1, by omega⟩
    rw [List.range_eq_range', List.range'_succ]; rfl
  rw [h0]
  refine acall_of_awp T0 Try.func103 rfl rfl rfl ?_
  repeat (first | refine awp_seq ?_ | refine awp_block ?_ | refine awp_region_lit rfl ?_ | ((first | (show AWL _ _ _ (⟨_, .move _, _, _, _, _⟩ :: _) _ _ _; refine awl_pw ?wtq (pv_move rfl rfl) rfl rfl ?_) | (show AWL _ _ _ (⟨_, .assign _, _, _, _, _⟩ :: _) _ _ _; refine awl_pw ?wtq (pv_assign rfl rfl) rfl rfl ?_) | (show AWL _ _ _ (⟨_, .binOp .add _ _ _ _, _, _, _, _⟩ :: _) _ _ _; refine awl_pw ?wtq (pv_add rfl rfl rfl (by first | assumption | exact wr64 (by omega))) rfl rfl ?_)); case wtq => exact wtA) | refine awl_nil ?_)
  refine awp_loop (fun w s h => ∃ (i : Nat) (A : List Nat), 1 ≤ i ∧ i ≤ n ∧ w = n - i ∧ A.length = i ∧ A.Pairwise (KB (asks m)) ∧ (∀ x ∈ A, x < i) ∧ s = [(0, .v (.slice (some ⟨g0, 0, none⟩) n c)), (1, intA 0), (2, intA n), (3, cmpV g), (8, intA i)] ∧ h = [.rw (.slice (some ⟨g0, 0, none⟩) n c) 3 1 ((insL A i n).map intRow), mkE g cp cc m]) ?_ ⟨1, [0], Nat.le_refl _, h1, rfl, rfl, by simp, by simp, rfl, rfl⟩ ssA rcA
  rintro w s h ⟨i, A, hi1, hi, rfl, hA, hsrt, hlt, rfl, rfl⟩
  by_cases hin : i < n
  case neg =>
    repeat (first | refine awp_seq ?_ | refine awp_region_lit rfl ?_ | refine awp_exit ?_ | refine then_n ?_ | refine then_x ?_ | refine blk_x ?_ | refine rnd_x ?_ | refine awp_cond_f rfl (by first | rfl | assumption | exact dF (by omega)) ?_ | ((first | (show AWL _ _ _ (⟨_, .move _, _, _, _, _⟩ :: _) _ _ _; refine awl_pw ?wtq (pv_move rfl rfl) rfl rfl ?_) | (show AWL _ _ _ (⟨_, .binOp .lss _ _ _ _, _, _, _, _⟩ :: _) _ _ _; refine awl_pw ?wtq (pv_lss rfl rfl rfl) rfl rfl ?_)); case wtq => exact wtA) | refine awl_nil ?_)
    obtain rfl : i = n := by omega
    refine body_n .nil (SubH.refl _) ⟨A, hsrt, fun x => ⟨hlt x, all_in (srt_nodup hsrt) hlt hA x⟩, hA, ?_⟩
    unfold insL
    simp
  repeat (first | refine awp_seq ?_ | refine awp_block ?_ | refine awp_region_lit rfl ?_ | refine awp_skip ?_ | refine then_n ?_ | refine awp_cond_t rfl (by first | rfl | assumption | exact dT (by omega)) ?_ | ((first | (show AWL _ _ _ (⟨_, .move _, _, _, _, _⟩ :: _) _ _ _; refine awl_pw ?wtq (pv_move rfl rfl) rfl rfl ?_) | (show AWL _ _ _ (⟨_, .assign _, _, _, _, _⟩ :: _) _ _ _; refine awl_pw ?wtq (pv_assign rfl rfl) rfl rfl ?_) | (show AWL _ _ _ (⟨_, .binOp .lss _ _ _ _, _, _, _, _⟩ :: _) _ _ _; refine awl_pw ?wtq (pv_lss rfl rfl rfl) rfl rfl ?_)); case wtq => exact wtA) | refine awl_nil ?_)
  unfold insL
  rw [range_cut hin]
  obtain ⟨R, hRe⟩ : ∃ R, List.range' (i + 1) (n - (i + 1)) = R := ⟨_, rfl⟩
  have hRl : i + 1 + R.length = n := by rw [← hRe, List.length_range']; omega
  rw [hRe]
  refine awp_loop (fun w s h => ∃ (j : Nat) (A B : List Nat), w = j ∧ InsB (asks m) i j A B ∧ s = [(0, .v (.slice (some ⟨g0, 0, none⟩) n c)), (1, intA 0), (2, intA n), (3, cmpV g), (8, intA i), (9, intA j)] ∧ h = [.rw (.slice (some ⟨g0, 0, none⟩) n c) 3 1 ((natsI (A ++ i :: (B ++ R))).map intRow), mkE g cp cc m]) ?_ ⟨i, A, [], rfl, ins_start hA hsrt hlt, rfl, rfl⟩ ssA rcA
  rintro w s h ⟨j, A, B, hm, hI, rfl, rfl⟩
  clear hA hsrt hlt
  have hAB := hI.lb
  have hla := hI.la
  have hR : (natsI (A ++ i :: (B ++ R))).length = i + 1 + R.length := by rw [natsI_len]; simp; omega
  cases j with
  | zero =>
    obtain rfl : A = [] := List.length_eq_zero_iff.1 hla
    repeat (first | refine awp_seq ?_)
    refine awp_treeN T0 [(0, 0), (1, 0), (2, 0), (3, 0), (4, 0), (5, 0), (6, 0), (7, 0), (8, 1), (9, 0), (10, 0), (11, 0), (12, 0), (13, 1), (14, 3), (15, 0), (16, 0)] (.op 0 0 (.op 1 0 (.op 2 0 (.op 3 0 (.op 4 0 (.op 5 0 (.op 6 0 (.op 7 0 (.op 8 1 (.op 9 0 (.op 10 0 (.op 11 0 (.op 12 0 (.op 13 1 (.op 14 3 (.op 15 0 (.op 16 0 .stop))))))))))))))))) _ rfl (by kernel_rfl) (SubH.refl _) ?_
    refine awt_po rfl (wt_none rfl) (pv_move rfl rfl) rfl rfl ?_
    refine awt_po rfl (wt_none rfl) (pv_move rfl rfl) rfl rfl ?_
    refine awt_po rfl (wt_none rfl) (pv_gtr rfl rfl rfl) rfl rfl ?_
    refine awt_po rfl (wt_none rfl) (pv_move rfl rfl) rfl rfl ?_
    refine awt_sk0 rfl (wf_some rfl rfl rfl rfl tfA) rfl rfl (fun _ _ h => h) rfl ?_
    refine awt_sk0 rfl (wf_some rfl rfl rfl rfl tfA) rfl rfl (fun _ _ h => h) rfl ?_
    refine awt_sk0 rfl (wf_some rfl rfl rfl rfl tfA) rfl rfl (fun _ _ h => h) rfl ?_
    refine awt_sk0 rfl (wf_some rfl rfl rfl rfl tfA) rfl rfl (fun _ _ h => h) rfl ?_
    refine awt_sk1 rfl (wf_some rfl rfl rfl rfl tfA) rfl rfl (fun _ _ h => h) rfl ?_
    refine awt_sk0 rfl (wf_some rfl rfl rfl rfl tfA) rfl rfl (fun _ _ h => h) rfl ?_
    refine awt_sk0 rfl (wf_some rfl rfl rfl rfl tfA) rfl rfl (fun _ _ h => h) rfl ?_
    refine awt_sk0 rfl (wf_some rfl rfl rfl rfl tfA) rfl rfl (fun _ _ h => h) rfl ?_
    refine awt_sk0 rfl (wf_some rfl rfl rfl rfl tfA) rfl rfl (fun _ _ h => h) rfl ?_
    refine awt_sk1 rfl (wf_some rfl rfl rfl rfl tfA) rfl rfl (fun _ _ h => h) rfl ?_
    refine awt_sk3 rfl (wf_some rfl rfl rfl rfl tfA) rfl rfl ?_
    first
      | refine awe_p rfl wtS (pv_lss rfl rfl rfl) rfl rfl ?_
      | refine awe_sk rfl (wf_some rfl rfl rfl rfl tfA) rfl rfl ?_
    first
      | refine awe_p rfl (wt_none rfl) (pv_pick_t rfl rfl tfA rfl) rfl rfl ?_
      | refine awe_p rfl (wt_none rfl) (pv_pick_f rfl rfl tfA rfl) rfl rfl ?_
    refine awe_end ?_
    repeat (first | refine awp_region_lit rfl ?_ | refine awp_exit ?_ | refine then_n ?_ | refine awp_cond_f rfl (by first | rfl | assumption | exact dF (by omega)) ?_ | ((first | (show AWL _ _ _ (⟨_, .move _, _, _, _, _⟩ :: _) _ _ _; refine awl_pw ?wtq (pv_move rfl rfl) rfl rfl ?_) | (show AWL _ _ _ (⟨_, .assign _, _, _, _, _⟩ :: _) _ _ _; refine awl_pw ?wtq (pv_assign rfl rfl) rfl rfl ?_) | (show AWL _ _ _ (⟨_, .binOp .add _ _ _ _, _, _, _, _⟩ :: _) _ _ _; refine awl_pw ?wtq (pv_add rfl rfl rfl (by first | assumption | exact wr64 (by omega))) rfl rfl ?_)); case wtq => exact wtA) | refine awl_nil ?_)
    rw [show natsI ([] ++ i :: (B ++ R)) = insL (i :: B) (i + 1) n from by unfold insL; rw [hRe]; rfl]
    refine rnd_n _ _ _ ?_ ⟨i + 1, i :: B, by omega, by omega, rfl, by simp at hAB ⊢; omega, ins_done0 hI, ?_, rfl, rfl⟩ ssA rcA
    · omega
    · intro x hx
      rcases List.mem_cons.1 hx with rfl | hx
      · omega
      · have := hI.lt x (by simpa using hx); omega
  | succ j =>
    obtain ⟨A, a, rfl⟩ : ∃ A' a, A = A' ++ [a] := ⟨A.dropLast, A.getLast (fun e => by subst e; cases hla), (List.dropLast_concat_getLast _).symm⟩
    have hla' : A.length = j := by simpa using hla
    have hai := hI.lt a (by simp)
    have hjn : j + 1 < n := by omega
    have hnz : (natsI A).length = j := by rw [natsI_len]; exact hla'
    have hz : natsI (A ++ [a] ++ i :: (B ++ R)) = natsI A ++ (a : Int) :: (i : Int) :: natsI (B ++ R) := by simp [natsI]
    have hz2 : natsI (A ++ i :: (a :: B ++ R)) = natsI A ++ (i : Int) :: (a : Int) :: natsI (B ++ R) := by simp [natsI]
    rw [hz] at hR ⊢
    have e1 : (natsI A ++ (a : Int) :: (i : Int) :: natsI (B ++ R)).getD j 0 = a := getD_mid hnz
    have e2 : (natsI A ++ (a : Int) :: (i : Int) :: natsI (B ++ R)).getD (j + 1) 0 = i := getD_mid2 hnz
    have e3 : ((natsI A ++ (a : Int) :: (i : Int) :: natsI (B ++ R)).set (j + 1) a).set j i = natsI A ++ (i : Int) :: (a : Int) :: natsI (B ++ R) := by rw [set_mid2 hnz, set_mid hnz]
    generalize natsI A ++ (a : Int) :: (i : Int) :: natsI (B ++ R) = zs at *
    have r1 := row_at zs (j + 1) (by omega)
    have r2 := row_at zs j (by omega)
    rw [e1] at r2
    rw [e2] at r1
    have hsub : IntKind.i64.wrap (((j + 1 : Nat) : Int) - 1) = (j : Int) := (wr64 (x := ((j + 1 : Nat) : Int) - 1) (by omega)).trans (by omega)
    by_cases hc : (asks m).getD i 0 < (asks m).getD a 0
    · have hcb : decide (cmpN ((asks m).getD i 0) ((asks m).getD a 0) < 0) = true := decide_eq_true (by unfold cmpN; rw [if_pos hc]; decide)
      repeat (first | refine awp_seq ?_)
      refine awp_treeN T0 [(0, 0), (1, 0), (2, 0), (3, 0), (4, 0), (5, 0), (6, 0), (7, 0), (8, 1), (9, 0), (10, 0), (11, 0), (12, 0), (13, 1), (14, 3), (15, 0), (16, 0)] (.op 0 0 (.op 1 0 (.op 2 0 (.op 3 0 (.op 4 0 (.op 5 0 (.op 6 0 (.op 7 0 (.op 8 1 (.op 9 0 (.op 10 0 (.op 11 0 (.op 12 0 (.op 13 1 (.op 14 3 (.op 15 0 (.op 16 0 .stop))))))))))))))))) [.rw _ _ _ _] rfl (by kernel_rfl) rcA ?_
      refine awt_po rfl (wt_none rfl) (pv_move rfl rfl) rfl rfl ?_
      refine awt_po rfl (wt_none rfl) (pv_move rfl rfl) rfl rfl ?_
      refine awt_po rfl (wt_none rfl) (pv_gtr rfl rfl rfl) rfl rfl ?_
      refine awt_po rfl (wt_none rfl) (pv_move rfl rfl) rfl rfl ?_
      refine awt_po rfl wtS (pv_move rfl rfl) rfl rfl ?_
      refine awt_po rfl wtS (pv_move rfl rfl) rfl rfl ?_
      refine awt_po rfl wtS (pv_move rfl rfl) rfl rfl ?_
      refine awt_po rfl wtS (pv_ix_own T0 rfl rfl rfl rfl (by omega) ixA) rfl rfl ?_
      refine awt_lo rfl wtS (lv_rp T0 rfl rfl rfl rcA (by first | omega | (simp; omega)) (by omega) (by first | assumption | rfl)) rfl rfl rfl ?_
      refine awt_po rfl wtS (pv_move rfl rfl) rfl rfl ?_
      refine awt_po rfl wtS (pv_move rfl rfl) rfl rfl ?_
      refine awt_po rfl wtS (pv_sub rfl rfl rfl (by first | assumption | exact wr64 (by omega))) rfl rfl ?_
      refine awt_po rfl wtS (pv_ix_own T0 rfl rfl rfl rfl (by omega) ixA) rfl rfl ?_
      refine awt_lo rfl wtS (lv_rp T0 rfl rfl rfl rcA (by first | omega | (simp; omega)) (by omega) (by first | assumption | rfl)) rfl rfl rfl ?_
      refine awt_s (md := fun _ => True) rfl wtS (st_acall T0 (cmp_p cp cc g m i a (by omega) (by omega)) rfl rfl rfl rfl (by first | exact callee_lit | exact callee_v | exact callee_fn | assumption) rcA raA rfl (by first | ((repeat' (first | exact SubH.refl _ | apply SubH.cons | exact Pick.here | apply Pick.there)); all_goals fail) | fail) (fun _ _ => trivial) ?_)
      rintro r h ⟨rfl, rfl⟩
      first
        | refine awe_p rfl wtS (pv_lss rfl rfl rfl) rfl rfl ?_
        | refine awe_sk rfl (wf_some rfl rfl rfl rfl tfA) rfl rfl ?_
      first
        | refine awe_p rfl (wt_none rfl) (pv_pick_t rfl rfl tfA rfl) rfl rfl ?_
        | refine awe_p rfl (wt_none rfl) (pv_pick_f rfl rfl tfA rfl) rfl rfl ?_
      refine awe_end ?_
      repeat (first | refine awp_seq ?_ | refine awp_block ?_ | refine awp_skip ?_ | refine then_n ?_ | refine awp_cond_t rfl (by first | rfl | assumption | exact dT (by omega)) ?_)
      refine awp_tree T0 [(0, 0), (1, 0), (2, 0), (3, 0), (4, 0), (5, 0), (6, 0), (7, 0), (8, 0), (9, 1), (10, 0), (11, 0), (12, 0), (13, 1), (14, 0), (15, 3), (16, 0), (17, 3)] (.op 0 0 (.op 1 0 (.op 2 0 (.op 3 0 (.op 4 0 (.op 5 0 (.op 6 0 (.op 7 0 (.op 8 0 (.op 9 1 (.op 10 0 (.op 11 0 (.op 12 0 (.op 13 1 (.op 14 0 (.op 15 3 (.op 16 0 (.op 17 3 .stop)))))))))))))))))) [.rw _ _ _ _] rfl (by kernel_rfl) rcA ?_
      refine awt_po rfl (wt_none rfl) (pv_move rfl rfl) rfl rfl ?_
      refine awt_po rfl (wt_none rfl) (pv_move rfl rfl) rfl rfl ?_
      refine awt_po rfl (wt_none rfl) (pv_move rfl rfl) rfl rfl ?_
      refine awt_po rfl (wt_none rfl) (pv_move rfl rfl) rfl rfl ?_
      refine awt_po rfl (wt_none rfl) (pv_sub rfl rfl rfl (by first | assumption | exact wr64 (by omega))) rfl rfl ?_
      refine awt_po rfl (wt_none rfl) (pv_move rfl rfl) rfl rfl ?_
      refine awt_po rfl (wt_none rfl) (pv_move rfl rfl) rfl rfl ?_
      refine awt_po rfl (wt_none rfl) (pv_sub rfl rfl rfl (by first | assumption | exact wr64 (by omega))) rfl rfl ?_
      refine awt_po rfl (wt_none rfl) (pv_ix_own T0 rfl rfl rfl rfl (by omega) ixA) rfl rfl ?_
      refine awt_lo rfl (wt_none rfl) (lv_rp T0 rfl rfl rfl rcA (by first | omega | (simp; omega)) (by omega) (by first | assumption | rfl)) rfl rfl rfl ?_
      refine awt_po rfl (wt_none rfl) (pv_move rfl rfl) rfl rfl ?_
      refine awt_po rfl (wt_none rfl) (pv_move rfl rfl) rfl rfl ?_
      refine awt_po rfl (wt_none rfl) (pv_ix_own T0 rfl rfl rfl rfl (by omega) ixA) rfl rfl ?_
      refine awt_lo rfl (wt_none rfl) (lv_rp T0 rfl rfl rfl rcA (by first | omega | (simp; omega)) (by omega) (by first | assumption | rfl)) rfl rfl rfl ?_
      refine awt_po rfl (wt_none rfl) (pv_ix_own T0 rfl rfl rfl rfl (by omega) ixA) rfl rfl ?_
      refine awt_s (md := fun _ => True) rfl (wt_none rfl) (aop_store_rp T0 rfl rfl rfl rfl rfl rfl rfl rfl rcA (by first | omega | (simp; omega)) (by omega) rfl trivial ?_)
      first
        | refine awe_p rfl (wt_none rfl) (pv_ix_t T0 rfl rfl rfl rfl (by omega) ixA) rfl rfl ?_
        | refine awe_p rfl (wt_none rfl) (pv_ix_own T0 rfl rfl rfl rfl (by omega) ixA) rfl rfl ?_
        | refine awe_p rfl (wt_none rfl) (pv_ix_arr T0 rfl rfl rfl rfl (by omega) (by simp; rfl)) rfl rfl ?_
      refine awe_s (md := fun _ => True) rfl (wt_none rfl) (aop_store_rp T0 rfl rfl rfl rfl rfl rfl rfl rfl rcA (by first | omega | (simp; omega)) (by omega) rfl trivial ?_)
      refine awe_end ?_
      repeat (first | refine awp_region_lit rfl ?_ | ((first | (show AWL _ _ _ (⟨_, .move _, _, _, _, _⟩ :: _) _ _ _; refine awl_pw ?wtq (pv_move rfl rfl) rfl rfl ?_) | (show AWL _ _ _ (⟨_, .assign _, _, _, _, _⟩ :: _) _ _ _; refine awl_pw ?wtq (pv_assign rfl rfl) rfl rfl ?_) | (show AWL _ _ _ (⟨_, .binOp .sub _ _ _ _, _, _, _, _⟩ :: _) _ _ _; refine awl_pw ?wtq (pv_sub rfl rfl rfl (by first | assumption | exact wr64 (by omega))) rfl rfl ?_)); case wtq => exact wtA) | refine awl_nil ?_)
      have f1 := row_set zs (j + 1) a (by omega)
      have f2 := row_set (zs.set (j + 1) a) j i (by simp; omega)
      simp only [cellsA]
      rw [f1, f2, e3]
      refine rnd_n _ _ _ ?_ ⟨j, A, a :: B, rfl, ins_step hI hc, rfl, by rw [hz2]⟩ ssA rcA
      omega
    · have hcb : decide (cmpN ((asks m).getD i 0) ((asks m).getD a 0) < 0) = false := decide_eq_false (by unfold cmpN; rw [if_neg hc]; split <;> decide)
      repeat (first | refine awp_seq ?_)
      refine awp_treeN T0 [(0, 0), (1, 0), (2, 0), (3, 0), (4, 0), (5, 0), (6, 0), (7, 0), (8, 1), (9, 0), (10, 0), (11, 0), (12, 0), (13, 1), (14, 3), (15, 0), (16, 0)] (.op 0 0 (.op 1 0 (.op 2 0 (.op 3 0 (.op 4 0 (.op 5 0 (.op 6 0 (.op 7 0 (.op 8 1 (.op 9 0 (.op 10 0 (.op 11 0 (.op 12 0 (.op 13 1 (.op 14 3 (.op 15 0 (.op 16 0 .stop))))))))))))))))) [.rw _ _ _ _] rfl (by kernel_rfl) rcA ?_
      refine awt_po rfl (wt_none rfl) (pv_move rfl rfl) rfl rfl ?_
      refine awt_po rfl (wt_none rfl) (pv_move rfl rfl) rfl rfl ?_
      refine awt_po rfl (wt_none rfl) (pv_gtr rfl rfl rfl) rfl rfl ?_
      refine awt_po rfl (wt_none rfl) (pv_move rfl rfl) rfl rfl ?_
      refine awt_po rfl wtS (pv_move rfl rfl) rfl rfl ?_
      refine awt_po rfl wtS (pv_move rfl rfl) rfl rfl ?_
      refine awt_po rfl wtS (pv_move rfl rfl) rfl rfl ?_
      refine awt_po rfl wtS (pv_ix_own T0 rfl rfl rfl rfl (by omega) ixA) rfl rfl ?_
      refine awt_lo rfl wtS (lv_rp T0 rfl rfl rfl rcA (by first | omega | (simp; omega)) (by omega) (by first | assumption | rfl)) rfl rfl rfl ?_
      refine awt_po rfl wtS (pv_move rfl rfl) rfl rfl ?_
      refine awt_po rfl wtS (pv_move rfl rfl) rfl rfl ?_
      refine awt_po rfl wtS (pv_sub rfl rfl rfl (by first | assumption | exact wr64 (by omega))) rfl rfl ?_
      refine awt_po rfl wtS (pv_ix_own T0 rfl rfl rfl rfl (by omega) ixA) rfl rfl ?_
      refine awt_lo rfl wtS (lv_rp T0 rfl rfl rfl rcA (by first | omega | (simp; omega)) (by omega) (by first | assumption | rfl)) rfl rfl rfl ?_
      refine awt_s (md := fun _ => True) rfl wtS (st_acall T0 (cmp_p cp cc g m i a (by omega) (by omega)) rfl rfl rfl rfl (by first | exact callee_lit | exact callee_v | exact callee_fn | assumption) rcA raA rfl (by first | ((repeat' (first | exact SubH.refl _ | apply SubH.cons | exact Pick.here | apply Pick.there)); all_goals fail) | fail) (fun _ _ => trivial) ?_)
      rintro r h ⟨rfl, rfl⟩
      first
        | refine awe_p rfl wtS (pv_lss rfl rfl rfl) rfl rfl ?_
        | refine awe_sk rfl (wf_some rfl rfl rfl rfl tfA) rfl rfl ?_
      first
        | refine awe_p rfl (wt_none rfl) (pv_pick_t rfl rfl tfA rfl) rfl rfl ?_
        | refine awe_p rfl (wt_none rfl) (pv_pick_f rfl rfl tfA rfl) rfl rfl ?_
      refine awe_end ?_
      repeat (first | refine awp_region_lit rfl ?_ | refine awp_exit ?_ | refine then_n ?_ | refine awp_cond_f rfl (by first | rfl | assumption | exact dF (by omega)) ?_ | ((first | (show AWL _ _ _ (⟨_, .move _, _, _, _, _⟩ :: _) _ _ _; refine awl_pw ?wtq (pv_move rfl rfl) rfl rfl ?_) | (show AWL _ _ _ (⟨_, .assign _, _, _, _, _⟩ :: _) _ _ _; refine awl_pw ?wtq (pv_assign rfl rfl) rfl rfl ?_) | (show AWL _ _ _ (⟨_, .binOp .add _ _ _ _, _, _, _, _⟩ :: _) _ _ _; refine awl_pw ?wtq (pv_add rfl rfl rfl (by first | assumption | exact wr64 (by omega))) rfl rfl ?_)); case wtq => exact wtA) | refine awl_nil ?_)
      rw [show zs = insL (A ++ [a] ++ i :: B) (i + 1) n from by unfold insL; rw [hRe, ← hz]; simp]
      refine rnd_n _ _ _ ?_ ⟨i + 1, A ++ [a] ++ i :: B, by omega, by omega, rfl, by simp at hAB ⊢; omega, ins_done hI hc, ?_, rfl, rfl⟩ ssA rcA
      · omega
      · intro x hx
        rcases List.mem_append.1 hx with hx | hx
        · have := hI.lt x (List.mem_append_left _ hx); omega
        · rcases List.mem_cons.1 hx with rfl | hx
          · omega
          · have := hI.lt x (List.mem_append_right _ hx); omega
theorem stable_p (cp cc : Bool) (g0 g c n : Nat) (m : MktD) (hn : m.hou.length = n) (h1 : 1 ≤ n) (h6 : n ≤ 6) :
    ACall Try.prog 101 [.v (.slice (some ⟨g0, 0, none⟩) n c), intA n, cmpV g] [.rw (.slice (some ⟨g0, 0, none⟩) n c) 3 1 ((natsI (List.range n)).map intRow), mkE g cp cc m] (fun r h' => ∃ l, l.Pairwise (KB (asks m)) ∧ (∀ x, x ∈ l ↔ x < n) ∧ l.length = n ∧ h' = [.rw (.slice (some ⟨g0, 0, none⟩) n c) 3 1 ((natsI l).map intRow), mkE g cp cc m]) := by
  refine acall_of_awp T0 Try.func101 rfl rfl rfl ?_
  repeat (first | refine awp_seq ?_ | refine awp_block ?_ | refine awp_region_lit rfl ?_ | ((first | (show AWL _ _ _ (⟨_, .move _, _, _, _, _⟩ :: _) _ _ _; refine awl_pw ?wtq (pv_move rfl rfl) rfl rfl ?_) | (show AWL _ _ _ (⟨_, .assign _, _, _, _, _⟩ :: _) _ _ _; refine awl_pw ?wtq (pv_assign rfl rfl) rfl rfl ?_)); case wtq => exact wtA) | refine awl_nil ?_)
  refine awp_loop (fun w s h => s = [(0, .v (.slice (some ⟨g0, 0, none⟩) n c)), (1, intA n), (2, cmpV g), (6, intA 20), (7, intA 0), (8, intA 20)] ∧ h = [.rw (.slice (some ⟨g0, 0, none⟩) n c) 3 1 ((natsI (List.range n)).map intRow), mkE g cp cc m]) ?_ (n := 0) ⟨rfl, rfl⟩ ssA rcA
  rintro w s h ⟨rfl, rfl⟩
  repeat (first | refine awp_seq ?_ | refine awp_region_lit rfl ?_ | refine awp_exit ?_ | refine then_n ?_ | refine awp_cond_f rfl (by first | rfl | assumption | exact dF (by omega)) ?_ | ((first | (show AWL _ _ _ (⟨_, .move _, _, _, _, _⟩ :: _) _ _ _; refine awl_pw ?wtq (pv_move rfl rfl) rfl rfl ?_) | (show AWL _ _ _ (⟨_, .binOp .leq _ _ _ _, _, _, _, _⟩ :: _) _ _ _; refine awl_pw ?wtq (pv_leq rfl rfl rfl) rfl rfl ?_)); case wtq => exact wtA) | refine awl_nil ?_)
  refine awl_hw wtA (st_acall T0 (insert_p cp cc g0 g c n m hn h1 h6) rfl rfl rfl rfl (by first | exact callee_lit | exact callee_v | exact callee_fn | assumption) rcA raA rfl (by first | ((repeat' (first | exact SubH.refl _ | apply SubH.cons | exact Pick.here | apply Pick.there)); all_goals fail) | fail) (fun _ _ => trivial) ?_)
  rintro r h ⟨l, hl1, hl2, hl3, rfl⟩
  simp only [List.cons_append, List.nil_append]
  repeat (first | refine awp_block ?_ | refine awl_nil ?_)
  refine awp_loop (fun w s h => s = [(0, .v (.slice (some ⟨g0, 0, none⟩) n c)), (1, intA n), (2, cmpV g), (6, intA 20)] ∧ h = [.rw (.slice (some ⟨g0, 0, none⟩) n c) 3 1 ((natsI l).map intRow), mkE g cp cc m]) ?_ (n := 0) ⟨rfl, rfl⟩ ssA rcA
  rintro w s h ⟨rfl, rfl⟩
  repeat (first | refine awp_seq ?_ | refine awp_region_lit rfl ?_ | refine awp_exit ?_ | refine then_n ?_ | refine then_x ?_ | refine blk_x ?_ | refine rnd_x ?_ | refine awp_cond_f rfl (by first | rfl | assumption | exact dF (by omega)) ?_ | ((first | (show AWL _ _ _ (⟨_, .move _, _, _, _, _⟩ :: _) _ _ _; refine awl_pw ?wtq (pv_move rfl rfl) rfl rfl ?_) | (show AWL _ _ _ (⟨_, .binOp .lss _ _ _ _, _, _, _, _⟩ :: _) _ _ _; refine awl_pw ?wtq (pv_lss rfl rfl rfl) rfl rfl ?_)); case wtq => exact wtA) | refine awl_nil ?_)
  exact body_n .nil (SubH.refl _) ⟨l, hl1, hl2, hl3, rfl⟩
theorem sort_p (cp cc : Bool) (g0 g c n : Nat) (m : MktD) (hn : m.hou.length = n) (h1 : 1 ≤ n) (h6 : n ≤ 6) :
    ACall Try.prog 95 [.v (.slice (some ⟨g0, 0, none⟩) n c), cmpV g] [.rw (.slice (some ⟨g0, 0, none⟩) n c) 3 1 ((natsI (List.range n)).map intRow), mkE g cp cc m] (fun r h' => ∃ l, l.Pairwise (KB (asks m)) ∧ (∀ x, x ∈ l ↔ x < n) ∧ l.length = n ∧ h' = [.rw (.slice (some ⟨g0, 0, none⟩) n c) 3 1 ((natsI l).map intRow), mkE g cp cc m]) := by
  refine acall_of_awp T0 Try.func95 rfl rfl rfl ?_
  repeat (first | refine awp_region_lit rfl ?_ | ((first | (show AWL _ _ _ (⟨_, .move _, _, _, _, _⟩ :: _) _ _ _; refine awl_pw ?wtq (pv_move rfl rfl) rfl rfl ?_) | (show AWL _ _ _ (⟨_, .call ⟨.builtin .len, _, _⟩, _, _, _, _⟩ :: _) _ _ _; refine awl_pw ?wtq (pv_len_v T0 rfl rfl rfl) rfl rfl ?_)); case wtq => exact wtA))
  refine awl_hw wtA (st_acall T0 (stable_p cp cc g0 g c n m hn h1 h6) rfl rfl rfl rfl (by first | exact callee_lit | exact callee_v | exact callee_fn | assumption) rcA raA rfl (by first | ((repeat' (first | exact SubH.refl _ | apply SubH.cons | exact Pick.here | apply Pick.there)); all_goals fail) | fail) (fun _ _ => trivial) ?_)
  rintro r h ⟨l, hl1, hl2, hl3, rfl⟩
  repeat (first | refine awl_nil ?_)
  exact body_n .nil rcA ⟨l, hl1, hl2, hl3, rfl⟩
end Go.Proofs.Ytallicfckbdeaaa
