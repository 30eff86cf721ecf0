/- Orders are sorted by their minutes: walks. -/
import Derived.Test.YteaoclpikdmkiaaNg
import Derived.Test.YteaoclpikdmkiaaNp
import Derived.Test.YteaoclpikdmkiaaTlw
import Derived.Test.YteaoclpikdmkiaaTz
import Derived.Test.YteaoclpikdmkiaaTv
namespace Go.Proofs.Yteaoclpikdmkiaa
open Go Go.RowKit Go.Tl
set_option linter.unusedVariables false
set_option linter.unusedSimpArgs false
set_option maxRecDepth 100000
set_option maxHeartbeats 4000000
def natsI (l : List Nat) : List Int := l.map fun (i : Nat) => (i : Int)
theorem natsI_len (l : List Nat) : (natsI l).length = l.length := List.length_map _
theorem getD_mid {α : Type} {d x : α} {l r : List α} {k : Nat} (h : l.length = k) : (l ++ x :: r).getD k d = x := by
  subst h
  simp [List.getD_eq_getElem?_getD]
theorem getD_mid2 {α : Type} {d x y : α} {l r : List α} {k : Nat} (h : l.length = k) : (l ++ x :: y :: r).getD (k + 1) d = y := by
  subst h
  rw [List.getD_eq_getElem?_getD, List.getElem?_append_right (by omega), show l.length + 1 - l.length = 1 by omega]
  rfl
theorem set_mid {α : Type} {x y : α} {l r : List α} {k : Nat} (h : l.length = k) : (l ++ x :: r).set k y = l ++ y :: r := by
  subst h
  simp [List.set_append]
theorem set_mid2 {α : Type} {x y z : α} {l r : List α} {k : Nat} (h : l.length = k) : (l ++ x :: y :: r).set (k + 1) z = l ++ x :: z :: r := by
  subst h
  rw [List.set_append, if_neg (by omega), show l.length + 1 - l.length = 1 by omega]
  rfl
theorem row_at (ys : List Int) (k : Nat) (hk : k < ys.length) : ((ys.map intRow).getD k [])[0]? = some (intA (ys.getD k 0)) := by
  simp [List.getD_eq_getElem?_getD, hk, intRow]
theorem row_set (ys : List Int) (k : Nat) (x : Int) (hk : k < ys.length) : (ys.map intRow).set k (spA ((ys.map intRow).getD k []) 0 [intA x]) = (ys.set k x).map intRow := by
  have e : spA ((ys.map intRow).getD k []) 0 [intA x] = intRow x := by simp [List.getD_eq_getElem?_getD, hk, intRow, spA]
  rw [e, List.map_set]
/-- an order is put among those before it that are sorted: it lies behind A, and B has been passed -/
structure InsB (t : List Int) (i j : Nat) (A B : List Nat) : Prop where
  la : A.length = j
  lb : A.length + B.length = i
  srt : (A ++ B).Pairwise (KB t)
  lt : ∀ x ∈ A ++ B, x < i
  gt : ∀ x ∈ B, KB t i x
theorem ins_start {t : List Int} {i : Nat} {A : List Nat} (hl : A.length = i) (hs : A.Pairwise (KB t)) (hlt : ∀ x ∈ A, x < i) : InsB t i i A [] :=
  ⟨hl, hl, by simpa using hs, by simpa using hlt, fun _ h => nomatch h⟩
theorem ins_step {t : List Int} {i j a : Nat} {A B : List Nat} (h : InsB t i (j + 1) (A ++ [a]) B) (hlt : t.getD i 0 < t.getD a 0) : InsB t i j A (a :: B) :=
  ⟨by have := h.la; simp at this; omega, by have := h.lb; simp at this ⊢; omega, by simpa using h.srt, by simpa using h.lt, fun x hx => by
    rcases List.mem_cons.1 hx with rfl | hx
    · exact .inl hlt
    · exact h.gt x hx⟩
theorem ins_done0 {t : List Int} {i : Nat} {B : List Nat} (h : InsB t i 0 [] B) : (i :: B).Pairwise (KB t) := List.pairwise_cons.2 ⟨h.gt, by simpa using h.srt⟩
theorem ins_done {t : List Int} {i j a : Nat} {A B : List Nat} (h : InsB t i (j + 1) (A ++ [a]) B) (hle : ¬ t.getD i 0 < t.getD a 0) : (A ++ [a] ++ i :: B).Pairwise (KB t) := by
  have hs := List.pairwise_append.1 h.srt
  have hai : KB t a i := by
    have h1 := h.lt a (by simp)
    unfold KB
    omega
  refine List.pairwise_append.2 ⟨hs.1, List.pairwise_cons.2 ⟨h.gt, hs.2.1⟩, fun x hx y hy => ?_⟩
  rcases List.mem_cons.1 hy with rfl | hy
  · rcases List.mem_append.1 hx with hx | hx
    · exact kb_trans ((List.pairwise_append.1 hs.1).2.2 x hx a (by simp)) hai
    · rw [List.mem_singleton.1 hx]; exact hai
  · exact hs.2.2 x hx y hy
/-- the orders, the first i of them sorted -/
abbrev insL (A : List Nat) (i n : Nat) : List Int := natsI (A ++ List.range' i (n - i))
theorem range_cut {i n : Nat} (h : i < n) : List.range' i (n - i) = i :: List.range' (i + 1) (n - (i + 1)) := by
  rw [show n - i = (n - (i + 1)) + 1 by omega, List.range'_succ]
attribute [local irreducible] AWP AWL AOp PV LV AWT AWE
theorem cmp_p (cp : Bool) (g : Nat) (t : List Int) (a b : Nat) (ha : a < t.length) (hb : b < t.length) (h1 : -1000 ≤ t.getD a 0 ∧ t.getD a 0 ≤ 1000) (h2 : -1000 ≤ t.getD b 0 ∧ t.getD b 0 ≤ 1000) :
    ACall Try.prog 79 [intA a, intA b, .v (ptrV g)] [.cl g 25 [.t (intsT cp t)]] (fun r h' => r = intA (t.getD a 0 - t.getD b 0) ∧ h' = [.cl g 25 [.t (intsT cp t)]]) := by
  refine acall_of_awp T0 Try.func79 rfl rfl rfl ?_
  repeat (first | refine awp_seq ?_ | refine awp_region_lit rfl ?_ | ((first | (show AWL _ _ _ (⟨_, .assign _, _, _, _, _⟩ :: _) _ _ _; refine awl_pw ?wtq (pv_assign rfl rfl) rfl rfl ?_)); case wtq => first | exact wt_none rfl | exact wt_some' rfl rfl rfl rfl (by first | rfl | assumption | exact dT (by omega) | exact dF (by omega))) | refine awl_nil ?_)
  refine awp_tree T0 [(0, 1), (1, 0), (2, 0), (3, 1), (4, 1), (5, 0), (6, 0), (7, 1), (8, 0), (9, 0)] (.op 0 1 (.op 1 0 (.op 2 0 (.op 3 1 (.op 4 1 (.op 5 0 (.op 6 0 (.op 7 1 (.op 8 0 (.op 9 0 .stop)))))))))) _ rfl (by kernel_rfl) (SubH.refl _) ?_
  refine awt_lo rfl (wt_none rfl) (lv_cl1 T0 rfl rfl rfl (by solve | repeat' constructor) (by first | rfl | assumption)) rfl rfl rfl ?_
  refine awt_po rfl (wt_none rfl) (pv_move rfl rfl) rfl rfl ?_
  refine awt_po rfl (wt_none rfl) (pv_ix_t T0 rfl rfl rfl rfl (by omega) (by first | exact (rfl : Int.toNat 0 = 0) | exact Int.toNat_natCast _ | rfl)) rfl rfl ?_
  refine awt_lo rfl (wt_none rfl) (lv_elt_sc T0 rfl rfl rfl rfl) rfl rfl rfl ?_
  refine awt_lo rfl (wt_none rfl) (lv_cl1 T0 rfl rfl rfl (by solve | repeat' constructor) (by first | rfl | assumption)) rfl rfl rfl ?_
  refine awt_po rfl (wt_none rfl) (pv_move rfl rfl) rfl rfl ?_
  refine awt_po rfl (wt_none rfl) (pv_ix_t T0 rfl rfl rfl rfl (by omega) (by first | exact (rfl : Int.toNat 0 = 0) | exact Int.toNat_natCast _ | rfl)) rfl rfl ?_
  refine awt_lo rfl (wt_none rfl) (lv_elt_sc T0 rfl rfl rfl rfl) rfl rfl rfl ?_
  refine awt_po rfl (wt_none rfl) (pv_sub rfl rfl rfl (by first | assumption | exact wr64 (by omega))) rfl rfl ?_
  refine awt_po rfl (wt_none rfl) (pv_assign rfl rfl) rfl rfl ?_
  refine awt_end ?_
  repeat (first | refine awp_ret ?_)
  exact body_r (h' := [.cl g 25 [.t (intsT cp t)]]) (.cons rfl .nil) (by solve | repeat' constructor) ⟨rfl, rfl⟩
abbrev cmpV (g : Nat) : AV := .v (.func (.func 79) #[] #[ptrV g])
theorem insert_p (cp : Bool) (g0 g c n : Nat) (t : List Int) (hn : t.length = n) (h1 : 1 ≤ n) (h6 : n ≤ 6) (hr : ∀ a, a < n → -1000 ≤ t.getD a 0 ∧ t.getD a 0 ≤ 1000) :
    ACall Try.prog 99 [.v (.slice (some ⟨g0, 0, none⟩) n c), intA 0, intA n, cmpV g] [.rw (.slice (some ⟨g0, 0, none⟩) n c) 3 1 ((natsI (List.range n)).map intRow), .cl g 25 [.t (intsT cp t)]] (fun r h' => ∃ l, l.Pairwise (KB t) ∧ (∀ x, x ∈ l ↔ x < n) ∧ l.length = n ∧ h' = [.rw (.slice (some ⟨g0, 0, none⟩) n c) 3 1 ((natsI l).map intRow), .cl g 25 [.t (intsT cp t)]]) := by
  have h0 : List.range n = [0] ++ List.range' 1 (n - 1) := by
    obtain ⟨k, rfl⟩ : ∃ k, n = k + 1 := ⟨n - 1, by omega⟩
    rw [List.range_eq_range', List.range'_succ]; rfl
  rw [h0]
  refine acall_of_awp T0 Try.func99 rfl rfl rfl ?_
  repeat (first | refine awp_seq ?_ | refine awp_block ?_ | refine awp_region_lit rfl ?_ | ((first | (show AWL _ _ _ (⟨_, .move _, _, _, _, _⟩ :: _) _ _ _; refine awl_pw ?wtq (pv_move rfl rfl) rfl rfl ?_) | (show AWL _ _ _ (⟨_, .assign _, _, _, _, _⟩ :: _) _ _ _; refine awl_pw ?wtq (pv_assign rfl rfl) rfl rfl ?_) | (show AWL _ _ _ (⟨_, .binOp .add _ _ _ _, _, _, _, _⟩ :: _) _ _ _; refine awl_pw ?wtq (pv_add rfl rfl rfl (by first | assumption | exact wr64 (by omega))) rfl rfl ?_)); case wtq => first | exact wt_none rfl | exact wt_some' rfl rfl rfl rfl (by first | rfl | assumption | exact dT (by omega) | exact dF (by omega))) | refine awl_nil ?_)
  refine awp_loop (fun m s h => ∃ (i : Nat) (A : List Nat), 1 ≤ i ∧ i ≤ n ∧ m = n - i ∧ A.length = i ∧ A.Pairwise (KB t) ∧ (∀ x ∈ A, x < i) ∧ s = [(0, .v (.slice (some ⟨g0, 0, none⟩) n c)), (1, intA 0), (2, intA n), (3, cmpV g), (8, intA i)] ∧ h = [.rw (.slice (some ⟨g0, 0, none⟩) n c) 3 1 ((insL A i n).map intRow), .cl g 25 [.t (intsT cp t)]]) ?_ ⟨1, [0], Nat.le_refl _, h1, rfl, rfl, by simp, by simp, rfl, rfl⟩ (by first | ((repeat' (first | exact True.intro | refine ⟨rfl, ?_⟩)); all_goals fail) | fail) (by solve | repeat' constructor)
  rintro m s h ⟨i, A, hi1, hi, rfl, hA, hsrt, hlt, rfl, rfl⟩
  by_cases hin : i < n
  case neg =>
    repeat (first | refine awp_seq ?_ | refine awp_region_lit rfl ?_ | refine awp_exit ?_ | refine then_n ?_ | refine then_x ?_ | refine blk_x ?_ | refine rnd_x ?_ | refine awp_cond_f rfl (by first | rfl | assumption | exact dF (by omega)) ?_ | ((first | (show AWL _ _ _ (⟨_, .move _, _, _, _, _⟩ :: _) _ _ _; refine awl_pw ?wtq (pv_move rfl rfl) rfl rfl ?_) | (show AWL _ _ _ (⟨_, .binOp .lss _ _ _ _, _, _, _, _⟩ :: _) _ _ _; refine awl_pw ?wtq (pv_lss rfl rfl rfl) rfl rfl ?_)); case wtq => first | exact wt_none rfl | exact wt_some' rfl rfl rfl rfl (by first | rfl | assumption | exact dT (by omega) | exact dF (by omega))) | refine awl_nil ?_)
    obtain rfl : i = n := by omega
    refine body_n .nil (SubH.refl _) ⟨A, hsrt, fun x => ⟨hlt x, all_in (srt_nodup hsrt) hlt hA x⟩, hA, ?_⟩
    unfold insL
    simp
  repeat (first | refine awp_seq ?_ | refine awp_block ?_ | refine awp_region_lit rfl ?_ | refine awp_skip ?_ | refine then_n ?_ | refine awp_cond_t rfl (by first | rfl | assumption | exact dT (by omega)) ?_ | ((first | (show AWL _ _ _ (⟨_, .move _, _, _, _, _⟩ :: _) _ _ _; refine awl_pw ?wtq (pv_move rfl rfl) rfl rfl ?_) | (show AWL _ _ _ (⟨_, .assign _, _, _, _, _⟩ :: _) _ _ _; refine awl_pw ?wtq (pv_assign rfl rfl) rfl rfl ?_) | (show AWL _ _ _ (⟨_, .binOp .lss _ _ _ _, _, _, _, _⟩ :: _) _ _ _; refine awl_pw ?wtq (pv_lss rfl rfl rfl) rfl rfl ?_)); case wtq => first | exact wt_none rfl | exact wt_some' rfl rfl rfl rfl (by first | rfl | assumption | exact dT (by omega) | exact dF (by omega))) | refine awl_nil ?_)
  unfold insL
  rw [range_cut hin]
  obtain ⟨R, hRe⟩ : ∃ R, List.range' (i + 1) (n - (i + 1)) = R := ⟨_, rfl⟩
  have hRl : i + 1 + R.length = n := by rw [← hRe, List.length_range']; omega
  rw [hRe]
  refine awp_loop (fun m s h => ∃ (j : Nat) (A B : List Nat), m = j ∧ InsB t i j A B ∧ s = [(0, .v (.slice (some ⟨g0, 0, none⟩) n c)), (1, intA 0), (2, intA n), (3, cmpV g), (8, intA i), (9, intA j)] ∧ h = [.rw (.slice (some ⟨g0, 0, none⟩) n c) 3 1 ((natsI (A ++ i :: (B ++ R))).map intRow), .cl g 25 [.t (intsT cp t)]]) ?_ ⟨i, A, [], rfl, ins_start hA hsrt hlt, rfl, rfl⟩ (by first | ((repeat' (first | exact True.intro | refine ⟨rfl, ?_⟩)); all_goals fail) | fail) (by solve | repeat' constructor)
  rintro m s h ⟨j, A, B, hm, hI, rfl, rfl⟩
  clear hA hsrt hlt
  have hAB := hI.lb
  have hla := hI.la
  have hR : (natsI (A ++ i :: (B ++ R))).length = i + 1 + R.length := by rw [natsI_len]; simp; omega
  cases j with
  | zero =>
    obtain rfl : A = [] := List.length_eq_zero_iff.1 hla
    repeat (first | refine awp_seq ?_)
    refine awp_treeN T0 [(0, 0), (1, 0), (2, 0), (3, 0), (4, 0), (5, 0), (6, 0), (7, 0), (8, 1), (9, 0), (10, 0), (11, 0), (12, 0), (13, 1), (14, 3), (15, 0), (16, 0)] (.op 0 0 (.op 1 0 (.op 2 0 (.op 3 0 (.op 4 0 (.op 5 0 (.op 6 0 (.op 7 0 (.op 8 1 (.op 9 0 (.op 10 0 (.op 11 0 (.op 12 0 (.op 13 1 (.op 14 3 (.op 15 0 (.op 16 0 .stop))))))))))))))))) _ rfl (by kernel_rfl) (SubH.refl _) ?_
    refine awt_po rfl (wt_none rfl) (pv_move rfl rfl) rfl rfl ?_
    refine awt_po rfl (wt_none rfl) (pv_move rfl rfl) rfl rfl ?_
    refine awt_po rfl (wt_none rfl) (pv_gtr rfl rfl rfl) rfl rfl ?_
    refine awt_po rfl (wt_none rfl) (pv_move rfl rfl) rfl rfl ?_
    refine awt_sk0 rfl (wf_some rfl rfl rfl rfl (by first | rfl | assumption | exact dT (by omega) | exact dF (by omega))) rfl rfl (fun _ _ h => h) rfl ?_
    refine awt_sk0 rfl (wf_some rfl rfl rfl rfl (by first | rfl | assumption | exact dT (by omega) | exact dF (by omega))) rfl rfl (fun _ _ h => h) rfl ?_
    refine awt_sk0 rfl (wf_some rfl rfl rfl rfl (by first | rfl | assumption | exact dT (by omega) | exact dF (by omega))) rfl rfl (fun _ _ h => h) rfl ?_
    refine awt_sk0 rfl (wf_some rfl rfl rfl rfl (by first | rfl | assumption | exact dT (by omega) | exact dF (by omega))) rfl rfl (fun _ _ h => h) rfl ?_
    refine awt_sk1 rfl (wf_some rfl rfl rfl rfl (by first | rfl | assumption | exact dT (by omega) | exact dF (by omega))) rfl rfl (fun _ _ h => h) rfl ?_
    refine awt_sk0 rfl (wf_some rfl rfl rfl rfl (by first | rfl | assumption | exact dT (by omega) | exact dF (by omega))) rfl rfl (fun _ _ h => h) rfl ?_
    refine awt_sk0 rfl (wf_some rfl rfl rfl rfl (by first | rfl | assumption | exact dT (by omega) | exact dF (by omega))) rfl rfl (fun _ _ h => h) rfl ?_
    refine awt_sk0 rfl (wf_some rfl rfl rfl rfl (by first | rfl | assumption | exact dT (by omega) | exact dF (by omega))) rfl rfl (fun _ _ h => h) rfl ?_
    refine awt_sk0 rfl (wf_some rfl rfl rfl rfl (by first | rfl | assumption | exact dT (by omega) | exact dF (by omega))) rfl rfl (fun _ _ h => h) rfl ?_
    refine awt_sk1 rfl (wf_some rfl rfl rfl rfl (by first | rfl | assumption | exact dT (by omega) | exact dF (by omega))) rfl rfl (fun _ _ h => h) rfl ?_
    refine awt_sk3 rfl (wf_some rfl rfl rfl rfl (by first | rfl | assumption | exact dT (by omega) | exact dF (by omega))) rfl rfl ?_
    first
      | refine awe_p rfl (wt_some' rfl rfl rfl rfl (by first | rfl | assumption | exact dT (by omega) | exact dF (by omega))) (pv_lss rfl rfl rfl) rfl rfl ?_
      | refine awe_sku rfl (wu_some rfl rfl rfl rfl) rfl rfl ?_
      | refine awe_sk rfl (wf_some rfl rfl rfl rfl (by first | rfl | assumption | exact dT (by omega) | exact dF (by omega))) rfl rfl ?_
    first
      | refine awe_p rfl (wt_none rfl) (pv_pick_t rfl rfl (by first | rfl | assumption | exact dT (by omega) | exact dF (by omega)) rfl) rfl rfl ?_
      | refine awe_p rfl (wt_none rfl) (pv_pick_f rfl rfl (by first | rfl | assumption | exact dT (by omega) | exact dF (by omega)) rfl) rfl rfl ?_
    refine awe_end ?_
    repeat (first | refine awp_region_lit rfl ?_ | refine awp_exit ?_ | refine then_n ?_ | refine awp_cond_f rfl (by first | rfl | assumption | exact dF (by omega)) ?_ | ((first | (show AWL _ _ _ (⟨_, .move _, _, _, _, _⟩ :: _) _ _ _; refine awl_pw ?wtq (pv_move rfl rfl) rfl rfl ?_) | (show AWL _ _ _ (⟨_, .assign _, _, _, _, _⟩ :: _) _ _ _; refine awl_pw ?wtq (pv_assign rfl rfl) rfl rfl ?_) | (show AWL _ _ _ (⟨_, .binOp .add _ _ _ _, _, _, _, _⟩ :: _) _ _ _; refine awl_pw ?wtq (pv_add rfl rfl rfl (by first | assumption | exact wr64 (by omega))) rfl rfl ?_)); case wtq => first | exact wt_none rfl | exact wt_some' rfl rfl rfl rfl (by first | rfl | assumption | exact dT (by omega) | exact dF (by omega))) | refine awl_nil ?_)
    rw [show natsI ([] ++ i :: (B ++ R)) = insL (i :: B) (i + 1) n from by unfold insL; rw [hRe]; rfl]
    refine rnd_n _ _ _ ?_ ⟨i + 1, i :: B, by omega, by omega, rfl, by simp at hAB ⊢; omega, ins_done0 hI, ?_, rfl, rfl⟩ (by first | ((repeat' (first | exact True.intro | refine ⟨rfl, ?_⟩)); all_goals fail) | fail) (by solve | repeat' constructor)
    · omega
    · intro x hx
      rcases List.mem_cons.1 hx with rfl | hx
      · omega
      · have := hI.lt x (by simpa using hx); omega
  | succ j =>
    obtain ⟨A, a, rfl⟩ : ∃ A' a, A = A' ++ [a] := ⟨A.dropLast, A.getLast (fun e => by subst e; cases hla), (List.dropLast_concat_getLast _).symm⟩
    have hla' : A.length = j := by simpa using hla
    have hai := hI.lt a (by simp)
    have hjn : j + 1 < n := by omega
    have hnz : (natsI A).length = j := by rw [natsI_len]; exact hla'
    have hz : natsI (A ++ [a] ++ i :: (B ++ R)) = natsI A ++ (a : Int) :: (i : Int) :: natsI (B ++ R) := by simp [natsI]
    have hz2 : natsI (A ++ i :: (a :: B ++ R)) = natsI A ++ (i : Int) :: (a : Int) :: natsI (B ++ R) := by simp [natsI]
    rw [hz] at hR ⊢
    have e1 : (natsI A ++ (a : Int) :: (i : Int) :: natsI (B ++ R)).getD j 0 = a := getD_mid hnz
    have e2 : (natsI A ++ (a : Int) :: (i : Int) :: natsI (B ++ R)).getD (j + 1) 0 = i := getD_mid2 hnz
    have e3 : ((natsI A ++ (a : Int) :: (i : Int) :: natsI (B ++ R)).set (j + 1) a).set j i = natsI A ++ (i : Int) :: (a : Int) :: natsI (B ++ R) := by rw [set_mid2 hnz, set_mid hnz]
    generalize natsI A ++ (a : Int) :: (i : Int) :: natsI (B ++ R) = zs at *
    have r1 := row_at zs (j + 1) (by omega)
    have r2 := row_at zs j (by omega)
    rw [e1] at r2
    rw [e2] at r1
    have hsub : IntKind.i64.wrap (((j + 1 : Nat) : Int) - 1) = (j : Int) := (wr64 (x := ((j + 1 : Nat) : Int) - 1) (by omega)).trans (by omega)
    have hri := hr i hin
    have hra := hr a (by omega)
    by_cases hc : t.getD i 0 < t.getD a 0
    · have hcb : decide (t.getD i 0 - t.getD a 0 < 0) = true := decide_eq_true (by omega)
      repeat (first | refine awp_seq ?_)
      refine awp_treeN T0 [(0, 0), (1, 0), (2, 0), (3, 0), (4, 0), (5, 0), (6, 0), (7, 0), (8, 1), (9, 0), (10, 0), (11, 0), (12, 0), (13, 1), (14, 3), (15, 0), (16, 0)] (.op 0 0 (.op 1 0 (.op 2 0 (.op 3 0 (.op 4 0 (.op 5 0 (.op 6 0 (.op 7 0 (.op 8 1 (.op 9 0 (.op 10 0 (.op 11 0 (.op 12 0 (.op 13 1 (.op 14 3 (.op 15 0 (.op 16 0 .stop))))))))))))))))) [.rw _ _ _ _] rfl (by kernel_rfl) (by solve | repeat' constructor) ?_
      refine awt_po rfl (wt_none rfl) (pv_move rfl rfl) rfl rfl ?_
      refine awt_po rfl (wt_none rfl) (pv_move rfl rfl) rfl rfl ?_
      refine awt_po rfl (wt_none rfl) (pv_gtr rfl rfl rfl) rfl rfl ?_
      refine awt_po rfl (wt_none rfl) (pv_move rfl rfl) rfl rfl ?_
      refine awt_po rfl (wt_some' rfl rfl rfl rfl (by first | rfl | assumption | exact dT (by omega) | exact dF (by omega))) (pv_move rfl rfl) rfl rfl ?_
      refine awt_po rfl (wt_some' rfl rfl rfl rfl (by first | rfl | assumption | exact dT (by omega) | exact dF (by omega))) (pv_move rfl rfl) rfl rfl ?_
      refine awt_po rfl (wt_some' rfl rfl rfl rfl (by first | rfl | assumption | exact dT (by omega) | exact dF (by omega))) (pv_move rfl rfl) rfl rfl ?_
      refine awt_po rfl (wt_some' rfl rfl rfl rfl (by first | rfl | assumption | exact dT (by omega) | exact dF (by omega))) (pv_ix_own T0 rfl rfl rfl rfl (by omega) (by first | exact (rfl : Int.toNat 0 = 0) | exact Int.toNat_natCast _ | rfl)) rfl rfl ?_
      refine awt_lo rfl (wt_some' rfl rfl rfl rfl (by first | rfl | assumption | exact dT (by omega) | exact dF (by omega))) (lv_rp T0 rfl rfl rfl (by solve | repeat' constructor) (by first | omega | (simp; omega)) (by omega) (by first | assumption | rfl)) rfl rfl rfl ?_
      refine awt_po rfl (wt_some' rfl rfl rfl rfl (by first | rfl | assumption | exact dT (by omega) | exact dF (by omega))) (pv_move rfl rfl) rfl rfl ?_
      refine awt_po rfl (wt_some' rfl rfl rfl rfl (by first | rfl | assumption | exact dT (by omega) | exact dF (by omega))) (pv_move rfl rfl) rfl rfl ?_
      refine awt_po rfl (wt_some' rfl rfl rfl rfl (by first | rfl | assumption | exact dT (by omega) | exact dF (by omega))) (pv_sub rfl rfl rfl (by first | assumption | exact wr64 (by omega))) rfl rfl ?_
      refine awt_po rfl (wt_some' rfl rfl rfl rfl (by first | rfl | assumption | exact dT (by omega) | exact dF (by omega))) (pv_ix_own T0 rfl rfl rfl rfl (by omega) (by first | exact (rfl : Int.toNat 0 = 0) | exact Int.toNat_natCast _ | rfl)) rfl rfl ?_
      refine awt_lo rfl (wt_some' rfl rfl rfl rfl (by first | rfl | assumption | exact dT (by omega) | exact dF (by omega))) (lv_rp T0 rfl rfl rfl (by solve | repeat' constructor) (by first | omega | (simp; omega)) (by omega) (by first | assumption | rfl)) rfl rfl rfl ?_
      refine awt_s (md := fun _ => True) rfl (wt_some' rfl rfl rfl rfl (by first | rfl | assumption | exact dT (by omega) | exact dF (by omega))) (st_acall T0 (cmp_p cp g t i a (by omega) (by omega) hri hra) rfl rfl rfl rfl (by first | exact callee_lit | exact callee_v | exact callee_fn | assumption) (by solve | repeat' constructor) (by first | rfl | assumption) rfl (by first | ((repeat' (first | exact SubH.refl _ | apply SubH.cons | exact Pick.here | apply Pick.there)); all_goals fail) | fail) (fun _ _ => trivial) ?_)
      rintro r h ⟨rfl, rfl⟩
      first
        | refine awe_p rfl (wt_some' rfl rfl rfl rfl (by first | rfl | assumption | exact dT (by omega) | exact dF (by omega))) (pv_lss rfl rfl rfl) rfl rfl ?_
        | refine awe_sku rfl (wu_some rfl rfl rfl rfl) rfl rfl ?_
        | refine awe_sk rfl (wf_some rfl rfl rfl rfl (by first | rfl | assumption | exact dT (by omega) | exact dF (by omega))) rfl rfl ?_
      first
        | refine awe_p rfl (wt_none rfl) (pv_pick_t rfl rfl (by first | rfl | assumption | exact dT (by omega) | exact dF (by omega)) rfl) rfl rfl ?_
        | refine awe_p rfl (wt_none rfl) (pv_pick_f rfl rfl (by first | rfl | assumption | exact dT (by omega) | exact dF (by omega)) rfl) rfl rfl ?_
      refine awe_end ?_
      repeat (first | refine awp_seq ?_ | refine awp_block ?_ | refine awp_skip ?_ | refine then_n ?_ | refine awp_cond_t rfl (by first | rfl | assumption | exact dT (by omega)) ?_)
      refine awp_tree T0 [(0, 0), (1, 0), (2, 0), (3, 0), (4, 0), (5, 0), (6, 0), (7, 0), (8, 0), (9, 1), (10, 0), (11, 0), (12, 0), (13, 1), (14, 0), (15, 3), (16, 0), (17, 3)] (.op 0 0 (.op 1 0 (.op 2 0 (.op 3 0 (.op 4 0 (.op 5 0 (.op 6 0 (.op 7 0 (.op 8 0 (.op 9 1 (.op 10 0 (.op 11 0 (.op 12 0 (.op 13 1 (.op 14 0 (.op 15 3 (.op 16 0 (.op 17 3 .stop)))))))))))))))))) [.rw _ _ _ _] rfl (by kernel_rfl) (by solve | repeat' constructor) ?_
      refine awt_po rfl (wt_none rfl) (pv_move rfl rfl) rfl rfl ?_
      refine awt_po rfl (wt_none rfl) (pv_move rfl rfl) rfl rfl ?_
      refine awt_po rfl (wt_none rfl) (pv_move rfl rfl) rfl rfl ?_
      refine awt_po rfl (wt_none rfl) (pv_move rfl rfl) rfl rfl ?_
      refine awt_po rfl (wt_none rfl) (pv_sub rfl rfl rfl (by first | assumption | exact wr64 (by omega))) rfl rfl ?_
      refine awt_po rfl (wt_none rfl) (pv_move rfl rfl) rfl rfl ?_
      refine awt_po rfl (wt_none rfl) (pv_move rfl rfl) rfl rfl ?_
      refine awt_po rfl (wt_none rfl) (pv_sub rfl rfl rfl (by first | assumption | exact wr64 (by omega))) rfl rfl ?_
      refine awt_po rfl (wt_none rfl) (pv_ix_own T0 rfl rfl rfl rfl (by omega) (by first | exact (rfl : Int.toNat 0 = 0) | exact Int.toNat_natCast _ | rfl)) rfl rfl ?_
      refine awt_lo rfl (wt_none rfl) (lv_rp T0 rfl rfl rfl (by solve | repeat' constructor) (by first | omega | (simp; omega)) (by omega) (by first | assumption | rfl)) rfl rfl rfl ?_
      refine awt_po rfl (wt_none rfl) (pv_move rfl rfl) rfl rfl ?_
      refine awt_po rfl (wt_none rfl) (pv_move rfl rfl) rfl rfl ?_
      refine awt_po rfl (wt_none rfl) (pv_ix_own T0 rfl rfl rfl rfl (by omega) (by first | exact (rfl : Int.toNat 0 = 0) | exact Int.toNat_natCast _ | rfl)) rfl rfl ?_
      refine awt_lo rfl (wt_none rfl) (lv_rp T0 rfl rfl rfl (by solve | repeat' constructor) (by first | omega | (simp; omega)) (by omega) (by first | assumption | rfl)) rfl rfl rfl ?_
      refine awt_po rfl (wt_none rfl) (pv_ix_own T0 rfl rfl rfl rfl (by omega) (by first | exact (rfl : Int.toNat 0 = 0) | exact Int.toNat_natCast _ | rfl)) rfl rfl ?_
      refine awt_s (md := fun _ => True) rfl (wt_none rfl) (aop_store_rp T0 rfl rfl rfl rfl rfl rfl rfl rfl (by solve | repeat' constructor) (by first | omega | (simp; omega)) (by omega) rfl trivial ?_)
      first
        | refine awe_p rfl (wt_none rfl) (pv_ix_t T0 rfl rfl rfl rfl (by omega) (by first | exact (rfl : Int.toNat 0 = 0) | exact Int.toNat_natCast _ | rfl)) rfl rfl ?_
        | refine awe_p rfl (wt_none rfl) (pv_ix_own T0 rfl rfl rfl rfl (by omega) (by first | exact (rfl : Int.toNat 0 = 0) | exact Int.toNat_natCast _ | rfl)) rfl rfl ?_
        | refine awe_p rfl (wt_none rfl) (pv_ix_arr T0 rfl rfl rfl rfl (by omega) (by simp; rfl)) rfl rfl ?_
      refine awe_s (md := fun _ => True) rfl (wt_none rfl) (aop_store_rp T0 rfl rfl rfl rfl rfl rfl rfl rfl (by solve | repeat' constructor) (by first | omega | (simp; omega)) (by omega) rfl trivial ?_)
      refine awe_end ?_
      repeat (first | refine awp_region_lit rfl ?_ | ((first | (show AWL _ _ _ (⟨_, .move _, _, _, _, _⟩ :: _) _ _ _; refine awl_pw ?wtq (pv_move rfl rfl) rfl rfl ?_) | (show AWL _ _ _ (⟨_, .assign _, _, _, _, _⟩ :: _) _ _ _; refine awl_pw ?wtq (pv_assign rfl rfl) rfl rfl ?_) | (show AWL _ _ _ (⟨_, .binOp .sub _ _ _ _, _, _, _, _⟩ :: _) _ _ _; refine awl_pw ?wtq (pv_sub rfl rfl rfl (by first | assumption | exact wr64 (by omega))) rfl rfl ?_)); case wtq => first | exact wt_none rfl | exact wt_some' rfl rfl rfl rfl (by first | rfl | assumption | exact dT (by omega) | exact dF (by omega))) | refine awl_nil ?_)
      have f1 := row_set zs (j + 1) a (by omega)
      have f2 := row_set (zs.set (j + 1) a) j i (by simp; omega)
      simp only [cellsA]
      rw [f1, f2, e3]
      refine rnd_n _ _ _ ?_ ⟨j, A, a :: B, rfl, ins_step hI hc, rfl, by rw [hz2]⟩ (by first | ((repeat' (first | exact True.intro | refine ⟨rfl, ?_⟩)); all_goals fail) | fail) (by solve | repeat' constructor)
      omega
    · have hcb : decide (t.getD i 0 - t.getD a 0 < 0) = false := decide_eq_false (by omega)
      repeat (first | refine awp_seq ?_)
      refine awp_treeN T0 [(0, 0), (1, 0), (2, 0), (3, 0), (4, 0), (5, 0), (6, 0), (7, 0), (8, 1), (9, 0), (10, 0), (11, 0), (12, 0), (13, 1), (14, 3), (15, 0), (16, 0)] (.op 0 0 (.op 1 0 (.op 2 0 (.op 3 0 (.op 4 0 (.op 5 0 (.op 6 0 (.op 7 0 (.op 8 1 (.op 9 0 (.op 10 0 (.op 11 0 (.op 12 0 (.op 13 1 (.op 14 3 (.op 15 0 (.op 16 0 .stop))))))))))))))))) [.rw _ _ _ _] rfl (by kernel_rfl) (by solve | repeat' constructor) ?_
      refine awt_po rfl (wt_none rfl) (pv_move rfl rfl) rfl rfl ?_
      refine awt_po rfl (wt_none rfl) (pv_move rfl rfl) rfl rfl ?_
      refine awt_po rfl (wt_none rfl) (pv_gtr rfl rfl rfl) rfl rfl ?_
      refine awt_po rfl (wt_none rfl) (pv_move rfl rfl) rfl rfl ?_
      refine awt_po rfl (wt_some' rfl rfl rfl rfl (by first | rfl | assumption | exact dT (by omega) | exact dF (by omega))) (pv_move rfl rfl) rfl rfl ?_
      refine awt_po rfl (wt_some' rfl rfl rfl rfl (by first | rfl | assumption | exact dT (by omega) | exact dF (by omega))) (pv_move rfl rfl) rfl rfl ?_
      refine awt_po rfl (wt_some' rfl rfl rfl rfl (by first | rfl | assumption | exact dT (by omega) | exact dF (by omega))) (pv_move rfl rfl) rfl rfl ?_
      refine awt_po rfl (wt_some' rfl rfl rfl rfl (by first | rfl | assumption | exact dT (by omega) | exact dF (by omega))) (pv_ix_own T0 rfl rfl rfl rfl (by omega) (by first | exact (rfl : Int.toNat 0 = 0) | exact Int.toNat_natCast _ | rfl)) rfl rfl ?_
      refine awt_lo rfl (wt_some' rfl rfl rfl rfl (by first | rfl | assumption | exact dT (by omega) | exact dF (by omega))) (lv_rp T0 rfl rfl rfl (by solve | repeat' constructor) (by first | omega | (simp; omega)) (by omega) (by first | assumption | rfl)) rfl rfl rfl ?_
      refine awt_po rfl (wt_some' rfl rfl rfl rfl (by first | rfl | assumption | exact dT (by omega) | exact dF (by omega))) (pv_move rfl rfl) rfl rfl ?_
      refine awt_po rfl (wt_some' rfl rfl rfl rfl (by first | rfl | assumption | exact dT (by omega) | exact dF (by omega))) (pv_move rfl rfl) rfl rfl ?_
      refine awt_po rfl (wt_some' rfl rfl rfl rfl (by first | rfl | assumption | exact dT (by omega) | exact dF (by omega))) (pv_sub rfl rfl rfl (by first | assumption | exact wr64 (by omega))) rfl rfl ?_
      refine awt_po rfl (wt_some' rfl rfl rfl rfl (by first | rfl | assumption | exact dT (by omega) | exact dF (by omega))) (pv_ix_own T0 rfl rfl rfl rfl (by omega) (by first | exact (rfl : Int.toNat 0 = 0) | exact Int.toNat_natCast _ | rfl)) rfl rfl ?_
      refine awt_lo rfl (wt_some' rfl rfl rfl rfl (by first | rfl | assumption | exact dT (by omega) | exact dF (by omega))) (lv_rp T0 rfl rfl rfl (by solve | repeat' constructor) (by first | omega | (simp; omega)) (by omega) (by first | assumption | rfl)) rfl rfl rfl ?_
      refine awt_s (md := fun _ => True) rfl (wt_some' rfl rfl rfl rfl (by first | rfl | assumption | exact dT (by omega) | exact dF (by omega))) (st_acall T0 (cmp_p cp g t i a (by omega) (by omega) hri hra) rfl rfl rfl rfl (by first | exact callee_lit | exact callee_v | exact callee_fn | assumption) (by solve | repeat' constructor) (by first | rfl | assumption) rfl (by first | ((repeat' (first | exact SubH.refl _ | apply SubH.cons | exact Pick.here | apply Pick.there)); all_goals fail) | fail) (fun _ _ => trivial) ?_)
      rintro r h ⟨rfl, rfl⟩
      first
        | refine awe_p rfl (wt_some' rfl rfl rfl rfl (by first | rfl | assumption | exact dT (by omega) | exact dF (by omega))) (pv_lss rfl rfl rfl) rfl rfl ?_
        | refine awe_sku rfl (wu_some rfl rfl rfl rfl) rfl rfl ?_
        | refine awe_sk rfl (wf_some rfl rfl rfl rfl (by first | rfl | assumption | exact dT (by omega) | exact dF (by omega))) rfl rfl ?_
      first
        | refine awe_p rfl (wt_none rfl) (pv_pick_t rfl rfl (by first | rfl | assumption | exact dT (by omega) | exact dF (by omega)) rfl) rfl rfl ?_
        | refine awe_p rfl (wt_none rfl) (pv_pick_f rfl rfl (by first | rfl | assumption | exact dT (by omega) | exact dF (by omega)) rfl) rfl rfl ?_
      refine awe_end ?_
      repeat (first | refine awp_region_lit rfl ?_ | refine awp_exit ?_ | refine then_n ?_ | refine awp_cond_f rfl (by first | rfl | assumption | exact dF (by omega)) ?_ | ((first | (show AWL _ _ _ (⟨_, .move _, _, _, _, _⟩ :: _) _ _ _; refine awl_pw ?wtq (pv_move rfl rfl) rfl rfl ?_) | (show AWL _ _ _ (⟨_, .assign _, _, _, _, _⟩ :: _) _ _ _; refine awl_pw ?wtq (pv_assign rfl rfl) rfl rfl ?_) | (show AWL _ _ _ (⟨_, .binOp .add _ _ _ _, _, _, _, _⟩ :: _) _ _ _; refine awl_pw ?wtq (pv_add rfl rfl rfl (by first | assumption | exact wr64 (by omega))) rfl rfl ?_)); case wtq => first | exact wt_none rfl | exact wt_some' rfl rfl rfl rfl (by first | rfl | assumption | exact dT (by omega) | exact dF (by omega))) | refine awl_nil ?_)
      rw [show zs = insL (A ++ [a] ++ i :: B) (i + 1) n from by unfold insL; rw [hRe, ← hz]; simp]
      refine rnd_n _ _ _ ?_ ⟨i + 1, A ++ [a] ++ i :: B, by omega, by omega, rfl, by simp at hAB ⊢; omega, ins_done hI hc, ?_, rfl, rfl⟩ (by first | ((repeat' (first | exact True.intro | refine ⟨rfl, ?_⟩)); all_goals fail) | fail) (by solve | repeat' constructor)
      · omega
      · intro x hx
        rcases List.mem_append.1 hx with hx | hx
        · have := hI.lt x (List.mem_append_left _ hx); omega
        · rcases List.mem_cons.1 hx with rfl | hx
          · omega
          · have := hI.lt x (List.mem_append_right _ hx); omega
theorem stable_p (cp : Bool) (g0 g c n : Nat) (t : List Int) (hn : t.length = n) (h1 : 1 ≤ n) (h6 : n ≤ 6) (hr : ∀ a, a < n → -1000 ≤ t.getD a 0 ∧ t.getD a 0 ≤ 1000) :
    ACall Try.prog 91 [.v (.slice (some ⟨g0, 0, none⟩) n c), intA n, cmpV g] [.rw (.slice (some ⟨g0, 0, none⟩) n c) 3 1 ((natsI (List.range n)).map intRow), .cl g 25 [.t (intsT cp t)]] (fun r h' => ∃ l, l.Pairwise (KB t) ∧ (∀ x, x ∈ l ↔ x < n) ∧ l.length = n ∧ h' = [.rw (.slice (some ⟨g0, 0, none⟩) n c) 3 1 ((natsI l).map intRow), .cl g 25 [.t (intsT cp t)]]) := by
  refine acall_of_awp T0 Try.func91 rfl rfl rfl ?_
  repeat (first | refine awp_seq ?_ | refine awp_block ?_ | refine awp_region_lit rfl ?_ | ((first | (show AWL _ _ _ (⟨_, .move _, _, _, _, _⟩ :: _) _ _ _; refine awl_pw ?wtq (pv_move rfl rfl) rfl rfl ?_) | (show AWL _ _ _ (⟨_, .assign _, _, _, _, _⟩ :: _) _ _ _; refine awl_pw ?wtq (pv_assign rfl rfl) rfl rfl ?_)); case wtq => first | exact wt_none rfl | exact wt_some' rfl rfl rfl rfl (by first | rfl | assumption | exact dT (by omega) | exact dF (by omega))) | refine awl_nil ?_)
  refine awp_loop (fun m s h => s = [(0, .v (.slice (some ⟨g0, 0, none⟩) n c)), (1, intA n), (2, cmpV g), (6, intA 20), (7, intA 0), (8, intA 20)] ∧ h = [.rw (.slice (some ⟨g0, 0, none⟩) n c) 3 1 ((natsI (List.range n)).map intRow), .cl g 25 [.t (intsT cp t)]]) ?_ (n := 0) ⟨rfl, rfl⟩ (by first | ((repeat' (first | exact True.intro | refine ⟨rfl, ?_⟩)); all_goals fail) | fail) (by solve | repeat' constructor)
  rintro m s h ⟨rfl, rfl⟩
  repeat (first | refine awp_seq ?_ | refine awp_region_lit rfl ?_ | refine awp_exit ?_ | refine then_n ?_ | refine awp_cond_f rfl (by first | rfl | assumption | exact dF (by omega)) ?_ | ((first | (show AWL _ _ _ (⟨_, .move _, _, _, _, _⟩ :: _) _ _ _; refine awl_pw ?wtq (pv_move rfl rfl) rfl rfl ?_) | (show AWL _ _ _ (⟨_, .binOp .leq _ _ _ _, _, _, _, _⟩ :: _) _ _ _; refine awl_pw ?wtq (pv_leq rfl rfl rfl) rfl rfl ?_)); case wtq => first | exact wt_none rfl | exact wt_some' rfl rfl rfl rfl (by first | rfl | assumption | exact dT (by omega) | exact dF (by omega))) | refine awl_nil ?_)
  refine awl_hw (by first | exact wt_none rfl | exact wt_some' rfl rfl rfl rfl (by first | rfl | assumption | exact dT (by omega) | exact dF (by omega))) (st_acall T0 (insert_p cp g0 g c n t hn h1 h6 hr) rfl rfl rfl rfl (by first | exact callee_lit | exact callee_v | exact callee_fn | assumption) (by solve | repeat' constructor) (by first | rfl | assumption) rfl (by first | ((repeat' (first | exact SubH.refl _ | apply SubH.cons | exact Pick.here | apply Pick.there)); all_goals fail) | fail) (fun _ _ => trivial) ?_)
  rintro r h ⟨l, hl1, hl2, hl3, rfl⟩
  simp only [List.cons_append, List.nil_append]
  repeat (first | refine awp_block ?_ | refine awl_nil ?_)
  refine awp_loop (fun m s h => s = [(0, .v (.slice (some ⟨g0, 0, none⟩) n c)), (1, intA n), (2, cmpV g), (6, intA 20)] ∧ h = [.rw (.slice (some ⟨g0, 0, none⟩) n c) 3 1 ((natsI l).map intRow), .cl g 25 [.t (intsT cp t)]]) ?_ (n := 0) ⟨rfl, rfl⟩ (by first | ((repeat' (first | exact True.intro | refine ⟨rfl, ?_⟩)); all_goals fail) | fail) (by solve | repeat' constructor)
  rintro m s h ⟨rfl, rfl⟩
  repeat (first | refine awp_seq ?_ | refine awp_region_lit rfl ?_ | refine awp_exit ?_ | refine then_n ?_ | refine then_x ?_ | refine blk_x ?_ | refine rnd_x ?_ | refine awp_cond_f rfl (by first | rfl | assumption | exact dF (by omega)) ?_ | ((first | (show AWL _ _ _ (⟨_, .move _, _, _, _, _⟩ :: _) _ _ _; refine awl_pw ?wtq (pv_move rfl rfl) rfl rfl ?_) | (show AWL _ _ _ (⟨_, .binOp .lss _ _ _ _, _, _, _, _⟩ :: _) _ _ _; refine awl_pw ?wtq (pv_lss rfl rfl rfl) rfl rfl ?_)); case wtq => first | exact wt_none rfl | exact wt_some' rfl rfl rfl rfl (by first | rfl | assumption | exact dT (by omega) | exact dF (by omega))) | refine awl_nil ?_)
  exact body_n .nil (SubH.refl _) ⟨l, hl1, hl2, hl3, rfl⟩
theorem sort_p (cp : Bool) (g0 g c n : Nat) (t : List Int) (hn : t.length = n) (h1 : 1 ≤ n) (h6 : n ≤ 6) (hr : ∀ a, a < n → -1000 ≤ t.getD a 0 ∧ t.getD a 0 ≤ 1000) :
    ACall Try.prog 78 [.v (.slice (some ⟨g0, 0, none⟩) n c), cmpV g] [.rw (.slice (some ⟨g0, 0, none⟩) n c) 3 1 ((natsI (List.range n)).map intRow), .cl g 25 [.t (intsT cp t)]] (fun r h' => ∃ l, l.Pairwise (KB t) ∧ (∀ x, x ∈ l ↔ x < n) ∧ l.length = n ∧ h' = [.rw (.slice (some ⟨g0, 0, none⟩) n c) 3 1 ((natsI l).map intRow), .cl g 25 [.t (intsT cp t)]]) := by
  refine acall_of_awp T0 Try.func78 rfl rfl rfl ?_
  repeat (first | refine awp_region_lit rfl ?_ | ((first | (show AWL _ _ _ (⟨_, .move _, _, _, _, _⟩ :: _) _ _ _; refine awl_pw ?wtq (pv_move rfl rfl) rfl rfl ?_) | (show AWL _ _ _ (⟨_, .call ⟨.builtin .len, _, _⟩, _, _, _, _⟩ :: _) _ _ _; refine awl_pw ?wtq (pv_len_v T0 rfl rfl rfl) rfl rfl ?_)); case wtq => first | exact wt_none rfl | exact wt_some' rfl rfl rfl rfl (by first | rfl | assumption | exact dT (by omega) | exact dF (by omega))))
  refine awl_hw (by first | exact wt_none rfl | exact wt_some' rfl rfl rfl rfl (by first | rfl | assumption | exact dT (by omega) | exact dF (by omega))) (st_acall T0 (stable_p cp g0 g c n t hn h1 h6 hr) rfl rfl rfl rfl (by first | exact callee_lit | exact callee_v | exact callee_fn | assumption) (by solve | repeat' constructor) (by first | rfl | assumption) rfl (by first | ((repeat' (first | exact SubH.refl _ | apply SubH.cons | exact Pick.here | apply Pick.there)); all_goals fail) | fail) (fun _ _ => trivial) ?_)
  rintro r h ⟨l, hl1, hl2, hl3, rfl⟩
  repeat (first | refine awl_nil ?_)
  exact body_n .nil (by solve | repeat' constructor) ⟨l, hl1, hl2, hl3, rfl⟩
end Go.Proofs.Yteaoclpikdmkiaa
