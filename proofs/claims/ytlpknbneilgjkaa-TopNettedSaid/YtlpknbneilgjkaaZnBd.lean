/- Whether deliveries can be made with an empty hand (short.can, Try.func150): walk. -/
import Derived.Test.YtlpknbneilgjkaaZnBc
import Derived.Test.YtlpknbneilgjkaaZnGTs
namespace Go.Proofs.Ytlpknbneilgjkaa.S
open Go Go.RowKit Go.Tl
set_option linter.unusedVariables false
set_option linter.unusedSimpArgs false
set_option maxRecDepth 100000
set_option maxHeartbeats 4000000
def staL (x : Int) : List Tr := [.sc (.int .i64 0), .sc (.int .i64 x)]
def staT (cp : Bool) (L : Nat → Int) (n : Nat) : Tr := .sl cp 2 n (fun k => staL (L k))
def staRow (x : Int) : List AV := [intA 0, intA x]
def staRows (L : Nat → Int) (n : Nat) : List (List AV) := (List.range n).map fun k => staRow (L k)
theorem sta_len (L : Nat → Int) (n : Nat) : (staRows L n).length = n := by simp [staRows]
theorem sta_at {L : Nat → Int} {n k : Nat} (h : k < n) : (staRows L n).getD k [] = staRow (L k) := by simp [staRows, List.getD_eq_getElem?_getD, h]
theorem sta_at1 {L : Nat → Int} {n k : Nat} (h : k < n) : ((staRows L n).getD k [])[1]? = some (intA (L k)) := by rw [sta_at h]; rfl
theorem sta_zero (n : Nat) : List.replicate n (List.replicate 2 (AV.v (.int .i64 0))) = staRows (fun _ => 0) n := by
  refine List.ext_getElem (by simp [staRows]) fun k h1 h2 => ?_
  simp [staRows, staRow]
theorem sta_set {L L' : Nat → Int} {n k : Nat} {v : Int} (h : k < n) (hL : ∀ q, q < n → L' q = if q = k then v else L q) : (staRows L n).set k (spA ((staRows L n).getD k []) 1 [intA v]) = staRows L' n := by
  rw [sta_at h]
  refine List.ext_getElem (by simp [staRows]) fun q h1 h2 => ?_
  have hq : q < n := by simpa [staRows] using h2
  have e := hL q hq
  by_cases c : k = q
  · subst c
    simp [staRows, staRow, spA, e]
  · simp [staRows, List.getElem_set, c, e, Ne.symm c]
theorem sta_set0 {L : Nat → Int} {n k : Nat} (h : k < n) (h0 : L k = 0) : (staRows L n).set k (spA ((staRows L n).getD k []) 0 [intA 0, intA 0]) = staRows L n := by
  rw [sta_at h]
  refine List.ext_getElem (by simp [staRows]) fun q h1 h2 => ?_
  by_cases c : k = q
  · subst c
    simp [staRows, staRow, spA, h0]
  · simp [staRows, List.getElem_set, c]
theorem sta_tree (L : Nat → Int) (n : Nat) : ∀ k, k < n → (staRows L n).getD k [] = (staL (L k)).map AV.ofTr := fun k hk => by rw [sta_at hk]; rfl
/-- what is lacking -/
def lackS (L : Nat → Int) : Nat → Int
  | 0 => 0
  | k + 1 => lackS L k + max 0 (-L k)
theorem lackS_bd {L : Nat → Int} : ∀ {k : Nat}, (∀ q, q < k → -1000 ≤ L q ∧ L q ≤ 1000) → 0 ≤ lackS L k ∧ lackS L k ≤ 1000 * (k : Int)
  | 0, _ => by simp [lackS]
  | k + 1, h => by
    have ih := lackS_bd (L := L) (k := k) fun q hq => h q (by omega)
    have := h k (by omega)
    simp only [lackS]
    omega
theorem lackS_le {L : Nat → Int} : ∀ {k : Nat}, lackS L k ≤ 0 ↔ ∀ q, q < k → 0 ≤ L q
  | 0 => by simp [lackS]
  | k + 1 => by
    have ih := lackS_le (L := L) (k := k)
    have h0 : ∀ k, 0 ≤ lackS L k := fun k => by
      induction k with
      | zero => simp [lackS]
      | succ k ih => simp only [lackS]; omega
    have := h0 k
    simp only [lackS]
    constructor
    · intro h q hq
      have h1 : lackS L k ≤ 0 := by omega
      rcases Nat.lt_succ_iff_lt_or_eq.1 hq with c | c
      · exact ih.1 h1 q c
      · subst c; omega
    · intro h
      have := ih.2 fun q hq => h q (by omega)
      have := h k (by omega)
      omega
/-- what a house gets, less what it delivers -/
def accS (ds : List DueD) (f : Nat → Int) : Nat → Nat → Int
  | 0, _ => 0
  | k + 1, h => accS ds f k h - (if (ds.getD k default).frm = (h : Int) then f k else 0) + (if (ds.getD k default).to = (h : Int) then f k else 0)
theorem accS_bd {ds : List DueD} {f : Nat → Int} : ∀ (k : Nat) (h : Nat), (∀ i, i < k → 0 ≤ f i ∧ f i ≤ 4) → -4 * (k : Int) ≤ accS ds f k h ∧ accS ds f k h ≤ 4 * (k : Int)
  | 0, h, _ => by simp [accS]
  | k + 1, h, hf => by
    have ih := accS_bd (ds := ds) k h (fun i hi => hf i (by omega))
    have h1 := hf k (by omega)
    simp only [accS]
    split <;> split <;> omega
attribute [local irreducible] AWP AWL AOp PV LV AWT AWE
theorem lacks_p (x : Int) (hx : -1000 ≤ x ∧ x ≤ 1000) : PCall Try.prog 187 [.ag [intA 0, intA x]] (fun r => r = intA (max 0 (-x))) := by
  refine acall_of_awp T0 Try.func187 rfl rfl rfl ?_
  repeat (first | refine awp_seq ?_ | refine awp_region_lit rfl ?_)
  refine awl_hw (wt_none rfl) (st_box rfl rfl raA (by first | assumption | (simp only [cellsA]; rfl)) rfl rfl ?_)
  intro g1
  repeat (first | refine awp_seq ?_ | refine awp_region_lit rfl ?_ | (show AWL _ _ _ (⟨_, .assign _, _, _, _, _⟩ :: _) _ _ _; refine awl_pw (wt_none rfl) (pv_assign rfl rfl) rfl rfl ?_) | (show AWL _ _ _ (⟨_, .load _ _, _, _, _, _⟩ :: _) _ _ _; refine awl_lw (wt_none rfl) (lv_cl1 T0 rfl rfl rfl rcA raA) rfl rfl rfl ?_) | (show AWL _ _ _ (⟨_, .fieldAddr _ _ _, _, _, _, _⟩ :: _) _ _ _; refine awl_pw (wt_none rfl) (pv_fa T0 rfl rfl rfl (by simp; rfl)) rfl rfl ?_) | refine awl_nil ?_)
  refine awl_pw (wt_none rfl) (pv_neg rfl rfl (wr64 (by omega))) rfl rfl ?_
  repeat (first | refine awp_ret ?_ | (show AWL _ _ _ (⟨_, .assign _, _, _, _, _⟩ :: _) _ _ _; refine awl_pw (wt_none rfl) (pv_assign rfl rfl) rfl rfl ?_) | (show AWL _ _ _ (⟨_, .call ⟨.builtin .max, _, _⟩, _, _, _, _⟩ :: _) _ _ _; refine awl_pw (wt_none rfl) (pv_max2 rfl rfl rfl) rfl rfl ?_) | refine awl_nil ?_)
  refine body_p (.cons rfl .nil) ?_
  rw [Int.zero_sub]
  rfl
theorem each_p (cs cl cd : Bool) (hn : Nat) (ds : List DueD) (n : Int) : PCall Try.prog 188 [ledA cs cl cd hn ds, intA n] (fun r => r = boolA true) := by
  refine acall_of_awp T0 Try.func188 rfl rfl rfl ?_
  repeat (first | refine awp_seq ?_ | refine awp_region_lit rfl ?_)
  refine awl_hw (wt_none rfl) (st_box rfl rfl raA (by first | assumption | (simp only [cellsA]; rfl)) rfl rfl ?_)
  intro g2
  repeat (first | refine awp_seq ?_ | refine awp_region_lit rfl ?_ | refine awp_ret ?_ | (show AWL _ _ _ (⟨_, .assign _, _, _, _, _⟩ :: _) _ _ _; refine awl_pw (wt_none rfl) (pv_assign rfl rfl) rfl rfl ?_) | refine awl_nil ?_)
  exact body_p (.cons rfl .nil) rfl
theorem lender_p (cs cl cd : Bool) (hn : Nat) (ds : List DueD) (k : Nat) (hk : k < hn) : PCall Try.prog 190 [ledA cs cl cd hn ds, intA k] (fun r => r = boolA false) := by
  refine acall_of_awp T0 Try.func190 rfl rfl rfl ?_
  repeat (first | refine awp_seq ?_ | refine awp_region_lit rfl ?_)
  refine awl_hw (wt_none rfl) (st_box rfl rfl raA (by first | assumption | (simp only [cellsA]; rfl)) rfl rfl ?_)
  intro g2
  repeat (first | refine awp_seq ?_ | refine awp_region_lit rfl ?_ | refine awp_ret ?_ | (show AWL _ _ _ (⟨_, .move _, _, _, _, _⟩ :: _) _ _ _; refine awl_pw (wt_none rfl) (pv_move rfl rfl) rfl rfl ?_) | (show AWL _ _ _ (⟨_, .assign _, _, _, _, _⟩ :: _) _ _ _; refine awl_pw (wt_none rfl) (pv_assign rfl rfl) rfl rfl ?_) | (show AWL _ _ _ (⟨_, .load _ _, _, _, _, _⟩ :: _) _ _ _; refine awl_lw (wt_none rfl) (lv_cl1 T0 rfl rfl rfl rcA raA) rfl rfl rfl ?_) | (show AWL _ _ _ (⟨_, .load _ _, _, _, _, _⟩ :: _) _ _ _; refine awl_lw (wt_none rfl) (lv_elt_sc T0 rfl rfl rfl rfl) rfl rfl rfl ?_) | (show AWL _ _ _ (⟨_, .fieldAddr _ _ _, _, _, _, _⟩ :: _) _ _ _; refine awl_pw (wt_none rfl) (pv_fa T0 rfl rfl rfl (by simp; rfl)) rfl rfl ?_) | (show AWL _ _ _ (⟨_, .indexAddr _ _ _, _, _, _, _⟩ :: _) _ _ _; refine awl_pw (wt_none rfl) (pv_ix_t T0 rfl rfl rfl rfl (by omega) ixA) rfl rfl ?_) | refine awl_nil ?_)
  exact body_p (.cons rfl .nil) rfl
theorem suml_p (cs cl cd cp : Bool) (hn : Nat) (ds : List DueD) (L : Nat → Int) (hb : hn ≤ 4) (hL : ∀ q, q < hn → -1000 ≤ L q ∧ L q ≤ 1000) : PCall Try.prog 191 [.ag [.v (.func (.func 187) #[] #[]), .v (.func (.func 188) #[] #[])], ledA cs cl cd hn ds, .t (staT cp L hn)] (fun r => r = intA (lackS L hn)) := by
  refine acall_of_awp T0 Try.func191 rfl rfl rfl ?_
  repeat (first | refine awp_seq ?_ | refine awp_region_lit rfl ?_)
  refine awl_hw (wt_none rfl) (st_box rfl rfl raA (by first | assumption | (simp only [cellsA]; rfl)) rfl rfl ?_)
  intro g3
  skip
  refine awl_hw (wt_none rfl) (st_box rfl rfl raA (by first | assumption | (simp only [cellsA]; rfl)) rfl rfl ?_)
  intro g4
  repeat (first | refine awp_seq ?_ | refine awp_block ?_ | refine awp_region_lit rfl ?_ | (show AWL _ _ _ (⟨_, .move _, _, _, _, _⟩ :: _) _ _ _; refine awl_pw (wt_none rfl) (pv_move rfl rfl) rfl rfl ?_) | (show AWL _ _ _ (⟨_, .assign _, _, _, _, _⟩ :: _) _ _ _; refine awl_pw (wt_none rfl) (pv_assign rfl rfl) rfl rfl ?_) | (show AWL _ _ _ (⟨_, .call ⟨.builtin .len, _, _⟩, _, _, _, _⟩ :: _) _ _ _; refine awl_pw (wt_none rfl) (pv_len_t T0 rfl rfl rfl) rfl rfl ?_) | refine awl_nil ?_)
  refine awp_loop (fun m s h => ∃ (k : Nat), k ≤ hn ∧ m = hn - k ∧ s = [(3, .v (ptrV g3)), (4, .v (ptrV g4)), (6, intA (lackS L k)), (9, .t (staT cp L hn)), (10, intA hn), (11, intA k)] ∧ h = [.cl g3 300 [.v (.func (.func 187) #[] #[]), .v (.func (.func 188) #[] #[])], .cl g4 109 (ledC cs cl cd hn ds)]) ?_ ⟨0, Nat.zero_le _, rfl, rfl, rfl⟩ ssA rcA
  rintro m s h ⟨k, hk, rfl, rfl, rfl⟩
  by_cases hlt : k < hn
  · have h1 := hL k hlt
    have h2 := lackS_bd (L := L) (k := k) fun q hq => hL q (by omega)
    repeat (first | refine awp_seq ?_ | refine awp_block ?_ | refine awp_region_lit rfl ?_ | refine awp_skip ?_ | refine awp_cond_t rfl (by first | rfl | assumption | exact dT (by omega)) ?_ | (show AWL _ _ _ (⟨_, .move _, _, _, _, _⟩ :: _) _ _ _; refine awl_pw (wt_none rfl) (pv_move rfl rfl) rfl rfl ?_) | (show AWL _ _ _ (⟨_, .load _ _, _, _, _, _⟩ :: _) _ _ _; refine awl_lw (wt_none rfl) (lv_elt_ag T0 rfl rfl rfl rfl rcA) rfl rfl rfl ?_) | (show AWL _ _ _ (⟨_, .indexAddr _ _ _, _, _, _, _⟩ :: _) _ _ _; refine awl_pw (wt_none rfl) (pv_ix_t T0 rfl rfl rfl rfl (by omega) ixA) rfl rfl ?_) | (show AWL _ _ _ (⟨_, .binOp .lss _ _ _ _, _, _, _, _⟩ :: _) _ _ _; refine awl_pw (wt_none rfl) (pv_lss rfl rfl rfl) rfl rfl ?_) | refine awl_nil ?_)
    refine awl_hw (wt_none rfl) (st_alloc T0 rfl rfl rfl rfl scA ?_)
    intro g8
    repeat (first | refine awp_seq ?_ | refine awp_region_lit rfl ?_ | (show AWL _ _ _ (⟨_, .move _, _, _, _, _⟩ :: _) _ _ _; refine awl_pw (wt_none rfl) (pv_move rfl rfl) rfl rfl ?_) | (show AWL _ _ _ (⟨_, .assign _, _, _, _, _⟩ :: _) _ _ _; refine awl_pw (wt_none rfl) (pv_assign rfl rfl) rfl rfl ?_) | (show AWL _ _ _ (⟨_, .load _ _, _, _, _, _⟩ :: _) _ _ _; refine awl_lw (wt_none rfl) (lv_cl1 T0 rfl rfl rfl rcA raA) rfl rfl rfl ?_) | (show AWL _ _ _ (⟨_, .load _ _, _, _, _, _⟩ :: _) _ _ _; refine awl_lw (wt_none rfl) (lv_cla T0 rfl rfl rfl rcA rfl) rfl rfl rfl ?_) | (show AWL _ _ _ (⟨_, .fieldAddr _ _ _, _, _, _, _⟩ :: _) _ _ _; refine awl_pw (wt_none rfl) (pv_fa T0 rfl rfl rfl (by simp; rfl)) rfl rfl ?_) | (show AWL _ _ _ (⟨_, .store _ _ _, _, _, _, _⟩ :: _) _ _ _; refine awl_hw (wt_none rfl) (st_store T0 rfl rfl rfl rfl rfl (by first | assumption | (simp only [cellsA]; rfl)) rfl rfl rfl rcA rcA trivial ?_)) | refine awl_nil ?_)
    refine awl_hw (wt_none rfl) (st_call T0 (each_p cs cl cd hn ds k) rfl rfl rfl rfl (by first | exact callee_lit | exact callee_v | exact callee_fn | assumption) rcA raA rfl ?_)
    rintro _ rfl
    repeat (first | refine awp_region_lit rfl ?_ | with_reducible refine then_n ?_ | refine awp_cond_t rfl (by first | rfl | assumption | exact dT (by omega)) ?_ | (show AWL _ _ _ (⟨_, .move _, _, _, _, _⟩ :: _) _ _ _; refine awl_pw (wt_none rfl) (pv_move rfl rfl) rfl rfl ?_) | (show AWL _ _ _ (⟨_, .load _ _, _, _, _, _⟩ :: _) _ _ _; refine awl_lw (wt_none rfl) (lv_cl1 T0 rfl rfl rfl rcA raA) rfl rfl rfl ?_) | (show AWL _ _ _ (⟨_, .load _ _, _, _, _, _⟩ :: _) _ _ _; refine awl_lw (wt_none rfl) (lv_cla T0 rfl rfl rfl rcA rfl) rfl rfl rfl ?_) | (show AWL _ _ _ (⟨_, .fieldAddr _ _ _, _, _, _, _⟩ :: _) _ _ _; refine awl_pw (wt_none rfl) (pv_fa T0 rfl rfl rfl (by simp; rfl)) rfl rfl ?_) | refine awl_nil ?_)
    refine awl_hw (wt_none rfl) (st_call T0 (lacks_p (L k) h1) rfl rfl rfl rfl (by first | exact callee_lit | exact callee_v | exact callee_fn | assumption) rcA raA rfl ?_)
    rintro _ rfl
    repeat (first | refine awp_region_lit rfl ?_ | (show AWL _ _ _ (⟨_, .move _, _, _, _, _⟩ :: _) _ _ _; refine awl_pw (wt_none rfl) (pv_move rfl rfl) rfl rfl ?_) | (show AWL _ _ _ (⟨_, .assign _, _, _, _, _⟩ :: _) _ _ _; refine awl_pw (wt_none rfl) (pv_assign rfl rfl) rfl rfl ?_) | (show AWL _ _ _ (⟨_, .binOp .add _ _ _ _, _, _, _, _⟩ :: _) _ _ _; refine awl_pw (wt_none rfl) (pv_add rfl rfl rfl (by first | assumption | exact wr64 (by omega))) rfl rfl ?_) | refine awl_nil ?_)
    refine rnd_n _ _ _ ?_ ⟨k + 1, hlt, rfl, rfl, rfl⟩ ssA rcA
    omega
  obtain rfl : k = hn := by omega
  repeat (first | refine awp_seq ?_ | refine awp_region_lit rfl ?_ | refine awp_exit ?_ | refine awp_ret ?_ | refine awp_cond_f rfl (by first | rfl | assumption | exact dF (by omega)) ?_ | (show AWL _ _ _ (⟨_, .move _, _, _, _, _⟩ :: _) _ _ _; refine awl_pw (wt_none rfl) (pv_move rfl rfl) rfl rfl ?_) | (show AWL _ _ _ (⟨_, .assign _, _, _, _, _⟩ :: _) _ _ _; refine awl_pw (wt_none rfl) (pv_assign rfl rfl) rfl rfl ?_) | (show AWL _ _ _ (⟨_, .binOp .lss _ _ _ _, _, _, _, _⟩ :: _) _ _ _; refine awl_pw (wt_none rfl) (pv_lss rfl rfl rfl) rfl rfl ?_) | refine awl_nil ?_)
  exact body_p (.cons rfl .nil) rfl
theorem sumo_p (cs cl cd cp : Bool) (hn : Nat) (ds : List DueD) (L : Nat → Int) (hb : hn ≤ 4) : PCall Try.prog 191 [.ag [.v (.func (.func 189) #[] #[]), .v (.func (.func 190) #[] #[])], ledA cs cl cd hn ds, .t (staT cp L hn)] (fun r => r = intA 0) := by
  refine acall_of_awp T0 Try.func191 rfl rfl rfl ?_
  repeat (first | refine awp_seq ?_ | refine awp_region_lit rfl ?_)
  refine awl_hw (wt_none rfl) (st_box rfl rfl raA (by first | assumption | (simp only [cellsA]; rfl)) rfl rfl ?_)
  intro g3
  skip
  refine awl_hw (wt_none rfl) (st_box rfl rfl raA (by first | assumption | (simp only [cellsA]; rfl)) rfl rfl ?_)
  intro g4
  repeat (first | refine awp_seq ?_ | refine awp_block ?_ | refine awp_region_lit rfl ?_ | (show AWL _ _ _ (⟨_, .move _, _, _, _, _⟩ :: _) _ _ _; refine awl_pw (wt_none rfl) (pv_move rfl rfl) rfl rfl ?_) | (show AWL _ _ _ (⟨_, .assign _, _, _, _, _⟩ :: _) _ _ _; refine awl_pw (wt_none rfl) (pv_assign rfl rfl) rfl rfl ?_) | (show AWL _ _ _ (⟨_, .call ⟨.builtin .len, _, _⟩, _, _, _, _⟩ :: _) _ _ _; refine awl_pw (wt_none rfl) (pv_len_t T0 rfl rfl rfl) rfl rfl ?_) | refine awl_nil ?_)
  refine awp_loop (fun m s h => ∃ (k : Nat), k ≤ hn ∧ m = hn - k ∧ s = [(3, .v (ptrV g3)), (4, .v (ptrV g4)), (6, intA 0), (9, .t (staT cp L hn)), (10, intA hn), (11, intA k)] ∧ h = [.cl g3 300 [.v (.func (.func 189) #[] #[]), .v (.func (.func 190) #[] #[])], .cl g4 109 (ledC cs cl cd hn ds)]) ?_ ⟨0, Nat.zero_le _, rfl, rfl, rfl⟩ ssA rcA
  rintro m s h ⟨k, hk, rfl, rfl, rfl⟩
  by_cases hlt : k < hn
  · repeat (first | refine awp_seq ?_ | refine awp_block ?_ | refine awp_region_lit rfl ?_ | refine awp_skip ?_ | refine awp_cond_t rfl (by first | rfl | assumption | exact dT (by omega)) ?_ | (show AWL _ _ _ (⟨_, .move _, _, _, _, _⟩ :: _) _ _ _; refine awl_pw (wt_none rfl) (pv_move rfl rfl) rfl rfl ?_) | (show AWL _ _ _ (⟨_, .load _ _, _, _, _, _⟩ :: _) _ _ _; refine awl_lw (wt_none rfl) (lv_elt_ag T0 rfl rfl rfl rfl rcA) rfl rfl rfl ?_) | (show AWL _ _ _ (⟨_, .indexAddr _ _ _, _, _, _, _⟩ :: _) _ _ _; refine awl_pw (wt_none rfl) (pv_ix_t T0 rfl rfl rfl rfl (by omega) ixA) rfl rfl ?_) | (show AWL _ _ _ (⟨_, .binOp .lss _ _ _ _, _, _, _, _⟩ :: _) _ _ _; refine awl_pw (wt_none rfl) (pv_lss rfl rfl rfl) rfl rfl ?_) | refine awl_nil ?_)
    refine awl_hw (wt_none rfl) (st_alloc T0 rfl rfl rfl rfl scA ?_)
    intro g8
    repeat (first | refine awp_seq ?_ | refine awp_region_lit rfl ?_ | (show AWL _ _ _ (⟨_, .move _, _, _, _, _⟩ :: _) _ _ _; refine awl_pw (wt_none rfl) (pv_move rfl rfl) rfl rfl ?_) | (show AWL _ _ _ (⟨_, .assign _, _, _, _, _⟩ :: _) _ _ _; refine awl_pw (wt_none rfl) (pv_assign rfl rfl) rfl rfl ?_) | (show AWL _ _ _ (⟨_, .load _ _, _, _, _, _⟩ :: _) _ _ _; refine awl_lw (wt_none rfl) (lv_cl1 T0 rfl rfl rfl rcA raA) rfl rfl rfl ?_) | (show AWL _ _ _ (⟨_, .load _ _, _, _, _, _⟩ :: _) _ _ _; refine awl_lw (wt_none rfl) (lv_cla T0 rfl rfl rfl rcA rfl) rfl rfl rfl ?_) | (show AWL _ _ _ (⟨_, .fieldAddr _ _ _, _, _, _, _⟩ :: _) _ _ _; refine awl_pw (wt_none rfl) (pv_fa T0 rfl rfl rfl (by simp; rfl)) rfl rfl ?_) | (show AWL _ _ _ (⟨_, .store _ _ _, _, _, _, _⟩ :: _) _ _ _; refine awl_hw (wt_none rfl) (st_store T0 rfl rfl rfl rfl rfl (by first | assumption | (simp only [cellsA]; rfl)) rfl rfl rfl rcA rcA trivial ?_)) | refine awl_nil ?_)
    refine awl_hw (wt_none rfl) (st_call T0 (lender_p cs cl cd hn ds k hlt) rfl rfl rfl rfl (by first | exact callee_lit | exact callee_v | exact callee_fn | assumption) rcA raA rfl ?_)
    rintro _ rfl
    repeat (first | refine awp_region_lit rfl ?_ | refine awp_skip ?_ | with_reducible refine then_n ?_ | refine awp_cond_f rfl (by first | rfl | assumption | exact dF (by omega)) ?_ | (show AWL _ _ _ (⟨_, .move _, _, _, _, _⟩ :: _) _ _ _; refine awl_pw (wt_none rfl) (pv_move rfl rfl) rfl rfl ?_) | (show AWL _ _ _ (⟨_, .binOp .add _ _ _ _, _, _, _, _⟩ :: _) _ _ _; refine awl_pw (wt_none rfl) (pv_add rfl rfl rfl (by first | assumption | exact wr64 (by omega))) rfl rfl ?_) | refine awl_nil ?_)
    refine rnd_n _ _ _ ?_ ⟨k + 1, hlt, rfl, rfl, rfl⟩ ssA rcA
    omega
  obtain rfl : k = hn := by omega
  repeat (first | refine awp_seq ?_ | refine awp_region_lit rfl ?_ | refine awp_exit ?_ | refine awp_ret ?_ | refine awp_cond_f rfl (by first | rfl | assumption | exact dF (by omega)) ?_ | (show AWL _ _ _ (⟨_, .move _, _, _, _, _⟩ :: _) _ _ _; refine awl_pw (wt_none rfl) (pv_move rfl rfl) rfl rfl ?_) | (show AWL _ _ _ (⟨_, .assign _, _, _, _, _⟩ :: _) _ _ _; refine awl_pw (wt_none rfl) (pv_assign rfl rfl) rfl rfl ?_) | (show AWL _ _ _ (⟨_, .binOp .lss _ _ _ _, _, _, _, _⟩ :: _) _ _ _; refine awl_pw (wt_none rfl) (pv_lss rfl rfl rfl) rfl rfl ?_) | refine awl_nil ?_)
  exact body_p (.cons rfl .nil) rfl
section
variable {g3 g4 g7 g10 k hn j : Nat} {cs cl cd cp : Bool} {ds : List DueD} {d : DueD} {l : List Int} {L L' : Nat → Int} {u34 u35 : AV}
theorem bd_5 (hk : k < hn) (hb : hn ≤ 4) (h0 : L k = 0) {ops : Array Oper} (h : regF Try.f150 5 = some ops) :
    AWP Try.prog Try.f150.ntmps none (.region 5 ops true) (cutQ (fun s h => s = [(2, .t (intsT cp l)), (3, .v (ptrV g3)), (4, .v (ptrV g4)), (7, .v (.slice (some ⟨g7, 0, none⟩) hn hn)), (18, intA hn), (19, intA k)] ∧ h = [.cl g3 109 (ledC cs cl cd hn ds), .cl g4 171 (arrI (fun _ => 0) 4), .rw (.slice (some ⟨g7, 0, none⟩) hn hn) 296 2 (staRows L hn)]))
      [(2, .t (intsT cp l)), (3, .v (ptrV g3)), (4, .v (ptrV g4)), (7, .v (.slice (some ⟨g7, 0, none⟩) hn hn)), (8, intA k), (18, intA hn), (19, intA k)] [.cl g3 109 (ledC cs cl cd hn ds), .cl g4 171 (arrI (fun _ => 0) 4), .rw (.slice (some ⟨g7, 0, none⟩) hn hn) 296 2 (staRows L hn)] := by
  cases h
  have hk4 : k < 4 := by omega
  have r1 : (arrI (fun _ => 0) 4)[k]? = some (intA 0) := arrI_at hk4
  have r2 := sta_len L hn
  refine awp_tree T0 [(0, 0), (1, 0), (2, 0), (3, 0), (4, 1), (5, 0), (6, 0), (7, 1), (8, 0), (9, 0), (10, 3)] (.op 0 0 (.op 1 0 (.op 2 0 (.op 3 0 (.op 4 1 (.op 5 0 (.op 6 0 (.op 7 1 (.op 8 0 (.op 9 0 (.op 10 3 .stop))))))))))) [.cl g4 _ _] rfl (by kernel_rfl) rcA ?_
  refine awt_po rfl (wt_none rfl) (pv_move rfl rfl) rfl rfl ?_
  refine awt_po rfl (wt_none rfl) (pv_move rfl rfl) rfl rfl ?_
  refine awt_po rfl (wt_none rfl) (pv_move rfl rfl) rfl rfl ?_
  refine awt_po rfl (wt_none rfl) (pv_ix_arr T0 rfl rfl rfl rfl (by omega) (by simp; rfl)) rfl rfl ?_
  refine awt_lo rfl (wt_none rfl) (lv_cl1 T0 rfl rfl rfl rcA raA) rfl rfl rfl ?_
  refine awt_po rfl (wt_none rfl) (pv_move rfl rfl) rfl rfl ?_
  refine awt_po rfl (wt_none rfl) (pv_ix_arr T0 rfl rfl rfl rfl (by omega) (by simp; rfl)) rfl rfl ?_
  refine awt_lo rfl (wt_none rfl) (lv_cl1 T0 rfl rfl rfl rcA raA) rfl rfl rfl ?_
  refine awt_po rfl (wt_none rfl) (pv_build T0 rfl rfl rfl scA (by first | ((repeat' (first | exact BParts.nil | apply BParts.cons | rfl)); all_goals fail) | fail) (by first | ((repeat' (first | exact FillA.nil | exact Sp.done | apply FillA.cons | apply Sp.put | apply Sp.skip | (simp only [cellsA]; rfl) | rfl)); all_goals fail) | fail)) rfl rfl ?_
  refine awt_po rfl (wt_none rfl) (pv_ix_own T0 rfl rfl rfl rfl (by omega) ixA) rfl rfl ?_
  refine awt_s (md := fun _ => True) rfl (wt_none rfl) (aop_store_rp T0 rfl rfl rfl rfl rfl rfl rfl rfl rcA (by rw [r2]; exact hk) (by decide) (sta_set0 hk h0) trivial ?_)
  refine awe_end ?_
  exact cut_n ⟨rfl, rfl⟩ ssA rcA
theorem bd_10 (hk : k < l.length) (hj : d.frm = (j : Int)) (hjn : j < hn) (hb : hn ≤ 4) (b1 : -1000 ≤ L j ∧ L j ≤ 1000) (b2 : 0 ≤ l.getD k 0 ∧ l.getD k 0 ≤ 4) (hL : ∀ q, q < hn → L' q = if q = j then L j - l.getD k 0 else L q) {ops : Array Oper} (h : regF Try.f150 10 = some ops) :
    AWP Try.prog Try.f150.ntmps none (.region 10 ops true) (cutQ (fun s h => s = [(2, .t (intsT cp l)), (3, .v (ptrV g3)), (7, .v (.slice (some ⟨g7, 0, none⟩) hn hn)), (9, intA k), (10, .v (ptrV g10)), (34, u34), (35, u35), (36, intA k)] ∧ h = [.cl g10 165 (dueRow d), .cl g3 109 (ledC cs cl cd hn ds), .rw (.slice (some ⟨g7, 0, none⟩) hn hn) 296 2 (staRows L' hn)]))
      [(2, .t (intsT cp l)), (3, .v (ptrV g3)), (7, .v (.slice (some ⟨g7, 0, none⟩) hn hn)), (9, intA k), (10, .v (ptrV g10)), (34, u34), (35, u35), (36, intA k)] [.cl g10 165 (dueRow d), .cl g3 109 (ledC cs cl cd hn ds), .rw (.slice (some ⟨g7, 0, none⟩) hn hn) 296 2 (staRows L hn)] := by
  cases h
  unfold dueRow
  have hjt : d.frm.toNat = j := by omega
  have r1 : ((staRows L hn).getD j [])[1]? = some (intA (L j)) := sta_at1 hjn
  have r2 := sta_len L hn
  refine awp_tree T0 [(0, 0), (1, 0), (2, 1), (3, 0), (4, 0), (5, 1), (6, 0), (7, 0), (8, 0), (9, 1), (10, 0), (11, 0), (12, 0), (13, 3)] (.op 0 0 (.op 1 0 (.op 2 1 (.op 3 0 (.op 4 0 (.op 5 1 (.op 6 0 (.op 7 0 (.op 8 0 (.op 9 1 (.op 10 0 (.op 11 0 (.op 12 0 (.op 13 3 .stop)))))))))))))) [.cl g10 _ _, .rw _ _ _ _] rfl (by kernel_rfl) rcA ?_
  refine awt_po rfl (wt_none rfl) (pv_move rfl rfl) rfl rfl ?_
  refine awt_po rfl (wt_none rfl) (pv_fa T0 rfl rfl rfl (by simp; rfl)) rfl rfl ?_
  refine awt_lo rfl (wt_none rfl) (lv_cl1 T0 rfl rfl rfl rcA raA) rfl rfl rfl ?_
  refine awt_po rfl (wt_none rfl) (pv_ix_own T0 rfl rfl rfl rfl (by omega) hjt) rfl rfl ?_
  refine awt_po rfl (wt_none rfl) (pv_fa_rp T0 rfl rfl rfl (by simp; rfl)) rfl rfl ?_
  refine awt_lo rfl (wt_none rfl) (lv_rp T0 rfl rfl rfl rcA (by first | omega | (simp; omega)) (by omega) (by first | assumption | rfl)) rfl rfl rfl ?_
  refine awt_po rfl (wt_none rfl) (pv_move rfl rfl) rfl rfl ?_
  refine awt_po rfl (wt_none rfl) (pv_move rfl rfl) rfl rfl ?_
  refine awt_po rfl (wt_none rfl) (pv_ix_t T0 rfl rfl rfl rfl (by omega) ixA) rfl rfl ?_
  refine awt_lo rfl (wt_none rfl) (lv_elt_sc T0 rfl rfl rfl rfl) rfl rfl rfl ?_
  refine awt_po rfl (wt_none rfl) (pv_sub rfl rfl rfl (by first | assumption | exact wr64 (by omega))) rfl rfl ?_
  refine awt_po rfl (wt_none rfl) (pv_ix_own T0 rfl rfl rfl rfl (by omega) hjt) rfl rfl ?_
  refine awt_po rfl (wt_none rfl) (pv_fa_rp T0 rfl rfl rfl (by simp; rfl)) rfl rfl ?_
  refine awt_s (md := fun _ => True) rfl (wt_none rfl) (aop_store_rp T0 rfl rfl rfl rfl rfl rfl rfl rfl rcA (by rw [r2]; exact hjn) (by decide) (sta_set hjn hL) trivial ?_)
  refine awe_end ?_
  exact cut_n ⟨rfl, rfl⟩ ssA rcA
theorem bd_11 (hk : k < l.length) (hj : d.to = (j : Int)) (hjn : j < hn) (hb : hn ≤ 4) (b1 : -1000 ≤ L j ∧ L j ≤ 1000) (b2 : 0 ≤ l.getD k 0 ∧ l.getD k 0 ≤ 4) (hL : ∀ q, q < hn → L' q = if q = j then L j + l.getD k 0 else L q) {ops : Array Oper} (h : regF Try.f150 11 = some ops) :
    AWP Try.prog Try.f150.ntmps none (.region 11 ops true) (cutQ (fun s h => s = [(2, .t (intsT cp l)), (3, .v (ptrV g3)), (7, .v (.slice (some ⟨g7, 0, none⟩) hn hn)), (34, u34), (35, u35), (36, intA k)] ∧ h = [.cl g3 109 (ledC cs cl cd hn ds), .rw (.slice (some ⟨g7, 0, none⟩) hn hn) 296 2 (staRows L' hn)]))
      [(2, .t (intsT cp l)), (3, .v (ptrV g3)), (7, .v (.slice (some ⟨g7, 0, none⟩) hn hn)), (9, intA k), (10, .v (ptrV g10)), (34, u34), (35, u35), (36, intA k)] [.cl g10 165 (dueRow d), .cl g3 109 (ledC cs cl cd hn ds), .rw (.slice (some ⟨g7, 0, none⟩) hn hn) 296 2 (staRows L hn)] := by
  cases h
  unfold dueRow
  have hjt : d.to.toNat = j := by omega
  have r1 : ((staRows L hn).getD j [])[1]? = some (intA (L j)) := sta_at1 hjn
  have r2 := sta_len L hn
  refine awp_tree T0 [(0, 0), (1, 0), (2, 1), (3, 0), (4, 0), (5, 1), (6, 0), (7, 0), (8, 0), (9, 1), (10, 0), (11, 0), (12, 0), (13, 3)] (.op 0 0 (.op 1 0 (.op 2 1 (.op 3 0 (.op 4 0 (.op 5 1 (.op 6 0 (.op 7 0 (.op 8 0 (.op 9 1 (.op 10 0 (.op 11 0 (.op 12 0 (.op 13 3 .stop)))))))))))))) [.cl g10 _ _, .rw _ _ _ _] rfl (by kernel_rfl) rcA ?_
  refine awt_po rfl (wt_none rfl) (pv_move rfl rfl) rfl rfl ?_
  refine awt_po rfl (wt_none rfl) (pv_fa T0 rfl rfl rfl (by simp; rfl)) rfl rfl ?_
  refine awt_lo rfl (wt_none rfl) (lv_cl1 T0 rfl rfl rfl rcA raA) rfl rfl rfl ?_
  refine awt_po rfl (wt_none rfl) (pv_ix_own T0 rfl rfl rfl rfl (by omega) hjt) rfl rfl ?_
  refine awt_po rfl (wt_none rfl) (pv_fa_rp T0 rfl rfl rfl (by simp; rfl)) rfl rfl ?_
  refine awt_lo rfl (wt_none rfl) (lv_rp T0 rfl rfl rfl rcA (by first | omega | (simp; omega)) (by omega) (by first | assumption | rfl)) rfl rfl rfl ?_
  refine awt_po rfl (wt_none rfl) (pv_move rfl rfl) rfl rfl ?_
  refine awt_po rfl (wt_none rfl) (pv_move rfl rfl) rfl rfl ?_
  refine awt_po rfl (wt_none rfl) (pv_ix_t T0 rfl rfl rfl rfl (by omega) ixA) rfl rfl ?_
  refine awt_lo rfl (wt_none rfl) (lv_elt_sc T0 rfl rfl rfl rfl) rfl rfl rfl ?_
  refine awt_po rfl (wt_none rfl) (pv_add rfl rfl rfl (by first | assumption | exact wr64 (by omega))) rfl rfl ?_
  refine awt_po rfl (wt_none rfl) (pv_ix_own T0 rfl rfl rfl rfl (by omega) hjt) rfl rfl ?_
  refine awt_po rfl (wt_none rfl) (pv_fa_rp T0 rfl rfl rfl (by simp; rfl)) rfl rfl ?_
  refine awt_s (md := fun _ => True) rfl (wt_none rfl) (aop_store_rp T0 rfl rfl rfl rfl rfl rfl rfl rfl rcA (by rw [r2]; exact hjn) (by decide) (sta_set hjn hL) trivial ?_)
  refine awe_end ?_
  exact cut_n ⟨rfl, rfl⟩ ssA rcA
theorem bd_14 (hb : hn ≤ 4) (hL : ∀ q, q < hn → -1000 ≤ L q ∧ L q ≤ 1000) {ops : Array Oper} (h : regF Try.f150 14 = some ops) {g11 g12 : Nat} :
    AWP Try.prog Try.f150.ntmps none (.region 14 ops true) (cutQ (fun s h => s = [(6, boolA (decide (lackS L hn ≤ 0)))] ∧ h = []))
      [(3, .v (ptrV g3)), (7, .t (staT true L hn)), (11, .v (ptrV g11)), (12, .v (ptrV g12))] [.cl g3 109 (ledC cs cl cd hn ds), .cl g11 300 [.v (.func (.func 187) #[] #[]), .v (.func (.func 188) #[] #[])], .cl g12 300 [.v (.func (.func 189) #[] #[]), .v (.func (.func 190) #[] #[])]] := by
  cases h
  refine awp_par T0 (l := (0 :: 1 :: 2 :: 3 :: 4 :: 5 :: 6 :: 7 :: 8 :: 9 :: [])) rfl (by kernel_rfl) (by kernel_rfl) ?_
  apply parW_op (ds := [11]) rfl rfl rfl rfl (by kernel_rfl)
  · exact .inl ⟨(wt_none rfl), stepQ_lv (lv_cla T0 rfl rfl rfl rcA rfl) rfl rfl⟩
  apply parW_op (ds := [3]) rfl rfl rfl rfl (by kernel_rfl)
  · exact .inl ⟨(wt_none rfl), stepQ_lv (lv_cla T0 rfl rfl rfl rcA rfl) rfl rfl⟩
  apply parW_op (ds := [7]) rfl rfl rfl rfl (by kernel_rfl)
  · exact .inl ⟨(wt_none rfl), stepQ_pv (pv_move rfl rfl) rfl rfl⟩
  apply parW_op (ds := [70, 71, 72]) rfl rfl rfl rfl (by kernel_rfl)
  · refine .inl ⟨(wt_none rfl), ?_⟩
    refine st_call T0 (suml_p cs cl cd true hn ds L hb hL) rfl rfl rfl rfl (by first | exact callee_lit | exact callee_v | exact callee_fn | assumption) rcA raA rfl ?_
    rintro _ rfl
    exact ⟨_, Ghost.refl, rfl⟩
  apply parW_op (ds := [12]) rfl rfl rfl rfl (by kernel_rfl)
  · exact .inl ⟨(wt_none rfl), stepQ_lv (lv_cla T0 rfl rfl rfl rcA rfl) rfl rfl⟩
  apply parW_op (ds := [3]) rfl rfl rfl rfl (by kernel_rfl)
  · exact .inl ⟨(wt_none rfl), stepQ_lv (lv_cla T0 rfl rfl rfl rcA rfl) rfl rfl⟩
  apply parW_op (ds := [7]) rfl rfl rfl rfl (by kernel_rfl)
  · exact .inl ⟨(wt_none rfl), stepQ_pv (pv_move rfl rfl) rfl rfl⟩
  apply parW_op (ds := [74, 75, 76]) rfl rfl rfl rfl (by kernel_rfl)
  · refine .inl ⟨(wt_none rfl), ?_⟩
    refine st_call T0 (sumo_p cs cl cd true hn ds L hb) rfl rfl rfl rfl (by first | exact callee_lit | exact callee_v | exact callee_fn | assumption) rcA raA rfl ?_
    rintro _ rfl
    exact ⟨_, Ghost.refl, rfl⟩
  apply parW_op (ds := [73, 77]) rfl rfl rfl rfl (by kernel_rfl)
  · exact .inl ⟨(wt_none rfl), stepQ_pv (pv_leq rfl rfl rfl) rfl rfl⟩
  apply parW_op (ds := [78]) rfl rfl rfl rfl (by kernel_rfl)
  · exact .inl ⟨(wt_none rfl), stepQ_pv (pv_assign rfl rfl) rfl rfl⟩
  refine parW_nil ?_
  exact cut_n ⟨rfl, rfl⟩ ssA rcA
end
theorem can_p (cs cl cd cp : Bool) (hn : Nat) (ds : List DueD) (l : List Int) (hv : VDue hn ds) (hl : l.length = ds.length) (hb : ∀ k, k < ds.length → 0 ≤ l.getD k 0 ∧ l.getD k 0 ≤ 4) : PCall Try.prog 150 [ledA cs cl cd hn ds, handA, .t (intsT cp l)] (fun r => r = boolA (decide (lackS (accS ds (fun i => l.getD i 0) ds.length) hn ≤ 0))) := by
  have hh := hv.h
  have hlen := hv.len
  refine acall_of_awp T0 Try.func150 rfl rfl rfl ?_
  repeat (first | refine awp_seq ?_ | refine awp_region_lit rfl ?_)
  refine awl_hw (wt_none rfl) (st_box rfl rfl raA (by first | assumption | (simp only [cellsA]; rfl)) rfl rfl ?_)
  intro g3
  skip
  refine awl_hw (wt_none rfl) (st_box rfl rfl raA (by first | assumption | (simp only [cellsA]; rfl)) rfl rfl ?_)
  intro g4
  repeat (first | refine awp_seq ?_ | refine awp_region_lit rfl ?_ | (show AWL _ _ _ (⟨_, .assign _, _, _, _, _⟩ :: _) _ _ _; refine awl_pw (wt_none rfl) (pv_assign rfl rfl) rfl rfl ?_) | (show AWL _ _ _ (⟨_, .load _ _, _, _, _, _⟩ :: _) _ _ _; refine awl_lw (wt_none rfl) (lv_cl1 T0 rfl rfl rfl rcA raA) rfl rfl rfl ?_) | (show AWL _ _ _ (⟨_, .fieldAddr _ _ _, _, _, _, _⟩ :: _) _ _ _; refine awl_pw (wt_none rfl) (pv_fa T0 rfl rfl rfl (by simp; rfl)) rfl rfl ?_) | refine awl_nil ?_)
  refine awl_hw (wt_none rfl) (aop_makeN (sz := 2) (z0 := .int .i64 0) T0 rfl rfl rfl rfl rfl rfl (by omega) (by omega) rfl rfl (by omega) rfl ?_)
  intro g7
  rw [sta_zero]
  repeat (first | refine awp_seq ?_ | refine awp_block ?_ | refine awp_region_lit rfl ?_ | (show AWL _ _ _ (⟨_, .move _, _, _, _, _⟩ :: _) _ _ _; refine awl_pw (wt_none rfl) (pv_move rfl rfl) rfl rfl ?_) | (show AWL _ _ _ (⟨_, .assign _, _, _, _, _⟩ :: _) _ _ _; refine awl_pw (wt_none rfl) (pv_assign rfl rfl) rfl rfl ?_) | (show AWL _ _ _ (⟨_, .call ⟨.builtin .len, _, _⟩, _, _, _, _⟩ :: _) _ _ _; refine awl_pw (wt_none rfl) (pv_len_v T0 rfl rfl rfl) rfl rfl ?_) | refine awl_nil ?_)
  refine awp_loop (fun m s h => ∃ (k : Nat), k ≤ hn ∧ m = hn - k ∧ s = [(2, .t (intsT cp l)), (3, .v (ptrV g3)), (4, .v (ptrV g4)), (7, .v (.slice (some ⟨g7, 0, none⟩) hn hn)), (18, intA hn), (19, intA k)] ∧ h = [.cl g3 109 (ledC cs cl cd hn ds), .cl g4 171 (arrI (fun _ => 0) 4), .rw (.slice (some ⟨g7, 0, none⟩) hn hn) 296 2 (staRows (fun _ => 0) hn)]) ?_ ⟨0, Nat.zero_le _, rfl, rfl, rfl⟩ ssA rcA
  rintro m s h ⟨k, hk, rfl, rfl, rfl⟩
  by_cases hlt : k < hn
  · repeat (first | refine awp_seq ?_ | refine awp_block ?_ | refine awp_region_lit rfl ?_ | refine awp_skip ?_ | with_reducible refine then_n ?_ | refine awp_cond_t rfl (by first | rfl | assumption | exact dT (by omega)) ?_ | (show AWL _ _ _ (⟨_, .move _, _, _, _, _⟩ :: _) _ _ _; refine awl_pw (wt_none rfl) (pv_move rfl rfl) rfl rfl ?_) | (show AWL _ _ _ (⟨_, .assign _, _, _, _, _⟩ :: _) _ _ _; refine awl_pw (wt_none rfl) (pv_assign rfl rfl) rfl rfl ?_) | (show AWL _ _ _ (⟨_, .binOp .lss _ _ _ _, _, _, _, _⟩ :: _) _ _ _; refine awl_pw (wt_none rfl) (pv_lss rfl rfl rfl) rfl rfl ?_) | refine awl_nil ?_)
    refine awp_cutB _ (awp_weak ssA rcA (bd_5 (g3 := g3) (g4 := g4) (g7 := g7) (k := k) (hn := hn) (cs := cs) (cl := cl) (cd := cd) (cp := cp) (ds := ds) (l := l) (L := fun _ => 0) hlt hh.2 rfl rfl)) ?_
    rintro s h ⟨rfl, rfl⟩
    repeat (first | refine awp_region_lit rfl ?_ | (show AWL _ _ _ (⟨_, .move _, _, _, _, _⟩ :: _) _ _ _; refine awl_pw (wt_none rfl) (pv_move rfl rfl) rfl rfl ?_) | (show AWL _ _ _ (⟨_, .binOp .add _ _ _ _, _, _, _, _⟩ :: _) _ _ _; refine awl_pw (wt_none rfl) (pv_add rfl rfl rfl (by first | assumption | exact wr64 (by omega))) rfl rfl ?_) | refine awl_nil ?_)
    refine rnd_n _ _ _ ?_ ⟨k + 1, hlt, rfl, rfl, rfl⟩ ssA rcA
    omega
  obtain rfl : hn = k := by omega
  repeat (first | refine awp_seq ?_ | refine awp_block ?_ | refine awp_region_lit rfl ?_ | refine awp_exit ?_ | refine awp_cond_f rfl (by first | rfl | assumption | exact dF (by omega)) ?_ | (show AWL _ _ _ (⟨_, .move _, _, _, _, _⟩ :: _) _ _ _; refine awl_pw (wt_none rfl) (pv_move rfl rfl) rfl rfl ?_) | (show AWL _ _ _ (⟨_, .load _ _, _, _, _, _⟩ :: _) _ _ _; refine awl_lw (wt_none rfl) (lv_cl1 T0 rfl rfl rfl rcA raA) rfl rfl rfl ?_) | (show AWL _ _ _ (⟨_, .fieldAddr _ _ _, _, _, _, _⟩ :: _) _ _ _; refine awl_pw (wt_none rfl) (pv_fa T0 rfl rfl rfl (by simp; rfl)) rfl rfl ?_) | (show AWL _ _ _ (⟨_, .binOp .lss _ _ _ _, _, _, _, _⟩ :: _) _ _ _; refine awl_pw (wt_none rfl) (pv_lss rfl rfl rfl) rfl rfl ?_) | (show AWL _ _ _ (⟨_, .call ⟨.builtin .len, _, _⟩, _, _, _, _⟩ :: _) _ _ _; refine awl_pw (wt_none rfl) (pv_len_t T0 rfl rfl rfl) rfl rfl ?_) | refine awl_nil ?_)
  refine awp_loop (fun m s h => ∃ (k : Nat) (L : Nat → Int), k ≤ ds.length ∧ m = ds.length - k ∧ L = accS ds (fun i => l.getD i 0) k ∧ s = [(2, .t (intsT cp l)), (3, .v (ptrV g3)), (7, .v (.slice (some ⟨g7, 0, none⟩) hn hn)), (34, .t (duesT cd ds)), (35, intA ds.length), (36, intA k)] ∧ h = [.cl g3 109 (ledC cs cl cd hn ds), .rw (.slice (some ⟨g7, 0, none⟩) hn hn) 296 2 (staRows L hn)]) ?_ ⟨0, _, Nat.zero_le _, rfl, rfl, rfl, rfl⟩ ssA rcA
  rintro m s h ⟨k, L, hk, rfl, hL, rfl, rfl⟩
  have hLb : ∀ q, -1000 ≤ L q ∧ L q ≤ 1000 := fun q => by
    have := accS_bd (ds := ds) (f := fun i => l.getD i 0) k q (fun i hi => hb i (by omega))
    rw [hL]
    omega
  by_cases hlt : k < ds.length
  · have h1 := hv.frm k hlt
    have h2 := hv.to k hlt
    have h3 := hv.ne k hlt
    have h4 := hb k hlt
    obtain ⟨jf, ejf⟩ : ∃ j : Nat, (ds.getD k default).frm = (j : Int) := ⟨(ds.getD k default).frm.toNat, by omega⟩
    obtain ⟨jt, ejt⟩ : ∃ j : Nat, (ds.getD k default).to = (j : Int) := ⟨(ds.getD k default).to.toNat, by omega⟩
    obtain ⟨L1, hL1⟩ : ∃ L1 : Nat → Int, L1 = fun q => if q = jf then L jf - l.getD k 0 else L q := ⟨_, rfl⟩
    obtain ⟨L2, hL2⟩ : ∃ L2 : Nat → Int, L2 = fun q => if q = jt then L1 jt + l.getD k 0 else L1 q := ⟨_, rfl⟩
    have hL1b : -1000 ≤ L1 jt ∧ L1 jt ≤ 1000 := by
      rw [hL1]
      show -1000 ≤ (if jt = jf then L jf - l.getD k 0 else L jt) ∧ (if jt = jf then L jf - l.getD k 0 else L jt) ≤ 1000
      rw [if_neg (by omega)]
      exact hLb jt
    have hE : L2 = accS ds (fun i => l.getD i 0) (k + 1) := by
      funext q
      rw [hL2, hL1, hL]
      simp only [accS]
      rw [ejf, ejt]
      by_cases c1 : q = jt
      · subst c1
        rw [if_pos rfl, if_neg (show q ≠ jf by omega), if_neg (show (jf : Int) ≠ q by omega), if_pos rfl]
        omega
      · rw [if_neg c1, if_neg (show (jt : Int) ≠ q by omega)]
        by_cases c2 : q = jf
        · subst c2
          rw [if_pos rfl, if_pos rfl]; omega
        · rw [if_neg c2, if_neg (show (jf : Int) ≠ q by omega)]; omega
    repeat (first | refine awp_seq ?_ | refine awp_block ?_ | refine awp_region_lit rfl ?_ | refine awp_skip ?_ | refine awp_cond_t rfl (by first | rfl | assumption | exact dT (by omega)) ?_ | (show AWL _ _ _ (⟨_, .move _, _, _, _, _⟩ :: _) _ _ _; refine awl_pw (wt_none rfl) (pv_move rfl rfl) rfl rfl ?_) | (show AWL _ _ _ (⟨_, .load _ _, _, _, _, _⟩ :: _) _ _ _; refine awl_lw (wt_none rfl) (lv_elt_ag T0 rfl rfl rfl rfl rcA) rfl rfl rfl ?_) | (show AWL _ _ _ (⟨_, .indexAddr _ _ _, _, _, _, _⟩ :: _) _ _ _; refine awl_pw (wt_none rfl) (pv_ix_t T0 rfl rfl rfl rfl (by omega) ixA) rfl rfl ?_) | (show AWL _ _ _ (⟨_, .binOp .lss _ _ _ _, _, _, _, _⟩ :: _) _ _ _; refine awl_pw (wt_none rfl) (pv_lss rfl rfl rfl) rfl rfl ?_) | refine awl_nil ?_)
    refine awl_hw (wt_none rfl) (st_alloc T0 rfl rfl rfl rfl scA ?_)
    intro g10
    repeat (first | refine awp_seq ?_ | (show AWL _ _ _ (⟨_, .assign _, _, _, _, _⟩ :: _) _ _ _; refine awl_pw (wt_none rfl) (pv_assign rfl rfl) rfl rfl ?_) | (show AWL _ _ _ (⟨_, .store _ _ _, _, _, _, _⟩ :: _) _ _ _; refine awl_hw (wt_none rfl) (st_store T0 rfl rfl rfl rfl rfl (by first | assumption | (simp only [cellsA]; rfl)) rfl rfl rfl rcA rcA trivial ?_)) | refine awl_nil ?_)
    refine awp_cut _ (awp_weak ssA rcA (bd_10 (g3 := g3) (g7 := g7) (g10 := g10) (k := k) (hn := hn) (j := jf) (cs := cs) (cl := cl) (cd := cd) (cp := cp) (ds := ds) (d := ds.getD k default) (l := l) (L := L) (L' := L1) (u34 := .t (duesT cd ds)) (u35 := intA ds.length) (by omega) ejf (by omega) hh.2 (hLb jf) h4 (fun q _ => by rw [hL1]) rfl)) ?_
    rintro s h ⟨rfl, rfl⟩
    refine awp_cutB _ (awp_weak ssA rcA (bd_11 (g3 := g3) (g7 := g7) (g10 := g10) (k := k) (hn := hn) (j := jt) (cs := cs) (cl := cl) (cd := cd) (cp := cp) (ds := ds) (d := ds.getD k default) (l := l) (L := L1) (L' := L2) (u34 := .t (duesT cd ds)) (u35 := intA ds.length) (by omega) ejt (by omega) hh.2 hL1b h4 (fun q _ => by rw [hL2]) rfl)) ?_
    rintro s h ⟨rfl, rfl⟩
    repeat (first | refine awp_region_lit rfl ?_ | (show AWL _ _ _ (⟨_, .move _, _, _, _, _⟩ :: _) _ _ _; refine awl_pw (wt_none rfl) (pv_move rfl rfl) rfl rfl ?_) | (show AWL _ _ _ (⟨_, .binOp .add _ _ _ _, _, _, _, _⟩ :: _) _ _ _; refine awl_pw (wt_none rfl) (pv_add rfl rfl rfl (by first | assumption | exact wr64 (by omega))) rfl rfl ?_) | refine awl_nil ?_)
    refine rnd_n _ _ _ ?_ ⟨k + 1, L2, hlt, rfl, hE, rfl, rfl⟩ ssA rcA
    omega
  obtain rfl : k = ds.length := by omega
  refine awp_ghost (ghost_freeze (d := 7) (v := .slice (some ⟨g7, 0, none⟩) hn hn) (E := 296) (sz := 2) (n := hn) (rows := staRows L hn) (fun q => staL (L q)) rcA rfl (sta_len L hn) (sta_tree L hn)) ?_
  repeat (first | refine awp_seq ?_ | refine awp_region_lit rfl ?_ | refine awp_exit ?_ | refine awp_cond_f rfl (by first | rfl | assumption | exact dF (by omega)) ?_ | (show AWL _ _ _ (⟨_, .build _ _, _, _, _, _⟩ :: _) _ _ _; refine awl_pw (wt_none rfl) (pv_build T0 rfl rfl rfl scA (by first | ((repeat' (first | exact BParts.nil | apply BParts.cons | rfl)); all_goals fail) | fail) (by first | ((repeat' (first | exact FillA.nil | exact Sp.done | apply FillA.cons | apply Sp.put | apply Sp.skip | (simp only [cellsA]; rfl) | rfl)); all_goals fail) | fail)) rfl rfl ?_) | (show AWL _ _ _ (⟨_, .binOp .lss _ _ _ _, _, _, _, _⟩ :: _) _ _ _; refine awl_pw (wt_none rfl) (pv_lss rfl rfl rfl) rfl rfl ?_) | refine awl_nil ?_)
  refine awl_hw (wt_none rfl) (st_alloc T0 rfl rfl rfl rfl scA ?_)
  intro g11
  skip
  refine awl_hw (wt_none rfl) (st_alloc T0 rfl rfl rfl rfl scA ?_)
  intro g12
  repeat (first | refine awp_seq ?_ | (show AWL _ _ _ (⟨_, .store _ _ _, _, _, _, _⟩ :: _) _ _ _; refine awl_hw (wt_none rfl) (st_store T0 rfl rfl rfl rfl rfl (by first | assumption | (simp only [cellsA]; rfl)) rfl rfl rfl rcA rcA trivial ?_)) | refine awl_nil ?_)
  refine awp_cut _ (awp_weak ssA rcA (bd_14 (g3 := g3) (hn := hn) (cs := cs) (cl := cl) (cd := cd) (ds := ds) (L := L) (g11 := g11) (g12 := g12) hh.2 (fun q _ => hLb q) rfl)) ?_
  rintro s h ⟨rfl, rfl⟩
  rw [hL]
  repeat (first | refine awp_ret ?_)
  exact body_p (.cons rfl .nil) rfl
end Go.Proofs.Ytlpknbneilgjkaa.S
