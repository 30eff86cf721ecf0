/- Joined texts: Hj, Hk. -/
import Derived.Test.YtallicfckbdeaaaHi
import Derived.Test.YtallicfckbdeaaaTlp
import Derived.Test.YtallicfckbdeaaaGOb
import Derived.Test.YtallicfckbdeaaaGTs
section
namespace Go.Proofs.Ytallicfckbdeaaa
open Go Go.RowKit Go.Tl
set_option linter.unusedVariables false
set_option linter.unusedSimpArgs false
set_option maxRecDepth 100000
set_option maxHeartbeats 4000000
attribute [local irreducible] AWP AWL AOp PV LV AWT AWE
/-- the houses, the cheaper ones first -/
def cheapL (m : MktD) : List Nat := ordN (asks m)
theorem asks_len (m : MktD) : (asks m).length = m.hou.length := List.length_map _
theorem cheap_mem {m : MktD} (hv : VMkt m) {i : Nat} : i ∈ cheapL m ↔ i < m.hou.length := by
  unfold cheapL
  rw [ord_mem, asks_len]
  constructor
  · exact fun h => h.1
  · intro h
    have := hv.ask i h
    rw [asks_at h]
    exact ⟨h, this⟩
theorem cheap_eq {m : MktD} (hv : VMkt m) {l : List Nat} (h1 : l.Pairwise (KB (asks m))) (h2 : ∀ x, x ∈ l ↔ x < m.hou.length) : l = cheapL m :=
  pw_unique kb_irr kb_asym h1 (ord_srt _) (fun x => (h2 x).trans (cheap_mem hv).symm)
def PreC (m : MktD) (L : List (List AV)) : Prop := ∃ k, k ≤ (cheapL m).length ∧ L = ((natsI (cheapL m)).take k).map intRow
def FullC (m : MktD) (L : List (List AV)) : Prop := L = (natsI (cheapL m)).map intRow
theorem take_snocR {ys : List Int} {k : Nat} (h : k < ys.length) : (ys.take k).map intRow ++ [intRow (ys.getD k 0)] = (ys.take (k + 1)).map intRow := by
  rw [List.take_succ_eq_append_getElem h, List.map_append]; simp [List.getD_eq_getElem?_getD, h]
theorem cheap1_p (g : Nat) (cp cc : Bool) (m : MktD) (hv : VMkt m) : ISpecP Try.prog 94 (fun y => [] ++ [y] ++ [ptrV g].map AV.v) [mkE g cp cc m] (PreC m) (FullC m) := by
  have hlen := hv.len
  have hpos := hv.pos
  intro l C X hround o hC
  show ACall Try.prog 94 [.v (.func (.yield l) #[] #[]), .v (ptrV g)] _ _
  refine acall_of_awp T0 Try.func94 rfl rfl rfl ?_
  repeat (first | refine awp_seq ?_ | refine awp_block ?_ | refine awp_region_lit rfl ?_ | (show AWL _ _ _ (⟨_, .move _, _, _, _, _⟩ :: _) _ _ _; refine awl_pw (wt_none rfl) (pv_move rfl rfl) rfl rfl ?_) | (show AWL _ _ _ (⟨_, .assign _, _, _, _, _⟩ :: _) _ _ _; refine awl_pw (wt_none rfl) (pv_assign rfl rfl) rfl rfl ?_) | (show AWL _ _ _ (⟨_, .load _ _, _, _, _, _⟩ :: _) _ _ _; refine awl_lw (wt_none rfl) (lv_cl1 T0 rfl rfl rfl rcA raA) rfl rfl rfl ?_) | (show AWL _ _ _ (⟨_, .fieldAddr _ _ _, _, _, _, _⟩ :: _) _ _ _; refine awl_pw (wt_none rfl) (pv_fa T0 rfl rfl rfl (by simp; rfl)) rfl rfl ?_) | (show AWL _ _ _ (⟨_, .call ⟨.builtin .len, _, _⟩, _, _, _, _⟩ :: _) _ _ _; refine awl_pw (wt_none rfl) (pv_len_t T0 rfl rfl rfl) rfl rfl ?_) | refine awl_nil ?_)
  refine awp_ghost (ghost_nilrow 3 1) ?_
  refine awp_loop (fun q s h => ∃ (k : Nat) (a : Option Addr) (c : Nat) (rows : List (List AV)), k ≤ m.hou.length ∧ q = m.hou.length - k ∧ (0 < k → ∃ g, a = some ⟨g, 0, none⟩) ∧ rows.length = k ∧ rows = (natsI (List.range k)).map intRow ∧
    s = [(0, .v (.func (.yield l) #[] #[])), (1, .v (ptrV g)), (3, .v (.slice a k c)), (9, intA m.hou.length), (10, intA k)] ∧ h = [.rw (.slice a k c) 3 1 rows, .ob o, mkE g cp cc m]) ?_ ⟨0, _, _, _, Nat.zero_le _, rfl, (fun h => absurd h (Nat.lt_irrefl _)), rfl, rfl, rfl, rfl⟩ ssA rcA
  rintro q s h ⟨k, a, c, rows, hk, rfl, ha, hn, hrows, rfl, rfl⟩
  by_cases hlt : k < m.hou.length
  · repeat (first | refine awp_seq ?_ | refine awp_block ?_ | refine awp_region_lit rfl ?_ | refine awp_skip ?_ | refine awp_cond_t rfl (by first | rfl | assumption | exact dT (by omega)) ?_ | (show AWL _ _ _ (⟨_, .move _, _, _, _, _⟩ :: _) _ _ _; refine awl_pw (wt_none rfl) (pv_move rfl rfl) rfl rfl ?_) | (show AWL _ _ _ (⟨_, .assign _, _, _, _, _⟩ :: _) _ _ _; refine awl_pw (wt_none rfl) (pv_assign rfl rfl) rfl rfl ?_) | (show AWL _ _ _ (⟨_, .binOp .lss _ _ _ _, _, _, _, _⟩ :: _) _ _ _; refine awl_pw (wt_none rfl) (pv_lss rfl rfl rfl) rfl rfl ?_) | refine awl_nil ?_)
    refine awl_hw (wt_none rfl) (st_bsl T0 rfl rfl rfl rfl rfl rcA rfl rfl rfl rfl (by simp only [List.map_cons, List.map_nil, cellsA]; rfl) ?_)
    intro g14
    skip
    refine awl_hw (wt_none rfl) (st_app T0 rfl rfl rfl rfl rfl rfl rfl rfl rfl rcA rcA rfl rfl hn (by omega) (fun _ _ => trivial) ?_)
    intro a15 c15 p15
    repeat (first | refine awp_region_lit rfl ?_ | (show AWL _ _ _ (⟨_, .move _, _, _, _, _⟩ :: _) _ _ _; refine awl_pw (wt_none rfl) (pv_move rfl rfl) rfl rfl ?_) | (show AWL _ _ _ (⟨_, .assign _, _, _, _, _⟩ :: _) _ _ _; refine awl_pw (wt_none rfl) (pv_assign rfl rfl) rfl rfl ?_) | (show AWL _ _ _ (⟨_, .binOp .add _ _ _ _, _, _, _, _⟩ :: _) _ _ _; refine awl_pw (wt_none rfl) (pv_add rfl rfl rfl (by first | assumption | exact wr64 (by omega))) rfl rfl ?_) | refine awl_nil ?_)
    refine rnd_n _ _ _ ?_ ⟨k + 1, _, _, _, hlt, rfl, (fun _ => p15 (by omega)), ?_, ?_, rfl, rfl⟩ ssA rcA
    · omega
    · simp; omega
    · rw [hrows, List.range_succ]; simp [natsI, intRow]
  obtain rfl : k = m.hou.length := by omega
  obtain ⟨ga, rfl⟩ := ha (by omega)
  subst hrows
  repeat (first | refine awp_seq ?_ | refine awp_region_lit rfl ?_ | refine awp_exit ?_ | refine awp_cond_f rfl (by first | rfl | assumption | exact dF (by omega)) ?_ | (show AWL _ _ _ (⟨_, .move _, _, _, _, _⟩ :: _) _ _ _; refine awl_pw (wt_none rfl) (pv_move rfl rfl) rfl rfl ?_) | (show AWL _ _ _ (⟨_, .binOp .lss _ _ _ _, _, _, _, _⟩ :: _) _ _ _; refine awl_pw (wt_none rfl) (pv_lss rfl rfl rfl) rfl rfl ?_) | refine awl_nil ?_)
  refine awl_pw (wt_none rfl) (pv_makeFunc_v (fs := []) (cs := [ptrV g]) rfl rfl rfl) rfl rfl ?_
  skip
  refine awl_hw (wt_none rfl) (st_acall T0 (sort_p cp cc ga g c m.hou.length m rfl (by omega) (by omega)) rfl rfl rfl rfl (by first | exact callee_lit | exact callee_v | exact callee_fn | assumption) rcA raA rfl (by first | ((repeat' (first | exact SubH.refl _ | apply SubH.cons | exact Pick.here | apply Pick.there)); all_goals fail) | fail) (fun _ _ => trivial) ?_)
  rintro r h ⟨ys, hsort, hmem, hyl, rfl⟩
  obtain rfl := cheap_eq hv hsort hmem
  have hnl : (natsI (cheapL m)).length = m.hou.length := by rw [natsI_len]; exact hyl
  refine awl_nil ?_
  have hrt := intRows_tree (natsI (cheapL m))
  rw [hnl] at hrt
  refine awp_ghost (ghost_freeze (E := 3) (sz := 1) (n := m.hou.length) (rows := (natsI (cheapL m)).map intRow) (d := 3) (fun q => [.sc (.int .i64 ((natsI (cheapL m)).getD q 0))]) rcA rfl (by rw [List.length_map, hnl]) hrt) ?_
  repeat (first | refine awp_seq ?_ | refine awp_block ?_ | refine awp_region_lit rfl ?_ | (show AWL _ _ _ (⟨_, .move _, _, _, _, _⟩ :: _) _ _ _; refine awl_pw (wt_none rfl) (pv_move rfl rfl) rfl rfl ?_) | (show AWL _ _ _ (⟨_, .call ⟨.builtin .len, _, _⟩, _, _, _, _⟩ :: _) _ _ _; refine awl_pw (wt_none rfl) (pv_len_t T0 rfl rfl rfl) rfl rfl ?_) | refine awl_nil ?_)
  refine awp_loop (fun q s h => ∃ (k' : Nat) (o' : Ob), k' ≤ m.hou.length ∧ q = m.hou.length - k' ∧ C (((natsI (cheapL m)).take k').map intRow) o' ∧
    s = [(0, .v (.func (.yield l) #[] #[])), (21, .t (.sl true 1 m.hou.length (fun q => [.sc (.int .i64 ((natsI (cheapL m)).getD q 0))]))), (22, intA m.hou.length), (23, intA k')] ∧ h = [.ob o']) ?_ ⟨0, o, Nat.zero_le _, rfl, hC, rfl, rfl⟩ ssA rcA
  rintro q s h ⟨k', o', hk', rfl, hC', rfl, rfl⟩
  by_cases hlt : k' < m.hou.length
  · have hpre : PreC m (((natsI (cheapL m)).take k').map intRow ++ [intRow ((natsI (cheapL m)).getD k' 0)]) := ⟨k' + 1, by omega, take_snocR (by omega)⟩
    repeat (first | refine awp_seq ?_ | refine awp_block ?_ | refine awp_region_lit rfl ?_ | refine awp_skip ?_ | refine awp_cond_t rfl (by first | rfl | assumption | exact dT (by omega)) ?_ | (show AWL _ _ _ (⟨_, .move _, _, _, _, _⟩ :: _) _ _ _; refine awl_pw (wt_none rfl) (pv_move rfl rfl) rfl rfl ?_) | (show AWL _ _ _ (⟨_, .assign _, _, _, _, _⟩ :: _) _ _ _; refine awl_pw (wt_none rfl) (pv_assign rfl rfl) rfl rfl ?_) | (show AWL _ _ _ (⟨_, .load _ _, _, _, _, _⟩ :: _) _ _ _; refine awl_lw (wt_none rfl) (lv_elt_sc T0 rfl rfl rfl rfl) rfl rfl rfl ?_) | (show AWL _ _ _ (⟨_, .indexAddr _ _ _, _, _, _, _⟩ :: _) _ _ _; refine awl_pw (wt_none rfl) (pv_ix_t T0 rfl rfl rfl rfl (by omega) ixA) rfl rfl ?_) | (show AWL _ _ _ (⟨_, .binOp .lss _ _ _ _, _, _, _, _⟩ :: _) _ _ _; refine awl_pw (wt_none rfl) (pv_lss rfl rfl rfl) rfl rfl ?_) | refine awl_nil ?_)
    refine awl_hw (wt_none rfl) (aop_ycall (hround (((natsI (cheapL m)).take k').map intRow) (intRow ((natsI (cheapL m)).getD k' 0)) hpre o' hC') rfl rfl rfl rfl rcA (by first | ((repeat' (first | exact SubH.refl _ | apply SubH.cons | exact Pick.here | apply Pick.there)); all_goals fail) | fail) (fun _ _ => trivial) ?_)
    rintro r h ⟨o2, rfl, (⟨rfl, hC2⟩ | ⟨rfl, hX2⟩)⟩
    · repeat (first | refine awp_region_lit rfl ?_ | refine awp_skip ?_ | refine then_n ?_ | refine awp_cond_f rfl (by first | rfl | assumption | exact dF (by omega)) ?_ | (show AWL _ _ _ (⟨_, .move _, _, _, _, _⟩ :: _) _ _ _; refine awl_pw (wt_none rfl) (pv_move rfl rfl) rfl rfl ?_) | (show AWL _ _ _ (⟨_, .binOp .add _ _ _ _, _, _, _, _⟩ :: _) _ _ _; refine awl_pw (wt_none rfl) (pv_add rfl rfl rfl (by first | assumption | exact wr64 (by omega))) rfl rfl ?_) | (show AWL _ _ _ (⟨_, .unOp .not _ _, _, _, _, _⟩ :: _) _ _ _; refine awl_pw (wt_none rfl) (pv_not rfl rfl) rfl rfl ?_) | refine awl_nil ?_)
      rw [take_snocR (by omega)] at hC2
      refine rnd_n _ _ _ ?_ ⟨k' + 1, o2, hlt, rfl, hC2, rfl, rfl⟩ ssA rcA
      omega
    · repeat (first | refine awp_ret ?_ | refine then_n ?_ | refine then_r ?_ | refine blk_r ?_ | refine rnd_r ?_ | refine awp_cond_t rfl (by first | rfl | assumption | exact dT (by omega)) ?_ | (show AWL _ _ _ (⟨_, .unOp .not _ _, _, _, _, _⟩ :: _) _ _ _; refine awl_pw (wt_none rfl) (pv_not rfl rfl) rfl rfl ?_) | refine awl_nil ?_)
      exact body_r (h' := [.ob o2]) .nil rcA ⟨o2, rfl, .inr ⟨_, hpre, hX2⟩⟩
  · obtain rfl : k' = m.hou.length := by omega
    repeat (first | refine awp_seq ?_ | refine awp_region_lit rfl ?_ | refine awp_exit ?_ | refine then_x ?_ | refine blk_x ?_ | refine rnd_x ?_ | refine awp_cond_f rfl (by first | rfl | assumption | exact dF (by omega)) ?_ | (show AWL _ _ _ (⟨_, .binOp .lss _ _ _ _, _, _, _, _⟩ :: _) _ _ _; refine awl_pw (wt_none rfl) (pv_lss rfl rfl rfl) rfl rfl ?_) | refine awl_nil ?_)
    rw [List.take_of_length_le (by omega)] at hC'
    exact body_n .nil rcA ⟨o', rfl, .inl ⟨_, rfl, hC'⟩⟩
theorem cheap_o (cp cc : Bool) (m : MktD) : ACall Try.prog 79 [mktA cp cc m] [] (fun r h' => ∃ g, r = .v (.func (.func 94) #[] #[ptrV g]) ∧ h' = [mkE g cp cc m]) := by
  refine acall_of_awp T0 Try.func79 rfl rfl rfl ?_
  repeat (first | refine awp_seq ?_ | refine awp_region_lit rfl ?_)
  refine awl_hw (wt_none rfl) (st_box rfl rfl raA (by first | assumption | (simp only [cellsA]; rfl)) rfl rfl ?_)
  intro g2
  repeat (first | refine awp_seq ?_ | refine awp_region_lit rfl ?_ | (show AWL _ _ _ (⟨_, .assign _, _, _, _, _⟩ :: _) _ _ _; refine awl_pw (wt_none rfl) (pv_assign rfl rfl) rfl rfl ?_) | refine awl_nil ?_)
  refine awl_pw (wt_none rfl) (pv_makeFunc_v (fs := []) (cs := [ptrV g2]) rfl rfl rfl) rfl rfl ?_
  repeat (first | refine awp_ret ?_ | (show AWL _ _ _ (⟨_, .assign _, _, _, _, _⟩ :: _) _ _ _; refine awl_pw (wt_none rfl) (pv_assign rfl rfl) rfl rfl ?_) | refine awl_nil ?_)
  exact body_r (h' := [mkE g2 cp cc m]) (.cons rfl .nil) rcA ⟨g2, rfl, rfl⟩
end Go.Proofs.Ytallicfckbdeaaa
end
section
namespace Go.Proofs.Ytallicfckbdeaaa
open Go Go.RowKit Go.Tl
set_option linter.unusedVariables false
set_option linter.unusedSimpArgs false
set_option maxRecDepth 100000
set_option maxHeartbeats 4000000
structure SalC where
  fr : Int
  to : Int
  sh : Int
  deriving Inhabited, DecidableEq
def salcL (s : SalC) : List Tr := [.sc (.int .i64 s.fr), .sc (.int .i64 s.to), .sc (.int .i64 s.sh)]
def salcT (cp : Bool) (l : List SalC) : Tr := .sl cp 3 l.length (fun k => salcL (l.getD k default))
def salcRow (s : SalC) : List AV := [intA s.fr, intA s.to, intA s.sh]
/-- needs, spare shares, sales so far, and their cost -/
structure SetD where
  nd : Nat → Int
  sp : Nat → Int
  sales : List SalC
  cost : Int
/-- one house sells to another one what it can -/
def stepS (m : MktD) (st : SetD) (f t : Nat) : SetD :=
  if min (st.nd t) (st.sp f) = 0 then st
  else ⟨fun q => if q = t then st.nd t - min (st.nd t) (st.sp f) else st.nd q, fun q => if q = f then st.sp f - min (st.nd t) (st.sp f) else st.sp q, st.sales ++ [⟨f, t, min (st.nd t) (st.sp f)⟩], st.cost + min (st.nd t) (st.sp f) * (m.hou.getD f default).ask⟩
def innerS (m : MktD) (st : SetD) (f : Nat) : Nat → SetD
  | 0 => st
  | k + 1 => stepS m (innerS m st f k) f k
def startS (m : MktD) (t : List Int) : SetD := ⟨fun i => needN (posN m t i), fun i => spareN (m.hou.getD i default) (posN m t i), [], 0⟩
def outerS (m : MktD) (t : List Int) (l : List Nat) : SetD := l.foldl (fun st f => innerS m st f m.hou.length) (startS m t)
theorem outer_snoc (m : MktD) (t : List Int) (l : List Nat) (f : Nat) : outerS m t (l ++ [f]) = innerS m (outerS m t l) f m.hou.length := by unfold outerS; rw [List.foldl_append]; rfl
/-- the bounds of what has been settled so far, after so many steps -/
structure SOk (n : Nat) (st : SetD) (k : Nat) : Prop where
  nd : ∀ i, i < n → 0 ≤ st.nd i ∧ st.nd i ≤ 2000
  sp : ∀ i, i < n → 0 ≤ st.sp i ∧ st.sp i ≤ 2000
  len : st.sales.length ≤ k
  cost : 0 ≤ st.cost ∧ st.cost ≤ 2000000 * (k : Int)
theorem mul_bd {a b : Int} (ha : 0 ≤ a ∧ a ≤ 2000) (hb : 0 ≤ b ∧ b ≤ 1000) : 0 ≤ a * b ∧ a * b ≤ 2000000 := by
  have h1 := Int.mul_nonneg ha.1 hb.1
  have h2 := Int.mul_le_mul_of_nonneg_left hb.2 ha.1
  omega
theorem step_ok {m : MktD} {st : SetD} {k f t : Nat} (hv : VMkt m) (h : SOk m.hou.length st k) (hf : f < m.hou.length) (ht : t < m.hou.length) : SOk m.hou.length (stepS m st f t) (k + 1) := by
  have h1 := h.nd t ht
  have h2 := h.sp f hf
  have h3 := hv.ask f hf
  have h4 := mul_bd (a := min (st.nd t) (st.sp f)) (b := (m.hou.getD f default).ask) (by omega) h3
  have h5 := h.cost
  have h6 := h.len
  unfold stepS
  split
  · exact ⟨h.nd, h.sp, by omega, by omega⟩
  · refine ⟨fun i hi => ?_, fun i hi => ?_, by simp; omega, ?_⟩
    · have := h.nd i hi
      show 0 ≤ (if i = t then _ else _) ∧ (if i = t then _ else _) ≤ 2000
      split <;> omega
    · have := h.sp i hi
      show 0 ≤ (if i = f then _ else _) ∧ (if i = f then _ else _) ≤ 2000
      split <;> omega
    · show 0 ≤ st.cost + min (st.nd t) (st.sp f) * (m.hou.getD f default).ask ∧ st.cost + min (st.nd t) (st.sp f) * (m.hou.getD f default).ask ≤ _
      omega
theorem inner_ok {m : MktD} {st : SetD} {k f : Nat} (hv : VMkt m) (h : SOk m.hou.length st k) (hf : f < m.hou.length) : ∀ n, n ≤ m.hou.length → SOk m.hou.length (innerS m st f n) (k + n)
  | 0, _ => h
  | n + 1, hn => step_ok hv (inner_ok hv h hf n (by omega)) hf (by omega)
theorem start_ok {m : MktD} {t : List Int} (hv : VMkt m) (ht : truthB m t = true) : SOk m.hou.length (startS m t) 0 :=
  ⟨fun i hi => by have := pos_bd hv ht hi; show 0 ≤ needN _ ∧ needN _ ≤ 2000; unfold needN; omega,
   fun i hi => by have := pos_bd hv ht hi; show 0 ≤ spareN _ _ ∧ spareN _ _ ≤ 2000; unfold spareN; split <;> omega, Nat.le_refl _, by show 0 ≤ (0 : Int) ∧ (0 : Int) ≤ _; omega⟩
theorem fold_ok {m : MktD} (hv : VMkt m) : ∀ (l : List Nat) (st : SetD) (k : Nat), SOk m.hou.length st k → (∀ f ∈ l, f < m.hou.length) → SOk m.hou.length (l.foldl (fun st f => innerS m st f m.hou.length) st) (k + m.hou.length * l.length)
  | [], _, _, h, _ => h
  | f :: l, st, k, h, hl => by
    have h2 := fold_ok hv l _ _ (inner_ok hv h (hl f List.mem_cons_self) m.hou.length (Nat.le_refl _)) (fun x hx => hl x (List.mem_cons_of_mem _ hx))
    rw [show k + m.hou.length * (f :: l).length = k + m.hou.length + m.hou.length * l.length from by rw [List.length_cons, Nat.mul_add, Nat.mul_one]; omega]
    exact h2
theorem outer_ok {m : MktD} {t : List Int} (hv : VMkt m) (ht : truthB m t = true) (l : List Nat) (hl : ∀ f ∈ l, f < m.hou.length) : SOk m.hou.length (outerS m t l) (m.hou.length * l.length) := by
  have := fold_ok hv l _ _ (start_ok hv ht) hl
  rw [Nat.zero_add] at this
  exact this
theorem needL_rows (m : MktD) (t : List Int) : (needL m t m.hou.length).map intRow = fRows (startS m t).nd m.hou.length := by rw [fRows_eq]; rfl
theorem spareL_rows (m : MktD) (t : List Int) : (spareL m t m.hou.length).map intRow = fRows (startS m t).sp m.hou.length := by rw [fRows_eq]; rfl
def mxL (xs : List Int) : Nat → Int
  | 0 => xs.getD 0 0
  | k + 1 => max (mxL xs k) (xs.getD (k + 1) 0)
theorem mx_iff {xs : List Int} : ∀ k, 0 < mxL xs k ↔ ∃ i, i ≤ k ∧ 0 < xs.getD i 0
  | 0 => by
    constructor
    · exact fun h => ⟨0, Nat.le_refl _, h⟩
    · rintro ⟨i, hi, h⟩
      obtain rfl : i = 0 := by omega
      exact h
  | k + 1 => by
    have ih := mx_iff (xs := xs) k
    show 0 < max (mxL xs k) (xs.getD (k + 1) 0) ↔ _
    constructor
    · intro h
      by_cases c : 0 < mxL xs k
      · obtain ⟨i, hi, h1⟩ := ih.1 c
        exact ⟨i, by omega, h1⟩
      · exact ⟨k + 1, Nat.le_refl _, by omega⟩
    · rintro ⟨i, hi, h⟩
      by_cases c : i = k + 1
      · subst c; omega
      · have := ih.2 ⟨i, by omega, h⟩
        omega
attribute [local irreducible] AWP AWL AOp PV LV AWT AWE
theorem smax_p (cp : Bool) (xs : List Int) (hl : xs.length ≤ 1000) (h0 : 0 < xs.length) : PCall Try.prog 81 [.t (intsT cp xs)] (fun r => r = intA (mxL xs (xs.length - 1))) := by
  refine acall_of_awp T0 Try.func81 rfl rfl rfl ?_
  repeat (first | refine awp_seq ?_ | refine awp_block ?_ | refine awp_region_lit rfl ?_ | refine awp_skip ?_ | refine then_n ?_ | refine awp_cond_f rfl (by first | rfl | assumption | exact dF (by omega)) ?_ | (show AWL _ _ _ (⟨_, .move _, _, _, _, _⟩ :: _) _ _ _; refine awl_pw (wt_none rfl) (pv_move rfl rfl) rfl rfl ?_) | (show AWL _ _ _ (⟨_, .assign _, _, _, _, _⟩ :: _) _ _ _; refine awl_pw (wt_none rfl) (pv_assign rfl rfl) rfl rfl ?_) | (show AWL _ _ _ (⟨_, .load _ _, _, _, _, _⟩ :: _) _ _ _; refine awl_lw (wt_none rfl) (lv_elt_sc T0 rfl rfl rfl rfl) rfl rfl rfl ?_) | (show AWL _ _ _ (⟨_, .indexAddr _ _ _, _, _, _, _⟩ :: _) _ _ _; refine awl_pw (wt_none rfl) (pv_ix_t T0 rfl rfl rfl rfl (by omega) ixA) rfl rfl ?_) | (show AWL _ _ _ (⟨_, .binOp .lss _ _ _ _, _, _, _, _⟩ :: _) _ _ _; refine awl_pw (wt_none rfl) (pv_lss rfl rfl rfl) rfl rfl ?_) | (show AWL _ _ _ (⟨_, .call ⟨.builtin .len, _, _⟩, _, _, _, _⟩ :: _) _ _ _; refine awl_pw (wt_none rfl) (pv_len_t T0 rfl rfl rfl) rfl rfl ?_) | refine awl_nil ?_)
  refine awp_loop (fun m s h => ∃ (k : Nat), k + 1 ≤ xs.length ∧ m = xs.length - k ∧ s = [(0, .t (intsT cp xs)), (3, intA (mxL xs k)), (4, intA ((k + 1 : Nat) : Int))] ∧ h = []) ?_ ⟨0, h0, rfl, rfl, rfl⟩ ssA rcA
  rintro m s h ⟨k, hk, rfl, rfl, rfl⟩
  by_cases hlt : k + 1 < xs.length
  · repeat (first | refine awp_seq ?_ | refine awp_block ?_ | refine awp_region_lit rfl ?_ | refine awp_skip ?_ | refine then_n ?_ | refine awp_cond_t rfl (by first | rfl | assumption | exact dT (by omega)) ?_ | (show AWL _ _ _ (⟨_, .move _, _, _, _, _⟩ :: _) _ _ _; refine awl_pw (wt_none rfl) (pv_move rfl rfl) rfl rfl ?_) | (show AWL _ _ _ (⟨_, .assign _, _, _, _, _⟩ :: _) _ _ _; refine awl_pw (wt_none rfl) (pv_assign rfl rfl) rfl rfl ?_) | (show AWL _ _ _ (⟨_, .load _ _, _, _, _, _⟩ :: _) _ _ _; refine awl_lw (wt_none rfl) (lv_elt_sc T0 rfl rfl rfl rfl) rfl rfl rfl ?_) | (show AWL _ _ _ (⟨_, .indexAddr _ _ _, _, _, _, _⟩ :: _) _ _ _; refine awl_pw (wt_none rfl) (pv_ix_t T0 rfl rfl rfl rfl (by omega) ixA) rfl rfl ?_) | (show AWL _ _ _ (⟨_, .binOp .add _ _ _ _, _, _, _, _⟩ :: _) _ _ _; refine awl_pw (wt_none rfl) (pv_add rfl rfl rfl (by first | assumption | exact wr64 (by omega))) rfl rfl ?_) | (show AWL _ _ _ (⟨_, .binOp .lss _ _ _ _, _, _, _, _⟩ :: _) _ _ _; refine awl_pw (wt_none rfl) (pv_lss rfl rfl rfl) rfl rfl ?_) | (show AWL _ _ _ (⟨_, .call ⟨.builtin .len, _, _⟩, _, _, _, _⟩ :: _) _ _ _; refine awl_pw (wt_none rfl) (pv_len_t T0 rfl rfl rfl) rfl rfl ?_) | (show AWL _ _ _ (⟨_, .call ⟨.builtin .max, _, _⟩, _, _, _, _⟩ :: _) _ _ _; refine awl_pw (wt_none rfl) (pv_max2 rfl rfl rfl) rfl rfl ?_) | refine awl_nil ?_)
    refine rnd_n _ _ _ ?_ ⟨k + 1, hlt, rfl, rfl, rfl⟩ ssA rcA
    omega
  have e : xs.length - 1 = k := by omega
  rw [e]
  repeat (first | refine awp_seq ?_ | refine awp_region_lit rfl ?_ | refine awp_exit ?_ | refine awp_ret ?_ | refine then_n ?_ | refine awp_cond_f rfl (by first | rfl | assumption | exact dF (by omega)) ?_ | (show AWL _ _ _ (⟨_, .move _, _, _, _, _⟩ :: _) _ _ _; refine awl_pw (wt_none rfl) (pv_move rfl rfl) rfl rfl ?_) | (show AWL _ _ _ (⟨_, .assign _, _, _, _, _⟩ :: _) _ _ _; refine awl_pw (wt_none rfl) (pv_assign rfl rfl) rfl rfl ?_) | (show AWL _ _ _ (⟨_, .binOp .lss _ _ _ _, _, _, _, _⟩ :: _) _ _ _; refine awl_pw (wt_none rfl) (pv_lss rfl rfl rfl) rfl rfl ?_) | (show AWL _ _ _ (⟨_, .call ⟨.builtin .len, _, _⟩, _, _, _, _⟩ :: _) _ _ _; refine awl_pw (wt_none rfl) (pv_len_t T0 rfl rfl rfl) rfl rfl ?_) | refine awl_nil ?_)
  exact body_p (.cons rfl .nil) rfl
theorem Needs_o (cp cc ct : Bool) (m : MktD) (t : List Int) (hf : faultN m = 0) (hl : m.hou.length ≤ 1000) (hc : m.con.length ≤ 1000) (ht : truthB m t = true) : ACall Try.prog 19 [mktA cp cc m, .t (intsT ct t)] [] (fun r h' => ∃ a1 c1 a2 c2, r = .tup [.v (.slice a1 m.hou.length c1), .v (.slice a2 m.hou.length c2), intA 0] ∧ h' = [.rw (.slice a1 m.hou.length c1) 3 1 ((needL m t m.hou.length).map intRow), .rw (.slice a2 m.hou.length c2) 3 1 ((spareL m t m.hou.length).map intRow)]) := by
  have hv := vmkt hf
  have htl : t.length = m.hou.length := (truth_iff.1 ht).1
  refine acall_of_awp T0 Try.func19 rfl rfl rfl ?_
  repeat (first | refine awp_seq ?_ | refine awp_region_lit rfl ?_)
  refine awl_hw (wt_none rfl) (st_box rfl rfl raA (by first | assumption | (simp only [cellsA]; rfl)) rfl rfl ?_)
  intro g2
  repeat (first | refine awp_seq ?_ | refine awp_region_lit rfl ?_ | (show AWL _ _ _ (⟨_, .assign _, _, _, _, _⟩ :: _) _ _ _; refine awl_pw (wt_none rfl) (pv_assign rfl rfl) rfl rfl ?_) | (show AWL _ _ _ (⟨_, .load _ _, _, _, _, _⟩ :: _) _ _ _; refine awl_lw (wt_none rfl) (lv_cla T0 rfl rfl rfl rcA rfl) rfl rfl rfl ?_) | refine awl_nil ?_)
  refine awl_hw (wt_none rfl) (st_call T0 (check_p cp cc m hl hc) rfl rfl rfl rfl (by first | exact callee_lit | exact callee_v | exact callee_fn | assumption) rcA raA rfl ?_)
  rintro _ rfl
  rw [hf]
  repeat (first | refine awp_seq ?_ | refine awp_region_lit rfl ?_ | refine awp_skip ?_ | refine then_n ?_ | refine awp_cond_f rfl (by first | rfl | assumption | exact dF (by omega)) ?_ | (show AWL _ _ _ (⟨_, .move _, _, _, _, _⟩ :: _) _ _ _; refine awl_pw (wt_none rfl) (pv_move rfl rfl) rfl rfl ?_) | (show AWL _ _ _ (⟨_, .assign _, _, _, _, _⟩ :: _) _ _ _; refine awl_pw (wt_none rfl) (pv_assign rfl rfl) rfl rfl ?_) | (show AWL _ _ _ (⟨_, .load _ _, _, _, _, _⟩ :: _) _ _ _; refine awl_lw (wt_none rfl) (lv_cla T0 rfl rfl rfl rcA rfl) rfl rfl rfl ?_) | (show AWL _ _ _ (⟨_, .binOp .neq _ _ _ _, _, _, _, _⟩ :: _) _ _ _; refine awl_pw (wt_none rfl) (pv_neq rfl rfl rfl) rfl rfl ?_) | refine awl_nil ?_)
  refine awl_hw (wt_none rfl) (st_call T0 (is_p cp cc ct m t hv (by omega)) rfl rfl rfl rfl (by first | exact callee_lit | exact callee_v | exact callee_fn | assumption) rcA raA rfl ?_)
  rintro _ rfl
  rw [ht]
  repeat (first | refine awp_seq ?_ | refine awp_region_lit rfl ?_ | refine awp_skip ?_ | refine then_n ?_ | refine awp_cond_f rfl (by first | rfl | assumption | exact dF (by omega)) ?_ | (show AWL _ _ _ (⟨_, .move _, _, _, _, _⟩ :: _) _ _ _; refine awl_pw (wt_none rfl) (pv_move rfl rfl) rfl rfl ?_) | (show AWL _ _ _ (⟨_, .load _ _, _, _, _, _⟩ :: _) _ _ _; refine awl_lw (wt_none rfl) (lv_cla T0 rfl rfl rfl rcA rfl) rfl rfl rfl ?_) | (show AWL _ _ _ (⟨_, .unOp .not _ _, _, _, _, _⟩ :: _) _ _ _; refine awl_pw (wt_none rfl) (pv_not rfl rfl) rfl rfl ?_) | refine awl_nil ?_)
  refine awl_hw (wt_none rfl) (st_acall T0 (needs_o cp cc ct m t hv ht) rfl rfl rfl rfl (by first | exact callee_lit | exact callee_v | exact callee_fn | assumption) rcA raA rfl (by first | ((repeat' (first | exact SubH.refl _ | apply SubH.cons | exact Pick.here | apply Pick.there)); all_goals fail) | fail) (fun _ _ => trivial) ?_)
  rintro r h' ⟨a1, c1, a2, c2, rfl, rfl⟩
  simp only [List.cons_append, List.nil_append]
  repeat (first | refine awp_seq ?_ | refine awp_region_lit rfl ?_ | refine awp_ret ?_ | (show AWL _ _ _ (⟨_, .move _, _, _, _, _⟩ :: _) _ _ _; refine awl_pw (wt_none rfl) (pv_move rfl rfl) rfl rfl ?_) | (show AWL _ _ _ (⟨_, .assign _, _, _, _, _⟩ :: _) _ _ _; refine awl_pw (wt_none rfl) (pv_assign rfl rfl) rfl rfl ?_) | (show AWL _ _ _ (⟨_, .extract _ _, _, _, _, _⟩ :: _) _ _ _; refine awl_pw (wt_none rfl) (pv_extract rfl rfl rfl) rfl rfl ?_) | refine awl_nil ?_)
  exact body_r (h' := [.rw (.slice a1 m.hou.length c1) 3 1 ((needL m t m.hou.length).map intRow), .rw (.slice a2 m.hou.length c2) 3 1 ((spareL m t m.hou.length).map intRow)]) (.cons rfl (.cons rfl (.cons rfl .nil))) rcA ⟨a1, c1, a2, c2, rfl, rfl⟩
section
variable {ro : Option Nat} {g2 g4 g5 g7 g8 gn gs c1 c2 n f k : Nat} {nd sp : Nat → Int} {u2 u4 u5 u6 u25 u26 u27 : AV} {x y cost : Int} {cp cc : Bool} {m : MktD} {rest : List Ent} {X : Option Addr} {xn xc : Nat}
theorem hk_9 (hf : f < n) (hk : k < n) {ops : Array Oper} (h : regG Try.f41 9 = some ops) :
    AWP Try.prog Try.f41.ntmps ro (.region 9 ops true) (cutQ (fun s h => s = [(11, intA (min (nd k) (sp f))), (2, u2), (4, u4), (5, u5), (7, .v (ptrV g7)), (8, .v (ptrV g8)), (9, intA f), (10, intA k), (26, u26), (27, u27)] ∧ h = .cl g7 26 [.v (.slice (some ⟨gn, 0, none⟩) n c1)] :: .cl g8 26 [.v (.slice (some ⟨gs, 0, none⟩) n c2)] :: .rw (.slice (some ⟨gn, 0, none⟩) n c1) 3 1 (fRows nd n) :: .rw (.slice (some ⟨gs, 0, none⟩) n c2) 3 1 (fRows sp n) :: rest))
      [(2, u2), (4, u4), (5, u5), (7, .v (ptrV g7)), (8, .v (ptrV g8)), (9, intA f), (10, intA k), (26, u26), (27, u27)] (.cl g7 26 [.v (.slice (some ⟨gn, 0, none⟩) n c1)] :: .cl g8 26 [.v (.slice (some ⟨gs, 0, none⟩) n c2)] :: .rw (.slice (some ⟨gn, 0, none⟩) n c1) 3 1 (fRows nd n) :: .rw (.slice (some ⟨gs, 0, none⟩) n c2) 3 1 (fRows sp n) :: rest) := by
  cases h
  have r1 := fRows_at (f := nd) hk
  have r2 := fRows_at (f := sp) hf
  have r3 := fRows_len nd n
  have r4 := fRows_len sp n
  refine awp_tree T0 [(0, 1), (1, 0), (2, 0), (3, 1), (4, 1), (5, 0), (6, 0), (7, 1), (8, 3), (9, 3), (10, 0)] (.op 0 1 (.op 1 0 (.op 2 0 (.op 3 1 (.op 4 1 (.op 5 0 (.op 6 0 (.op 7 1 (.op 8 3 (.op 9 3 (.op 10 0 .stop))))))))))) [.cl g7 _ _, .cl g8 _ _, .rw (.slice (some ⟨gn, 0, none⟩) n c1) _ _ _, .rw (.slice (some ⟨gs, 0, none⟩) n c2) _ _ _] rfl (by kernel_rfl) rcA ?_
  refine awt_lo rfl (wt_none rfl) (lv_cl1 T0 rfl rfl rfl rcA raA) rfl rfl rfl ?_
  refine awt_po rfl (wt_none rfl) (pv_move rfl rfl) rfl rfl ?_
  refine awt_po rfl (wt_none rfl) (pv_ix_own T0 rfl rfl rfl rfl (by omega) ixA) rfl rfl ?_
  refine awt_lo rfl (wt_none rfl) (lv_rp T0 rfl rfl rfl rcA (by first | omega | (simp; omega)) (by omega) (by first | assumption | rfl)) rfl rfl rfl ?_
  refine awt_lo rfl (wt_none rfl) (lv_cl1 T0 rfl rfl rfl rcA raA) rfl rfl rfl ?_
  refine awt_po rfl (wt_none rfl) (pv_move rfl rfl) rfl rfl ?_
  refine awt_po rfl (wt_none rfl) (pv_ix_own T0 rfl rfl rfl rfl (by omega) ixA) rfl rfl ?_
  refine awt_lo rfl (wt_none rfl) (lv_rp T0 rfl rfl rfl rcA (by first | omega | (simp; omega)) (by omega) (by first | assumption | rfl)) rfl rfl rfl ?_
  refine awt_s (md := fun _ => True) rfl (wt_none rfl) (st_bsl T0 rfl rfl rfl rfl rfl rcA rfl rfl rfl rfl (by simp only [List.map_cons, List.map_nil, cellsA]; rfl) ?_)
  intro g38
  refine awe_s (md := fun _ => True) rfl (wt_none rfl) (st_acall T0 (min2_o _ (nd k) (sp f)) rfl rfl rfl rfl (by first | exact callee_lit | exact callee_v | exact callee_fn | assumption) rcA raA rfl (by first | ((repeat' (first | exact SubH.refl _ | apply SubH.cons | exact Pick.here | apply Pick.there)); all_goals fail) | fail) (fun _ _ => trivial) ?_)
  rintro r h' ⟨rfl, rfl⟩
  refine awe_p rfl (wt_none rfl) (pv_assign rfl rfl) rfl rfl ?_
  refine awe_end ?_
  exact cut_n ⟨rfl, rfl⟩ ssA (SubH.refl _)
theorem hk_12 (hf : f < m.hou.length) (hx : 0 ≤ x * (m.hou.getD f default).ask ∧ x * (m.hou.getD f default).ask ≤ 2000000) (hc : 0 ≤ cost ∧ cost ≤ 200000000) {ops : Array Oper} (h : regG Try.f41 12 = some ops) :
    AWP Try.prog Try.f41.ntmps ro (.region 12 ops true) (cutQ (fun s h => s = [(2, .v (ptrV g2)), (4, u4), (5, .v (ptrV g5)), (7, u6), (8, u25), (9, intA f), (10, intA k), (11, intA x), (26, u26), (27, u27)] ∧ h = .cl g5 3 [intA (cost + x * (m.hou.getD f default).ask)] :: mkE g2 cp cc m :: rest))
      [(2, .v (ptrV g2)), (4, u4), (5, .v (ptrV g5)), (7, u6), (8, u25), (9, intA f), (10, intA k), (11, intA x), (26, u26), (27, u27)] (.cl g5 3 [intA cost] :: mkE g2 cp cc m :: rest) := by
  cases h
  have w1 : IntKind.i64.wrap (x * (m.hou.getD f default).ask) = x * (m.hou.getD f default).ask := wr64 (by omega)
  refine awp_tree T0 [(1, 0), (2, 0), (3, 1), (4, 0), (5, 0), (6, 0), (7, 1), (8, 0), (0, 2), (9, 0), (10, 3)] (.op 1 0 (.op 2 0 (.op 3 1 (.op 4 0 (.op 5 0 (.op 6 0 (.op 7 1 (.op 8 0 (.op 0 2 (.op 9 0 (.op 10 3 .stop))))))))))) [.cl g2 _ _] rfl (by kernel_rfl) rcA ?_
  refine awt_po rfl (wt_none rfl) (pv_move rfl rfl) rfl rfl ?_
  refine awt_po rfl (wt_none rfl) (pv_fa T0 rfl rfl rfl (by simp; rfl)) rfl rfl ?_
  refine awt_lo rfl (wt_none rfl) (lv_cl1 T0 rfl rfl rfl rcA raA) rfl rfl rfl ?_
  refine awt_po rfl (wt_none rfl) (pv_move rfl rfl) rfl rfl ?_
  refine awt_po rfl (wt_none rfl) (pv_ix_t T0 rfl rfl rfl rfl (by omega) ixA) rfl rfl ?_
  refine awt_po rfl (wt_none rfl) (pv_fa_elt T0 rfl rfl rfl (by simp; rfl)) rfl rfl ?_
  refine awt_lo rfl (wt_none rfl) (lv_elt_sc T0 rfl rfl rfl rfl) rfl rfl rfl ?_
  refine awt_po rfl (wt_none rfl) (pv_mul rfl rfl rfl (by first | assumption | exact wr64 (by omega))) rfl rfl ?_
  refine awt_h (hm := []) rfl (wt_none rfl) rcA rfl (aop_lv (lv_cl1 T0 rfl rfl rfl rcA rfl) rfl (blt_lt rfl) ?_)
  refine awt_n1 rfl (wt_none rfl) (pv_add rfl rfl rfl (by first | assumption | exact wr64 (by omega))) rfl rfl rfl ?_
  refine awt_s (md := fun _ => True) rfl (wt_none rfl) (st_store T0 rfl rfl rfl rfl rfl (by first | assumption | (simp only [cellsA]; rfl)) rfl rfl rfl rcA rcA trivial ?_)
  refine awe_end ?_
  exact cut_n ⟨rfl, rfl⟩ ssA (SubH.refl _)
theorem hk_18 {ops : Array Oper} (h : regF Try.f41 18 = some ops) :
    AWP Try.prog Try.f41.ntmps none (.region 18 ops true) (cutQ (fun s h => s = [(6, intA 0), (4, .v (ptrV g4)), (5, .v (ptrV g5))] ∧ h = .cl g4 65 [.v (.slice X xn xc)] :: .cl g5 3 [intA cost] :: rest))
      [(4, .v (ptrV g4)), (5, .v (ptrV g5))] (.cl g4 65 [.v (.slice X xn xc)] :: .cl g5 3 [intA cost] :: rest) := by
  cases h
  refine awp_tree T0 [(0, 3), (1, 3), (2, 3), (3, 3), (4, 0)] (.fork 0 (.fork 1 (.op 2 3 (.op 3 3 (.op 4 0 .stop))) 2 (.op 1 3 (.op 3 3 (.op 4 0 .stop)))) 1 (.op 0 3 (.op 2 3 (.op 3 3 (.op 4 0 .stop))))) [] rfl (by kernel_rfl) rcA ?_
  refine awt_fork ?_ ?_
  · skip
    refine awt_h (hm := []) rfl (wt_none rfl) rcA rfl (aop_lv (lv_cl1 T0 rfl rfl rfl rcA rfl) rfl (blt_lt rfl) ?_)
    refine awt_fork ?_ ?_
    · skip
      refine awt_h (hm := []) rfl (wt_none rfl) rcA rfl (aop_lv (lv_cl1 T0 rfl rfl rfl rcA rfl) rfl (blt_lt rfl) ?_)
      refine awt_s (md := fun _ => True) rfl (wt_none rfl) (st_store T0 rfl rfl rfl rfl rfl (by first | assumption | (simp only [cellsA]; rfl)) rfl rfl rfl rcA rcA trivial ?_)
      refine awe_s (md := fun _ => True) rfl (wt_none rfl) (st_store T0 rfl rfl rfl rfl rfl (by first | assumption | (simp only [cellsA]; rfl)) rfl rfl rfl rcA rcA trivial ?_)
      refine awe_p rfl (wt_none rfl) (pv_assign rfl rfl) rfl rfl ?_
      refine awe_end ?_
      exact cut_n ⟨rfl, rfl⟩ ssA (SubH.refl _)
    · skip
      refine awt_h (hm := _) rfl (wt_none rfl) ?sub rfl (st_store_o T0 rfl rfl rfl rfl rfl (by first | assumption | (simp only [cellsA]; rfl)) rfl rfl rfl rcA rcA ?_)
      case sub => exact rcA
      refine awt_s (md := fun _ => True) rfl (wt_none rfl) (aop_lv (lv_cl1 T0 rfl rfl rfl rcA rfl) rfl (blt_lt rfl) ?_)
      refine awe_s (md := fun _ => True) rfl (wt_none rfl) (st_store T0 rfl rfl rfl rfl rfl (by first | assumption | (simp only [cellsA]; rfl)) rfl rfl rfl rcA rcA trivial ?_)
      refine awe_p rfl (wt_none rfl) (pv_assign rfl rfl) rfl rfl ?_
      refine awe_end ?_
      exact cut_n ⟨rfl, rfl⟩ ssA (SubH.refl _)
  · skip
    refine awt_h (hm := []) rfl (wt_none rfl) rcA rfl (aop_lv (lv_cl1 T0 rfl rfl rfl rcA rfl) rfl (blt_lt rfl) ?_)
    refine awt_s (md := fun _ => True) rfl (wt_none rfl) (aop_lv (lv_cl1 T0 rfl rfl rfl rcA rfl) rfl (blt_lt rfl) ?_)
    refine awe_s (md := fun _ => True) rfl (wt_none rfl) (st_store T0 rfl rfl rfl rfl rfl (by first | assumption | (simp only [cellsA]; rfl)) rfl rfl rfl rcA rcA trivial ?_)
    refine awe_s (md := fun _ => True) rfl (wt_none rfl) (st_store T0 rfl rfl rfl rfl rfl (by first | assumption | (simp only [cellsA]; rfl)) rfl rfl rfl rcA rcA trivial ?_)
    refine awe_p rfl (wt_none rfl) (pv_assign rfl rfl) rfl rfl ?_
    refine awe_end ?_
    exact cut_n ⟨rfl, rfl⟩ ssA (SubH.refl _)
end
end Go.Proofs.Ytallicfckbdeaaa
end
