/- Joined texts: Ce, Le. -/
import Derived.Test.YtallicfckbdeaaaCd
import Derived.Test.YtallicfckbdeaaaGTy
section
namespace Go.Tl
open Go Go.RowKit
set_option linter.unusedSimpArgs false
set_option linter.unusedVariables false
theorem acall_ownG {P : Program} {g : Nat} {v : Value} {E sz n : Nat} {rows : List (List AV)} {f : Nat → List Tr} {args : List AV} {hc : List Ent} {Q : AV → List Ent → Prop} (C : ACall P g (.t (.sl true sz n f) :: args) hc Q) (hn : rows.length = n) (hf : ∀ k, k < n → rows.getD k [] = (f k).map AV.ofTr) :
    ACall P g (.v v :: args) (.rw v E sz rows :: hc) Q := fun w S vs h1 h2 h3 => by
  have he := h2.ent _ List.mem_cons_self
  have ht := row_tree he hn hf
  have hlt' : ∀ b, (S b ∨ v.ownBlock = some b) → b < w.heap.size := fun b hb => by
    rcases hb with hb | hb
    · exact h1 b hb
    · obtain ⟨xs, ho, _⟩ := he
      exact (ho.lt b hb).2
  obtain ⟨u, us, rfl, hu, h4⟩ := Go.Proofs.Ytallicfckbdeaaa.rels1 h3
  have eu := hu.lit_inv
  subst eu
  have h2' := h2.freeze (Pick.here (l := hc))
  refine (C w _ (u :: us) hlt' h2' (.cons (.t ht) (h4.mono (fun _ h => .inl h) (fun _ _ => rfl)))).mono fun e w' ⟨v', S'', r, h', e1, hq, hvr, E', hlt, hr, hl⟩ => ⟨v', S'', r, h', e1, hq, hvr, ⟨E'.os, E'.tape, E'.output, E'.size, fun b hb hno => E'.keep b hb (fun ⟨e, he, hg⟩ => hno ⟨e, List.mem_cons_of_mem _ he, hg⟩), fun b hb => E'.stab b (.inl hb), fun b hb => ?_⟩, hlt, hr, fun e he g hg => ?_⟩
  · rcases E'.new b hb with (h | h) | h | ⟨e, he, hg⟩
    · exact .inl h
    · exact .inr (.inr ⟨_, List.mem_cons_self, h⟩)
    · exact .inr (.inl h)
    · exact .inr (.inr ⟨e, List.mem_cons_of_mem _ he, hg⟩)
  · rcases hl e he g hg with ⟨e2, he2, hg2⟩ | h
    · exact .inl ⟨e2, List.mem_cons_of_mem _ he2, hg2⟩
    · exact .inr h
theorem acall_nilG {P : Program} {g : Nat} {cp : Bool} {f : Nat → List Tr} {args : List AV} {hc : List Ent} {Q : AV → List Ent → Prop} (C : ACall P g (.t (.sl cp 1 0 f) :: args) hc Q) : ACall P g (.v (.slice none 0 0) :: args) hc Q := fun w S vs h1 h2 h3 => by
  obtain ⟨u, us, rfl, hu, h4⟩ := Go.Proofs.Ytallicfckbdeaaa.rels1 h3
  have eu := hu.lit_inv
  subst eu
  exact C w S _ h1 h2 (.cons (.t (.sl (fun _ _ => .int .i64 0) (fun _ => Nat.le_refl _) (fun k hk => absurd hk (Nat.not_lt_zero _)) (fun k hk => absurd hk (Nat.not_lt_zero _)) (fun k j x hk => absurd hk (Nat.not_lt_zero _)))) h4)
end Go.Tl
namespace Go.Proofs.Ytallicfckbdeaaa
open Go Go.RowKit Go.Tl
set_option linter.unusedVariables false
set_option linter.unusedSimpArgs false
set_option maxRecDepth 100000
set_option maxHeartbeats 4000000
theorem conOne (cs : List HouD) : ∀ k, k < cs.length → ∀ u ∈ houL (cs.getD k default), oneA (AV.ofTr u) = true := fun k hk u hu => by
  simp only [houL, List.mem_cons, List.not_mem_nil, or_false] at hu
  rcases hu with rfl | rfl | rfl | rfl <;> rfl
/-- the least of some numbers -/
def mnL (xs : List Int) : Nat → Int
  | 0 => xs.getD 0 0
  | k + 1 => min (mnL xs k) (xs.getD (k + 1) 0)
attribute [local irreducible] AWP AWL AOp PV LV AWT AWE
theorem iclone_o (cp : Bool) (l : List Int) (hl : l.length ≤ 1000) : ACall Try.prog 75 [.t (intsT cp l)] [] (fun r h' => ∃ (a : Option Addr) (c : Nat), r = .v (.slice a l.length c) ∧ h' = [.rw (.slice a l.length c) 3 1 (l.map intRow)]) := by
  refine acall_of_awp T0 Try.func75 rfl rfl rfl ?_
  repeat (first | refine awp_seq ?_ | refine awp_region_lit rfl ?_ | (show AWL _ _ _ (⟨_, .move _, _, _, _, _⟩ :: _) _ _ _; refine awl_pw (wt_none rfl) (pv_move rfl rfl) rfl rfl ?_) | (show AWL _ _ _ (⟨_, .assign _, _, _, _, _⟩ :: _) _ _ _; refine awl_pw (wt_none rfl) (pv_assign rfl rfl) rfl rfl ?_) | refine awl_nil ?_)
  refine awl_hw (wt_none rfl) (aop_isnil T0 rfl rfl rfl rfl rfl ?_)
  intro bb hb
  cases bb
  · repeat (first | refine awp_seq ?_ | refine awp_region_lit rfl ?_ | refine awp_skip ?_ | refine then_n ?_ | refine awp_cond_f rfl (by first | rfl | assumption | exact dF (by omega)) ?_ | refine awl_nil ?_)
    refine awl_hw (wt_none rfl) (st_bsl T0 rfl rfl rfl rfl rfl rcA rfl rfl rfl rfl (by simp only [List.map_cons, List.map_nil, cellsA]; rfl) ?_)
    intro g
    repeat (first | (show AWL _ _ _ (⟨_, .move _, _, _, _, _⟩ :: _) _ _ _; refine awl_pw (wt_none rfl) (pv_move rfl rfl) rfl rfl ?_))
    refine awl_hw (wt_none rfl) (st_appt T0 rfl rfl rfl rfl rfl rfl rfl rfl rfl rcA (by first | exact conOne _ | (intro k hk u hu; simp at hu; subst hu; rfl)) (rfl : ([] : List (List AV)).length = 0) (by first | omega | (simp; omega)) (fun _ _ => trivial) rfl ?_)
    intro a c p
    repeat (first | refine awp_ret ?_ | (show AWL _ _ _ (⟨_, .assign _, _, _, _, _⟩ :: _) _ _ _; refine awl_pw (wt_none rfl) (pv_assign rfl rfl) rfl rfl ?_) | refine awl_nil ?_)
    simp only [List.nil_append, List.length_nil, Nat.zero_add]
    have hrows : ((List.range l.length).map fun k => List.map AV.ofTr [Tr.sc (.int .i64 (l.getD k 0))]) = l.map intRow := by
      refine List.ext_getElem (by simp) fun k h1 h2 => ?_
      simp at h1 h2
      simp [List.getD_eq_getElem?_getD, h1, AV.ofTr, intRow]
    rw [hrows]
    exact body_r (h' := [.rw (.slice a l.length c) 3 1 (l.map intRow)]) (.cons rfl .nil) rcA ⟨a, c, rfl, rfl⟩
  · have hl0 : l = [] := by
      refine List.length_eq_zero_iff.1 ?_
      rcases Nat.eq_zero_or_pos l.length with e | e
      · exact e
      · have := hb e; cases this
    subst hl0
    repeat (first | refine awp_seq ?_ | refine awp_region_lit rfl ?_ | refine awp_ret ?_ | refine then_n ?_ | refine then_r ?_ | refine awp_cond_t rfl (by first | rfl | assumption | exact dT (by omega)) ?_ | (show AWL _ _ _ (⟨_, .assign _, _, _, _, _⟩ :: _) _ _ _; refine awl_pw (wt_none rfl) (pv_assign rfl rfl) rfl rfl ?_) | refine awl_nil ?_)
    refine bodyQ_ghost (ghost_nilrow 3 1) ?_
    exact body_r (h' := [.rw (.slice none 0 0) 3 1 []]) (.cons rfl .nil) rcA ⟨none, 0, rfl, rfl⟩
theorem hclone_o (cp : Bool) (l : List HouD) (hl : l.length ≤ 1000) : ACall Try.prog 93 [.t (housT cp l)] [] (fun r h' => ∃ (a : Option Addr) (c : Nat), r = .v (.slice a l.length c) ∧ h' = [.rw (.slice a l.length c) 73 4 (l.map houRow)]) := by
  refine acall_of_awp T0 Try.func93 rfl rfl rfl ?_
  repeat (first | refine awp_seq ?_ | refine awp_region_lit rfl ?_ | (show AWL _ _ _ (⟨_, .move _, _, _, _, _⟩ :: _) _ _ _; refine awl_pw (wt_none rfl) (pv_move rfl rfl) rfl rfl ?_) | (show AWL _ _ _ (⟨_, .assign _, _, _, _, _⟩ :: _) _ _ _; refine awl_pw (wt_none rfl) (pv_assign rfl rfl) rfl rfl ?_) | refine awl_nil ?_)
  refine awl_hw (wt_none rfl) (aop_isnil T0 rfl rfl rfl rfl rfl ?_)
  intro bb hb
  cases bb
  · repeat (first | refine awp_seq ?_ | refine awp_region_lit rfl ?_ | refine awp_skip ?_ | refine then_n ?_ | refine awp_cond_f rfl (by first | rfl | assumption | exact dF (by omega)) ?_ | refine awl_nil ?_)
    refine awl_hw (wt_none rfl) (st_bsl T0 rfl rfl rfl rfl rfl rcA rfl rfl rfl rfl (by simp only [List.map_cons, List.map_nil, cellsA]; rfl) ?_)
    intro g
    repeat (first | (show AWL _ _ _ (⟨_, .move _, _, _, _, _⟩ :: _) _ _ _; refine awl_pw (wt_none rfl) (pv_move rfl rfl) rfl rfl ?_))
    refine awl_hw (wt_none rfl) (st_appt T0 rfl rfl rfl rfl rfl rfl rfl rfl rfl rcA (by first | exact conOne _ | (intro k hk u hu; simp at hu; subst hu; rfl)) (rfl : ([] : List (List AV)).length = 0) (by first | omega | (simp; omega)) (fun _ _ => trivial) rfl ?_)
    intro a c p
    repeat (first | refine awp_ret ?_ | (show AWL _ _ _ (⟨_, .assign _, _, _, _, _⟩ :: _) _ _ _; refine awl_pw (wt_none rfl) (pv_assign rfl rfl) rfl rfl ?_) | refine awl_nil ?_)
    simp only [List.nil_append, List.length_nil, Nat.zero_add]
    have hrows : ((List.range l.length).map fun k => (houL (l.getD k default)).map AV.ofTr) = l.map houRow := by
      refine List.ext_getElem (by simp) fun k h1 h2 => ?_
      simp at h1 h2
      simp [List.getD_eq_getElem?_getD, h1, AV.ofTr, houL, houRow]
    rw [hrows]
    exact body_r (h' := [.rw (.slice a l.length c) 73 4 (l.map houRow)]) (.cons rfl .nil) rcA ⟨a, c, rfl, rfl⟩
  · have hl0 : l = [] := by
      refine List.length_eq_zero_iff.1 ?_
      rcases Nat.eq_zero_or_pos l.length with e | e
      · exact e
      · have := hb e; cases this
    subst hl0
    repeat (first | refine awp_seq ?_ | refine awp_region_lit rfl ?_ | refine awp_ret ?_ | refine then_n ?_ | refine then_r ?_ | refine awp_cond_t rfl (by first | rfl | assumption | exact dT (by omega)) ?_ | (show AWL _ _ _ (⟨_, .assign _, _, _, _, _⟩ :: _) _ _ _; refine awl_pw (wt_none rfl) (pv_assign rfl rfl) rfl rfl ?_) | refine awl_nil ?_)
    refine bodyQ_ghost (ghost_nilrow 73 4) ?_
    exact body_r (h' := [.rw (.slice none 0 0) 73 4 []]) (.cons rfl .nil) rcA ⟨none, 0, rfl, rfl⟩
theorem smin_p (cp : Bool) (xs : List Int) (hl : xs.length ≤ 1000) (h0 : 0 < xs.length) : PCall Try.prog 98 [.t (intsT cp xs)] (fun r => r = intA (mnL xs (xs.length - 1))) := by
  refine acall_of_awp T0 Try.func98 rfl rfl rfl ?_
  repeat (first | refine awp_seq ?_ | refine awp_block ?_ | refine awp_region_lit rfl ?_ | refine awp_skip ?_ | refine then_n ?_ | refine awp_cond_f rfl (by first | rfl | assumption | exact dF (by omega)) ?_ | (show AWL _ _ _ (⟨_, .move _, _, _, _, _⟩ :: _) _ _ _; refine awl_pw (wt_none rfl) (pv_move rfl rfl) rfl rfl ?_) | (show AWL _ _ _ (⟨_, .assign _, _, _, _, _⟩ :: _) _ _ _; refine awl_pw (wt_none rfl) (pv_assign rfl rfl) rfl rfl ?_) | (show AWL _ _ _ (⟨_, .load _ _, _, _, _, _⟩ :: _) _ _ _; refine awl_lw (wt_none rfl) (lv_elt_sc T0 rfl rfl rfl rfl) rfl rfl rfl ?_) | (show AWL _ _ _ (⟨_, .indexAddr _ _ _, _, _, _, _⟩ :: _) _ _ _; refine awl_pw (wt_none rfl) (pv_ix_t T0 rfl rfl rfl rfl (by omega) ixA) rfl rfl ?_) | (show AWL _ _ _ (⟨_, .binOp .lss _ _ _ _, _, _, _, _⟩ :: _) _ _ _; refine awl_pw (wt_none rfl) (pv_lss rfl rfl rfl) rfl rfl ?_) | (show AWL _ _ _ (⟨_, .call ⟨.builtin .len, _, _⟩, _, _, _, _⟩ :: _) _ _ _; refine awl_pw (wt_none rfl) (pv_len_t T0 rfl rfl rfl) rfl rfl ?_) | refine awl_nil ?_)
  refine awp_loop (fun m s h => ∃ (k : Nat), k + 1 ≤ xs.length ∧ m = xs.length - k ∧ s = [(0, .t (intsT cp xs)), (3, intA (mnL xs k)), (4, intA ((k + 1 : Nat) : Int))] ∧ h = []) ?_ ⟨0, h0, rfl, rfl, rfl⟩ ssA rcA
  rintro m s h ⟨k, hk, rfl, rfl, rfl⟩
  by_cases hlt : k + 1 < xs.length
  · repeat (first | refine awp_seq ?_ | refine awp_block ?_ | refine awp_region_lit rfl ?_ | refine awp_skip ?_ | refine then_n ?_ | refine awp_cond_t rfl (by first | rfl | assumption | exact dT (by omega)) ?_ | (show AWL _ _ _ (⟨_, .move _, _, _, _, _⟩ :: _) _ _ _; refine awl_pw (wt_none rfl) (pv_move rfl rfl) rfl rfl ?_) | (show AWL _ _ _ (⟨_, .assign _, _, _, _, _⟩ :: _) _ _ _; refine awl_pw (wt_none rfl) (pv_assign rfl rfl) rfl rfl ?_) | (show AWL _ _ _ (⟨_, .load _ _, _, _, _, _⟩ :: _) _ _ _; refine awl_lw (wt_none rfl) (lv_elt_sc T0 rfl rfl rfl rfl) rfl rfl rfl ?_) | (show AWL _ _ _ (⟨_, .indexAddr _ _ _, _, _, _, _⟩ :: _) _ _ _; refine awl_pw (wt_none rfl) (pv_ix_t T0 rfl rfl rfl rfl (by omega) ixA) rfl rfl ?_) | (show AWL _ _ _ (⟨_, .binOp .add _ _ _ _, _, _, _, _⟩ :: _) _ _ _; refine awl_pw (wt_none rfl) (pv_add rfl rfl rfl (by first | assumption | exact wr64 (by omega))) rfl rfl ?_) | (show AWL _ _ _ (⟨_, .binOp .lss _ _ _ _, _, _, _, _⟩ :: _) _ _ _; refine awl_pw (wt_none rfl) (pv_lss rfl rfl rfl) rfl rfl ?_) | (show AWL _ _ _ (⟨_, .call ⟨.builtin .len, _, _⟩, _, _, _, _⟩ :: _) _ _ _; refine awl_pw (wt_none rfl) (pv_len_t T0 rfl rfl rfl) rfl rfl ?_) | (show AWL _ _ _ (⟨_, .call ⟨.builtin .min, _, _⟩, _, _, _, _⟩ :: _) _ _ _; refine awl_pw (wt_none rfl) (pv_min2 rfl rfl rfl) rfl rfl ?_) | refine awl_nil ?_)
    refine rnd_n _ _ _ ?_ ⟨k + 1, hlt, rfl, rfl, rfl⟩ ssA rcA
    omega
  have e : xs.length - 1 = k := by omega
  rw [e]
  repeat (first | refine awp_seq ?_ | refine awp_region_lit rfl ?_ | refine awp_exit ?_ | refine awp_ret ?_ | refine then_n ?_ | refine awp_cond_f rfl (by first | rfl | assumption | exact dF (by omega)) ?_ | (show AWL _ _ _ (⟨_, .move _, _, _, _, _⟩ :: _) _ _ _; refine awl_pw (wt_none rfl) (pv_move rfl rfl) rfl rfl ?_) | (show AWL _ _ _ (⟨_, .assign _, _, _, _, _⟩ :: _) _ _ _; refine awl_pw (wt_none rfl) (pv_assign rfl rfl) rfl rfl ?_) | (show AWL _ _ _ (⟨_, .binOp .lss _ _ _ _, _, _, _, _⟩ :: _) _ _ _; refine awl_pw (wt_none rfl) (pv_lss rfl rfl rfl) rfl rfl ?_) | (show AWL _ _ _ (⟨_, .call ⟨.builtin .len, _, _⟩, _, _, _, _⟩ :: _) _ _ _; refine awl_pw (wt_none rfl) (pv_len_t T0 rfl rfl rfl) rfl rfl ?_) | refine awl_nil ?_)
  exact body_p (.cons rfl .nil) rfl
theorem min2_p (cp : Bool) (x y : Int) : PCall Try.prog 80 [.t (intsT cp [x, y])] (fun r => r = intA (min x y)) := by
  refine acall_of_awp T0 Try.func80 rfl rfl rfl ?_
  repeat (first | refine awp_seq ?_ | refine awp_region_lit rfl ?_ | (show AWL _ _ _ (⟨_, .move _, _, _, _, _⟩ :: _) _ _ _; refine awl_pw (wt_none rfl) (pv_move rfl rfl) rfl rfl ?_) | (show AWL _ _ _ (⟨_, .assign _, _, _, _, _⟩ :: _) _ _ _; refine awl_pw (wt_none rfl) (pv_assign rfl rfl) rfl rfl ?_) | refine awl_nil ?_)
  refine awl_hw (wt_none rfl) (st_call T0 (smin_p cp [x, y] (by simp) (by simp)) rfl rfl rfl rfl (by first | exact callee_lit | exact callee_v | exact callee_fn | assumption) rcA raA rfl ?_)
  rintro _ rfl
  repeat (first | refine awp_ret ?_ | (show AWL _ _ _ (⟨_, .assign _, _, _, _, _⟩ :: _) _ _ _; refine awl_pw (wt_none rfl) (pv_assign rfl rfl) rfl rfl ?_) | refine awl_nil ?_)
  exact body_p (.cons rfl .nil) rfl
theorem min2_o (g : Nat) (x y : Int) : ACall Try.prog 80 [.v (.slice (some ⟨g, 0, none⟩) 2 2)] [.rw (.slice (some ⟨g, 0, none⟩) 2 2) 3 1 [[intA x], [intA y]]] (fun r h' => r = intA (min x y) ∧ h' = []) :=
  acall_own (min2_p true x y) rfl (intRows_tree [x, y])
end Go.Proofs.Ytallicfckbdeaaa
end
section
namespace Go.Proofs.Ytallicfckbdeaaa
set_option linter.unusedVariables false
set_option linter.unusedSimpArgs false
abbrev never : Int := 1048576
/-- the minimum over some numbers -/
def foldK (f g : Nat → Int) : Nat → Int
  | 0 => never
  | k + 1 => if f k = never then foldK f g k else min (foldK f g k) (f k + g k)
theorem foldK_le (f g : Nat → Int) : ∀ n, foldK f g n ≤ never
  | 0 => Int.le_refl _
  | k + 1 => by
    have := foldK_le f g k
    simp only [foldK]
    split <;> omega
theorem foldK_min (f g : Nat → Int) : ∀ n k, k < n → f k ≠ never → foldK f g n ≤ f k + g k
  | 0, k, h, _ => absurd h (Nat.not_lt_zero _)
  | n + 1, k, h, hf => by
    simp only [foldK]
    by_cases e : k = n
    · subst e; rw [if_neg hf]; exact Int.min_le_right _ _
    · have := foldK_min f g n k (by omega) hf
      split <;> omega
theorem foldK_at (f g : Nat → Int) : ∀ n, foldK f g n = never ∨ ∃ k, k < n ∧ f k ≠ never ∧ foldK f g n = f k + g k
  | 0 => .inl rfl
  | n + 1 => by
    simp only [foldK]
    have ih := foldK_at f g n
    split
    · rename_i h
      exact ih.imp id (fun ⟨k, h1, h2, h3⟩ => ⟨k, by omega, h2, h3⟩)
    · rename_i h
      by_cases c : foldK f g n ≤ f n + g n
      · rw [Int.min_eq_left c]
        exact ih.imp id (fun ⟨k, h1, h2, h3⟩ => ⟨k, by omega, h2, h3⟩)
      · rw [Int.min_eq_right (by omega)]
        exact .inr ⟨n, by omega, h, rfl⟩
theorem foldK_congr {f f' g g' : Nat → Int} : ∀ {n : Nat}, (∀ k, k < n → f k = f' k ∧ g k = g' k) → foldK f g n = foldK f' g' n
  | 0, _ => rfl
  | n + 1, h => by
    have ih := foldK_congr (n := n) (fun k hk => h k (by omega))
    have := h n (by omega)
    simp only [foldK, ih, this.1, this.2]
/-- the minimum of the lack of some houses, the first of which has a number, with so many shares left; never if there is none -/
def leastL (of : HouD → Int → Int) (ow : Nat → Int) : List HouD → Nat → Int → Int
  | [], _, left => if left = 0 then 0 else never
  | h :: hs, s, left => foldK (fun k => leastL of ow hs (s + 1) (left - (h.lo + k))) (fun k => of h (ow s + (h.lo + k))) (min h.hi left - h.lo + 1).toNat
/-- a list that gives so many shares to some houses -/
def fitP : List HouD → Int → List Int → Prop
  | [], left, [] => left = 0
  | h :: hs, left, x :: t => h.lo ≤ x ∧ x ≤ h.hi ∧ fitP hs (left - x) t
  | _, _, _ => False
def lackS (of : HouD → Int → Int) (ow : Nat → Int) : List HouD → Nat → List Int → Int
  | h :: hs, s, x :: t => of h (ow s + x) + lackS of ow hs (s + 1) t
  | _, _, _ => 0
structure LkOk (of : HouD → Int → Int) (ow : Nat → Int) : Prop where
  ow : ∀ s, -1600 ≤ ow s ∧ ow s ≤ 1600
  of : ∀ h p, -1600 ≤ p → p ≤ 1800 → -2000 ≤ of h p ∧ of h p ≤ 2000
def HsOk (hs : List HouD) : Prop := ∀ h ∈ hs, 0 ≤ h.lo ∧ h.lo ≤ h.hi ∧ h.hi ≤ 200
theorem fit_nn : ∀ {hs : List HouD} {left : Int} {t : List Int}, HsOk hs → fitP hs left t → 0 ≤ left
  | [], left, [], _, h => by simp only [fitP] at h; omega
  | h :: hs, left, x :: t, ho, hf => by
    simp only [fitP] at hf
    have h1 := fit_nn (fun y hy => ho y (List.mem_cons_of_mem _ hy)) hf.2.2
    have h2 := ho h List.mem_cons_self
    omega
  | [], _, _ :: _, _, h => h.elim
  | _ :: _, _, [], _, h => h.elim
theorem lack_bd {of : HouD → Int → Int} {ow : Nat → Int} (hk : LkOk of ow) : ∀ {hs : List HouD} {left : Int} {t : List Int} (s : Nat), HsOk hs → fitP hs left t → -2000 * (hs.length : Int) ≤ lackS of ow hs s t ∧ lackS of ow hs s t ≤ 2000 * (hs.length : Int)
  | [], left, [], _, _, h => by simp [lackS]
  | h :: hs, left, x :: t, s, ho, hf => by
    simp only [fitP] at hf
    have h1 := lack_bd hk (s + 1) (fun y hy => ho y (List.mem_cons_of_mem _ hy)) hf.2.2
    have h2 := ho h List.mem_cons_self
    have h3 := hk.ow s
    have h4 := hk.of h (ow s + x) (by omega) (by omega)
    simp only [lackS, List.length_cons]
    omega
  | [], _, _ :: _, _, _, h => h.elim
  | _ :: _, _, [], _, _, h => h.elim
/-- the minimum is one -/
theorem least_ok {of : HouD → Int → Int} {ow : Nat → Int} (hk : LkOk of ow) : ∀ (hs : List HouD) (s : Nat) (left : Int), HsOk hs → hs.length ≤ 6 →
    (∀ t, fitP hs left t → leastL of ow hs s left ≤ lackS of ow hs s t) ∧ (leastL of ow hs s left = never ∨ ∃ t, fitP hs left t ∧ lackS of ow hs s t = leastL of ow hs s left)
  | [], s, left, _, _ => by
    constructor
    · intro t ht
      cases t with
      | nil => simp only [fitP] at ht; simp [leastL, lackS, ht]
      | cons x t => exact ht.elim
    · by_cases c : left = 0
      · refine .inr ⟨[], c, ?_⟩
        simp [leastL, lackS, c]
      · left
        simp [leastL, c]
  | h :: hs, s, left, ho, hl => by
    have ho' : HsOk hs := fun y hy => ho y (List.mem_cons_of_mem _ hy)
    have hh := ho h List.mem_cons_self
    have hl' : hs.length ≤ 6 := by simp at hl; omega
    have ih := fun l => least_ok hk hs (s + 1) l ho' hl'
    simp only [leastL]
    generalize hf : (fun k : Nat => leastL of ow hs (s + 1) (left - (h.lo + k))) = f
    generalize hg : (fun k : Nat => of h (ow s + (h.lo + k))) = g
    have ef : ∀ k, f k = leastL of ow hs (s + 1) (left - (h.lo + k)) := fun k => by rw [← hf]
    have eg : ∀ k, g k = of h (ow s + (h.lo + k)) := fun k => by rw [← hg]
    constructor
    · intro t ht
      cases t with
      | nil => exact ht.elim
      | cons x t =>
        simp only [fitP] at ht
        have hnn := fit_nn ho' ht.2.2
        obtain ⟨k, hk1⟩ : ∃ k : Nat, x = h.lo + k := ⟨(x - h.lo).toNat, by omega⟩
        have h1 := (ih (left - (h.lo + k))).1 t (by rw [← hk1]; exact ht.2.2)
        have h2 := lack_bd hk (s + 1) ho' ht.2.2
        have hne : f k ≠ never := by rw [ef]; show _ ≠ (1048576 : Int); omega
        have h3 := foldK_min f g (min h.hi left - h.lo + 1).toNat k (by omega) hne
        rw [ef, eg] at h3
        simp only [lackS]
        rw [hk1]
        omega
    · rcases foldK_at f g (min h.hi left - h.lo + 1).toNat with h1 | ⟨k, h1, h2, h3⟩
      · exact .inl h1
      · right
        rcases (ih (left - (h.lo + k))).2 with h4 | ⟨t, h4, h5⟩
        · exact absurd ((ef k).trans h4) h2
        · refine ⟨(h.lo + k) :: t, ⟨by omega, by omega, h4⟩, ?_⟩
          rw [h3, ef, eg]
          simp only [lackS]
          omega
theorem least_bd {of : HouD → Int → Int} {ow : Nat → Int} (hk : LkOk of ow) (hs : List HouD) (s : Nat) (left : Int) (ho : HsOk hs) (hl : hs.length ≤ 6) : leastL of ow hs s left = never ∨ (-12000 ≤ leastL of ow hs s left ∧ leastL of ow hs s left ≤ 12000) := by
  rcases (least_ok hk hs s left ho hl).2 with h | ⟨t, h1, h2⟩
  · exact .inl h
  · have := lack_bd hk s ho h1
    right
    omega
theorem least_never {of : HouD → Int → Int} {ow : Nat → Int} (hk : LkOk of ow) (hs : List HouD) (s : Nat) (left : Int) (ho : HsOk hs) (hl : hs.length ≤ 6) : leastL of ow hs s left = never ↔ ∀ t, ¬ fitP hs left t := by
  have h := least_ok hk hs s left ho hl
  constructor
  · intro e t ht
    have h1 := h.1 t ht
    have h2 := lack_bd hk s ho ht
    rw [e] at h1
    have : (1048576 : Int) ≤ lackS of ow hs s t := h1
    omega
  · intro hn
    rcases h.2 with h | ⟨t, h1, _⟩
    · exact h
    · exact absurd h1 (hn t)
/-- truths are the lists that give all shares to all houses -/
theorem fit_iff : ∀ {hs : List HouD} {left : Int} {t : List Int}, fitP hs left t ↔ t.length = hs.length ∧ (∀ k, k < hs.length → (hs.getD k default).lo ≤ t.getD k 0 ∧ t.getD k 0 ≤ (hs.getD k default).hi) ∧ t.sum = left
  | [], left, [] => by simp [fitP, eq_comm]
  | [], left, _ :: _ => by simp [fitP]
  | h :: hs, left, [] => by simp [fitP]
  | h :: hs, left, x :: t => by
    simp only [fitP]
    rw [fit_iff]
    constructor
    · rintro ⟨h1, h2, h3, h4, h5⟩
      refine ⟨by simp [h3], fun k hk => ?_, by simp; omega⟩
      cases k with
      | zero => exact ⟨by simpa using h1, by simpa using h2⟩
      | succ k => simpa using h4 k (by simpa using hk)
    · rintro ⟨h1, h2, h3⟩
      have h0 := h2 0 (by simp)
      refine ⟨by simpa using h0.1, by simpa using h0.2, by simpa using h1, fun k hk => ?_, by simp at h3; omega⟩
      simpa using h2 (k + 1) (by simpa using hk)
theorem sum_left (m : MktD) : ∀ (k : Nat) (t : List Int), k ≤ t.length → leftN m t k = m.ex - (t.take k).sum
  | 0, t, _ => by simp [leftN]
  | k + 1, t, h => by
    rw [leftN, sum_left m k t (by omega), List.take_add_one]
    have : t[k]?.toList = [t.getD k 0] := by
      rw [List.getElem?_eq_getElem (by omega)]
      simp [List.getD_eq_getElem?_getD, List.getElem?_eq_getElem (show k < t.length by omega)]
    rw [this, List.sum_append]
    simp
    omega
theorem truth_fit {m : MktD} {t : List Int} : truthB m t = true ↔ fitP m.hou m.ex t := by
  rw [truth_iff, fit_iff]
  constructor
  · rintro ⟨h1, h2, h3⟩
    rw [sum_left m _ t (by omega), ← h1, List.take_length] at h3
    exact ⟨h1, fun k hk => inB_iff.1 (h2 k hk), by omega⟩
  · rintro ⟨h1, h2, h3⟩
    refine ⟨h1, fun k hk => inB_iff.2 (h2 k hk), ?_⟩
    rw [sum_left m _ t (by omega), ← h1, List.take_length]
    omega
def shortF (h : HouD) (p : Int) : Int := needN p - spareN h p
def surF (h : HouD) (p : Int) : Int := spareN h p - needN p
theorem hs_ok {m : MktD} (hv : VMkt m) : HsOk m.hou := fun h hh => by
  obtain ⟨k, hk, rfl⟩ := List.mem_iff_getElem.1 hh
  have := hv.held k hk
  rw [List.getD_eq_getElem?_getD, List.getElem?_eq_getElem hk] at this
  exact this
theorem short_ok {m : MktD} (hv : VMkt m) : LkOk shortF (owedN m) := ⟨fun s => owed_bd hv s, fun h p h1 h2 => by unfold shortF needN spareN; split <;> omega⟩
theorem sur_ok {m : MktD} (hv : VMkt m) : LkOk surF (owedN m) := ⟨fun s => owed_bd hv s, fun h p h1 h2 => by unfold surF needN spareN; split <;> omega⟩
theorem lack_neg (ow : Nat → Int) : ∀ (hs : List HouD) (s : Nat) (t : List Int), lackS surF ow hs s t = - lackS shortF ow hs s t
  | [], _, t => by cases t <;> simp [lackS]
  | _ :: _, _, [] => by simp [lackS]
  | h :: hs, s, x :: t => by
    simp only [lackS]
    rw [lack_neg ow hs (s + 1) t]
    unfold surF shortF
    omega
/-- the shortage of a truth; the bounds of the shortage -/
abbrev shortT (m : MktD) (t : List Int) : Int := lackS shortF (owedN m) m.hou 0 t
abbrev lowN (m : MktD) : Int := leastL shortF (owedN m) m.hou 0 m.ex
abbrev highN (m : MktD) : Int := - leastL surF (owedN m) m.hou 0 m.ex
theorem low_le {m : MktD} (hv : VMkt m) {t : List Int} (h : truthB m t = true) : lowN m ≤ shortT m t := (least_ok (short_ok hv) m.hou 0 m.ex (hs_ok hv) hv.len).1 t (truth_fit.1 h)
theorem le_high {m : MktD} (hv : VMkt m) {t : List Int} (h : truthB m t = true) : shortT m t ≤ highN m := by
  have := (least_ok (sur_ok hv) m.hou 0 m.ex (hs_ok hv) hv.len).1 t (truth_fit.1 h)
  rw [lack_neg] at this
  show lackS shortF (owedN m) m.hou 0 t ≤ - leastL surF (owedN m) m.hou 0 m.ex
  omega
theorem low_never {m : MktD} (hv : VMkt m) : lowN m = never ↔ ∀ t, truthB m t = false := by
  rw [show lowN m = leastL shortF (owedN m) m.hou 0 m.ex from rfl, least_never (short_ok hv) m.hou 0 m.ex (hs_ok hv) hv.len]
  constructor
  · intro h t
    cases c : truthB m t
    · rfl
    · exact absurd (truth_fit.1 c) (h t)
  · intro h t ht
    have := h t
    rw [truth_fit.2 ht] at this
    cases this
theorem low_at {m : MktD} (hv : VMkt m) (h : lowN m ≠ never) : ∃ t, truthB m t = true ∧ shortT m t = lowN m := by
  rcases (least_ok (short_ok hv) m.hou 0 m.ex (hs_ok hv) hv.len).2 with h1 | ⟨t, h1, h2⟩
  · exact absurd h1 h
  · exact ⟨t, truth_fit.2 h1, h2⟩
theorem high_at {m : MktD} (hv : VMkt m) (h : lowN m ≠ never) : ∃ t, truthB m t = true ∧ shortT m t = highN m := by
  obtain ⟨t0, h0, _⟩ := low_at hv h
  rcases (least_ok (sur_ok hv) m.hou 0 m.ex (hs_ok hv) hv.len).2 with h1 | ⟨t, h1, h2⟩
  · have := (least_never (sur_ok hv) m.hou 0 m.ex (hs_ok hv) hv.len).1 h1 t0 (truth_fit.1 h0)
    exact this.elim
  · refine ⟨t, truth_fit.2 h1, ?_⟩
    rw [lack_neg] at h2
    show lackS shortF (owedN m) m.hou 0 t = - leastL surF (owedN m) m.hou 0 m.ex
    omega
end Go.Proofs.Ytallicfckbdeaaa
end
