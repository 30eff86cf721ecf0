/- bring's walk, and bring: their walks. -/
import Derived.Test.YtlpknbneilgjkaaZnRDe0
import Derived.Test.YtlpknbneilgjkaaZnGTs
import Derived.Test.YtlpknbneilgjkaaZnRFr
namespace Go.Proofs.Ytlpknbneilgjkaa.R
open Go Go.RowKit Go.Tl
set_option linter.unusedVariables false
set_option linter.unusedSimpArgs false
set_option maxRecDepth 100000
set_option maxHeartbeats 4000000
attribute [local irreducible] AWP AWL AOp PV LV AWT AWE
theorem bwalk1_p (g3 g5 g7 g8 gs gn gw gm : Nat) (b : BookD) (cp : Bool) (cap : Nat → Int) (hv : VBook b) (H : Nat) (hH : b.houses = H) (hcap : ∀ i, i < b.cons.length → cap i ≤ 100) : ∀ (N : Nat) (at' : Nat) (most : Int) (Z : Nat → Bool) (nd f : Nat → Int),
    posN (unF Z) H ≤ N → at' < H → Z at' = false → 1 ≤ most → most ≤ 100000 → (∀ v, v < H → -100000 ≤ nd v ∧ nd v ≤ 100000) → (∀ i, i < b.cons.length → 0 ≤ f i ∧ f i ≤ cap i) →
    ACall Try.prog 154 [intA at', intA most, .v (ptrV g7), .v (ptrV g5), .v (ptrV g3), .v (ptrV g8)] (brE g3 g5 g7 g8 gs gn gw gm b cp H Z nd (fL cap f)) (fun r h' => ∃ n Z' nd' f', BrPost b cap at' most Z nd f n Z' nd' f' ∧ r = intA n ∧ h' = brE g3 g5 g7 g8 gs gn gw gm b cp H Z' nd' (fL cap f')) := by
  have hh := hv.houses
  have hlen := hv.len
  have hHt : b.houses.toNat = H := by omega
  intro N
  induction N with
  | zero =>
    intro at' most Z nd f hN hat hZ
    have h1 := pos_lt (f := unF Z) (g := fun _ => 0) (j := at') (by unfold unF; rw [hZ]; decide) (Int.le_refl _) H hat (fun i _ => by unfold unF; split <;> omega)
    omega
  | succ N ih =>
  intro at' most Z nd f hN hat hZ hm hm2 hnd hbd
  have hnda := hnd at' hat
  refine acall_of_awp T0 Try.func154 rfl rfl rfl ?_
  repeat (first | refine awp_seq ?_ | refine awp_region_lit rfl ?_)
  refine awl_hw (by first | exact wt_none rfl | exact wt_some' rfl rfl rfl rfl (by first | rfl | assumption | exact dT (by omega) | exact dF (by omega))) (st_box rfl rfl (by first | rfl | assumption) (by first | assumption | (simp only [cellsA]; rfl)) rfl rfl ?_)
  intro ga
  skip
  refine awl_hw (by first | exact wt_none rfl | exact wt_some' rfl rfl rfl rfl (by first | rfl | assumption | exact dT (by omega) | exact dF (by omega))) (st_box rfl rfl (by first | rfl | assumption) (by first | assumption | (simp only [cellsA]; rfl)) rfl rfl ?_)
  intro gmo
  skip
  refine awl_hw (by first | exact wt_none rfl | exact wt_some' rfl rfl rfl rfl (by first | rfl | assumption | exact dT (by omega) | exact dF (by omega))) (st_alloc T0 rfl rfl rfl rfl (by simp only [Value.cells, List.toList_toArray, List.map_cons, List.map_nil]; rfl) ?_)
  intro gr
  have r1 := bRows_len Z H
  have r2 := fRows_len nd H
  have r3 : ((fRows nd H).getD at' [])[0]? = some (intA (nd at')) := fRows_at hat
  have hset := bRows_set (Z := Z) (Z' := fun v => if v = at' then true else Z v) (x := true) hat (fun q _ => rfl)
  repeat (first | refine awp_seq ?_ | refine awp_region_lit rfl ?_ | ((first | (show AWL _ _ _ (⟨_, .load _ _, _, _, _, _⟩ :: _) _ _ _; refine awl_lw ?wtq (lv_cl1 T0 rfl rfl rfl (by solve | repeat' constructor) (by first | rfl | assumption)) rfl rfl rfl ?_) | (show AWL _ _ _ (⟨_, .indexAddr _ _ _, _, _, _, _⟩ :: _) _ _ _; refine awl_pw ?wtq (pv_ix_own T0 rfl rfl rfl rfl (by omega) (by first | exact (rfl : Int.toNat 0 = 0) | exact Int.toNat_natCast _ | rfl)) rfl rfl ?_)); case wtq => first | exact wt_none rfl | exact wt_some' rfl rfl rfl rfl (by first | rfl | assumption | exact dT (by omega) | exact dF (by omega))) | refine awl_nil ?_)
  refine awl_hw (by first | exact wt_none rfl | exact wt_some' rfl rfl rfl rfl (by first | rfl | assumption | exact dT (by omega) | exact dF (by omega))) (aop_store_rp T0 rfl rfl rfl rfl rfl rfl rfl rfl (by solve | repeat' constructor) (by first | omega | (simp; omega)) (by omega) rfl trivial ?_)
  simp only [cellsA]
  rw [hset]
  clear hset
  by_cases hp : 0 < nd at'
  · have d1 := decide_eq_true hp
    repeat (first | refine awp_seq ?_ | refine awp_region_lit rfl ?_ | with_reducible refine then_n ?_ | refine awp_cond_t rfl (by first | rfl | assumption | exact dT (by omega)) ?_ | ((first | (show AWL _ _ _ (⟨_, .load _ _, _, _, _, _⟩ :: _) _ _ _; refine awl_lw ?wtq (lv_cl1 T0 rfl rfl rfl (by solve | repeat' constructor) (by first | rfl | assumption)) rfl rfl rfl ?_) | (show AWL _ _ _ (⟨_, .load _ _, _, _, _, _⟩ :: _) _ _ _; refine awl_lw ?wtq (lv_rp T0 rfl rfl rfl (by solve | repeat' constructor) (by first | omega | (simp; omega)) (by omega) (by first | assumption | rfl)) rfl rfl rfl ?_) | (show AWL _ _ _ (⟨_, .indexAddr _ _ _, _, _, _, _⟩ :: _) _ _ _; refine awl_pw ?wtq (pv_ix_own T0 rfl rfl rfl rfl (by omega) (by first | exact (rfl : Int.toNat 0 = 0) | exact Int.toNat_natCast _ | rfl)) rfl rfl ?_) | (show AWL _ _ _ (⟨_, .binOp .gtr _ _ _ _, _, _, _, _⟩ :: _) _ _ _; refine awl_pw ?wtq (pv_gtr rfl rfl rfl) rfl rfl ?_)); case wtq => first | exact wt_none rfl | exact wt_some' rfl rfl rfl rfl (by first | rfl | assumption | exact dT (by omega) | exact dF (by omega))) | refine awl_nil ?_)
    refine awp_cut _ (awp_weak (by first | ((repeat' (first | exact True.intro | refine ⟨rfl, ?_⟩)); all_goals fail) | fail) (by solve | repeat' constructor) (de_3 (g5 := g5) (ga := ga) (gmo := gmo) (gr := gr) (gn := gn) (at' := at') (H := H) (nd := nd) (most := most) (rest := [.cl g7 88 [.v (.slice (some ⟨gs, 0, none⟩) H H)], .rw (.slice (some ⟨gs, 0, none⟩) H H) 4 1 (bRows (fun v => if v = at' then true else Z v) H), .cl g3 167 [.v (ptrV gw)], workE gw gm b cp, leftM gm (fL cap f), .cl g8 280 [.v (.func (.func 154) #[] #[ptrV g7, ptrV g5, ptrV g3, ptrV g8])], .cl gr 3 [intA 0]]) hat (by omega) rfl)) ?_
    rintro s h ⟨rfl, rfl⟩
    have hset := fRows_set (f := nd) (g := fun q => if q = at' then nd at' - min most (nd at') else nd q) (m := H) (j := at') (v := nd at' - min most (nd at')) hat (fun q _ => rfl)
    repeat (first | refine awp_seq ?_ | refine awp_region_lit rfl ?_ | ((first | (show AWL _ _ _ (⟨_, .move _, _, _, _, _⟩ :: _) _ _ _; refine awl_pw ?wtq (pv_move rfl rfl) rfl rfl ?_) | (show AWL _ _ _ (⟨_, .load _ _, _, _, _, _⟩ :: _) _ _ _; refine awl_lw ?wtq (lv_cl1 T0 rfl rfl rfl (by solve | repeat' constructor) (by first | rfl | assumption)) rfl rfl rfl ?_) | (show AWL _ _ _ (⟨_, .load _ _, _, _, _, _⟩ :: _) _ _ _; refine awl_lw ?wtq (lv_rp T0 rfl rfl rfl (by solve | repeat' constructor) (by first | omega | (simp; omega)) (by omega) (by first | assumption | rfl)) rfl rfl rfl ?_) | (show AWL _ _ _ (⟨_, .indexAddr _ _ _, _, _, _, _⟩ :: _) _ _ _; refine awl_pw ?wtq (pv_ix_own T0 rfl rfl rfl rfl (by omega) (by first | exact (rfl : Int.toNat 0 = 0) | exact Int.toNat_natCast _ | rfl)) rfl rfl ?_) | (show AWL _ _ _ (⟨_, .binOp .sub _ _ _ _, _, _, _, _⟩ :: _) _ _ _; refine awl_pw ?wtq (pv_sub rfl rfl rfl (by first | assumption | exact wr64 (by omega))) rfl rfl ?_)); case wtq => first | exact wt_none rfl | exact wt_some' rfl rfl rfl rfl (by first | rfl | assumption | exact dT (by omega) | exact dF (by omega))))
    refine awl_hw (by first | exact wt_none rfl | exact wt_some' rfl rfl rfl rfl (by first | rfl | assumption | exact dT (by omega) | exact dF (by omega))) (aop_store_rp T0 rfl rfl rfl rfl rfl rfl rfl rfl (by solve | repeat' constructor) (by first | omega | (simp; omega)) (by omega) rfl trivial ?_)
    simp only [cellsA]
    rw [hset]
    repeat (first | refine awp_seq ?_ | refine awp_region_lit rfl ?_ | refine awp_ret ?_ | with_reducible refine then_r ?_ | ((first | (show AWL _ _ _ (⟨_, .move _, _, _, _, _⟩ :: _) _ _ _; refine awl_pw ?wtq (pv_move rfl rfl) rfl rfl ?_)); case wtq => first | exact wt_none rfl | exact wt_some' rfl rfl rfl rfl (by first | rfl | assumption | exact dT (by omega) | exact dF (by omega))) | (show AWL _ _ _ (⟨_, .store _ _ _, _, _, _, _⟩ :: _) _ _ _; refine awl_hw (by first | exact wt_none rfl | exact wt_some' rfl rfl rfl rfl (by first | rfl | assumption | exact dT (by omega) | exact dF (by omega))) (st_store T0 rfl rfl rfl rfl rfl (by first | assumption | (simp only [cellsA]; rfl)) rfl rfl rfl (by solve | repeat' constructor) (by solve | repeat' constructor) trivial ?_)) | refine awl_nil ?_)
    exact body_r (h' := brE g3 g5 g7 g8 gs gn gw gm b cp H (fun v => if v = at' then true else Z v) (fun q => if q = at' then nd at' - min most (nd at') else nd q) (fL cap f)) (.cons ⟨gr, _, _, _, _, rfl, rfl, (by solve | repeat' constructor), Nat.le_refl _, .inr rfl, rfl⟩ .nil) (by solve | repeat' constructor) ⟨_, _, _, f, post_here hbd hm hp rfl, rfl, rfl⟩
  have d1 := decide_eq_false hp
  have hmid := mid_nil (b := b) (cap := cap) (at' := at') (Z := Z) (nd := nd) (f := f)
  generalize (fun v => if v = at' then true else Z v) = Z1 at *
  repeat (first | refine awp_seq ?_ | refine awp_region_lit rfl ?_ | refine awp_skip ?_ | with_reducible refine then_n ?_ | refine awp_cond_f rfl (by first | rfl | assumption | exact dF (by omega)) ?_ | ((first | (show AWL _ _ _ (⟨_, .load _ _, _, _, _, _⟩ :: _) _ _ _; refine awl_lw ?wtq (lv_cl1 T0 rfl rfl rfl (by solve | repeat' constructor) (by first | rfl | assumption)) rfl rfl rfl ?_) | (show AWL _ _ _ (⟨_, .load _ _, _, _, _, _⟩ :: _) _ _ _; refine awl_lw ?wtq (lv_rp T0 rfl rfl rfl (by solve | repeat' constructor) (by first | omega | (simp; omega)) (by omega) (by first | assumption | rfl)) rfl rfl rfl ?_) | (show AWL _ _ _ (⟨_, .indexAddr _ _ _, _, _, _, _⟩ :: _) _ _ _; refine awl_pw ?wtq (pv_ix_own T0 rfl rfl rfl rfl (by omega) (by first | exact (rfl : Int.toNat 0 = 0) | exact Int.toNat_natCast _ | rfl)) rfl rfl ?_) | (show AWL _ _ _ (⟨_, .binOp .gtr _ _ _ _, _, _, _, _⟩ :: _) _ _ _; refine awl_pw ?wtq (pv_gtr rfl rfl rfl) rfl rfl ?_)); case wtq => first | exact wt_none rfl | exact wt_some' rfl rfl rfl rfl (by first | rfl | assumption | exact dT (by omega) | exact dF (by omega))) | refine awl_nil ?_)
  refine awl_hw (by first | exact wt_none rfl | exact wt_some' rfl rfl rfl rfl (by first | rfl | assumption | exact dT (by omega) | exact dF (by omega))) (st_acall T0 (arcs_p gw) rfl rfl rfl rfl (by first | exact callee_lit | exact callee_v | exact callee_fn | assumption) (by solve | repeat' constructor) (by first | rfl | assumption) rfl (by first | ((repeat' (first | exact SubH.refl _ | apply SubH.cons | exact Pick.here | apply Pick.there)); all_goals fail) | fail) (fun _ _ => trivial) ?_)
  rintro r h ⟨gb, rfl, rfl⟩
  simp only [List.cons_append, List.nil_append]
  repeat (first | refine awp_block ?_ | refine awl_nil ?_)
  have hZr : ∀ Z', ((bRows Z' H).length = H) := fun Z' => bRows_len Z' H
  refine awp_rangeFuncS T0 (Pre := PreA b (fL cap f)) (Full := FullA b (fL cap f)) (hf := [.cl g7 88 [.v (.slice (some ⟨gs, 0, none⟩) H H)], .rw (.slice (some ⟨gs, 0, none⟩) H H) 4 1 (bRows Z1 H), .cl g5 29 [.v (.slice (some ⟨gn, 0, none⟩) H H)], .rw (.slice (some ⟨gn, 0, none⟩) H H) 3 1 (fRows nd H), .cl g3 167 [.v (ptrV gw)], .cl g8 280 [.v (.func (.func 154) #[] #[ptrV g7, ptrV g5, ptrV g3, ptrV g8])], .cl ga 3 [intA at'], .cl gmo 3 [intA most], .cl gr 3 [intA 0]])
    (fun pre h => ∃ l Z', pre = l.map (arcRow b) ∧ BrMid b cap at' Z nd f l Z' ∧ h = [.cl g7 88 [.v (.slice (some ⟨gs, 0, none⟩) H H)], .rw (.slice (some ⟨gs, 0, none⟩) H H) 4 1 (bRows Z' H), .cl g5 29 [.v (.slice (some ⟨gn, 0, none⟩) H H)], .rw (.slice (some ⟨gn, 0, none⟩) H H) 3 1 (fRows nd H), .cl g3 167 [.v (ptrV gw)], .cl g8 280 [.v (.func (.func 154) #[] #[ptrV g7, ptrV g5, ptrV g3, ptrV g8])], .cl ga 3 [intA at'], .cl gmo 3 [intA most], .cl gr 3 [intA 0]])
    (fun _ e h => e = .ret ∧ ∃ n Z' nd' f', BrPost b cap at' most Z nd f n Z' nd' f' ∧ h = .cl gr 3 [intA n] :: brE g3 g5 g7 g8 gs gn gw gm b cp H Z' nd' (fL cap f')) rfl (callee_v (a := []) (b := [ptrV gb])) rfl (arcs1_p gb gw gm b cp (fL cap f) hv) (by solve | repeat' constructor) ⟨[], Z1, rfl, hmid, rfl⟩ ?_ rfl ?_ ?_ ?_ (fun _ _ _ _ h => nomatch h.1)
  · intro pre y hp
    obtain ⟨a, -, rfl⟩ := pre_arc hp
    rfl
  · rintro l pre y h' hp ⟨l1, Z', rfl, hM, rfl⟩
    obtain ⟨a, ha, rfl⟩ := pre_arc hp
    have he := arc_ends hv ha
    obtain ⟨hai, haF⟩ := mem_arcs.1 ha
    have hFb := fL_bd2 (b := b) hcap hbd hai
    have hFb2 := fL_bd2 (b := b) (a := (a.1, !a.2)) hcap hbd hai
    have htH : aT b a < H := by omega
    have hfH : aF b a < H := by omega
    have r1 : ((bRows Z' H).getD (aT b a) [])[0]? = some (boolA (Z' (aT b a))) := bRows_at htH
    have r2 := hZr Z'
    have hend : ∀ Z'', BrMid b cap at' Z nd f (l1 ++ [a]) Z'' → ∃ h', ([.cl gb 167 [.v (ptrV gw)], workE gw gm b cp, leftM gm (fL cap f), .cl g7 88 [.v (.slice (some ⟨gs, 0, none⟩) H H)], .rw (.slice (some ⟨gs, 0, none⟩) H H) 4 1 (bRows Z'' H), .cl g5 29 [.v (.slice (some ⟨gn, 0, none⟩) H H)], .rw (.slice (some ⟨gn, 0, none⟩) H H) 3 1 (fRows nd H), .cl g3 167 [.v (ptrV gw)], .cl g8 280 [.v (.func (.func 154) #[] #[ptrV g7, ptrV g5, ptrV g3, ptrV g8])], .cl ga 3 [intA at'], .cl gmo 3 [intA most], .cl gr 3 [intA 0]] : List Ent) = hcA gb gw gm b cp (fL cap f) ++ h' ∧ ∃ l Z', l1.map (arcRow b) ++ [arcRow b a] = l.map (arcRow b) ∧ BrMid b cap at' Z nd f l Z' ∧ h' = [.cl g7 88 [.v (.slice (some ⟨gs, 0, none⟩) H H)], .rw (.slice (some ⟨gs, 0, none⟩) H H) 4 1 (bRows Z' H), .cl g5 29 [.v (.slice (some ⟨gn, 0, none⟩) H H)], .rw (.slice (some ⟨gn, 0, none⟩) H H) 3 1 (fRows nd H), .cl g3 167 [.v (ptrV gw)], .cl g8 280 [.v (.func (.func 154) #[] #[ptrV g7, ptrV g5, ptrV g3, ptrV g8])], .cl ga 3 [intA at'], .cl gmo 3 [intA most], .cl gr 3 [intA 0]] := fun Z'' hM' => ⟨_, rfl, l1 ++ [a], Z'', by rw [List.map_append]; rfl, hM', rfl⟩
    simp only [List.cons_append, List.nil_append]
    repeat (first | refine awp_seq ?_ | refine awp_region_lit rfl ?_)
    refine awl_hw (by first | exact wt_none rfl | exact wt_some' rfl rfl rfl rfl (by first | rfl | assumption | exact dT (by omega) | exact dF (by omega))) (st_alloc T0 rfl rfl rfl rfl (by simp only [Value.cells, List.toList_toArray, List.map_cons, List.map_nil]; rfl) ?_)
    intro g10
    repeat (first | refine awp_region_lit rfl ?_ | (show AWL _ _ _ (⟨_, .store _ _ _, _, _, _, _⟩ :: _) _ _ _; refine awl_hw (by first | exact wt_none rfl | exact wt_some' rfl rfl rfl rfl (by first | rfl | assumption | exact dT (by omega) | exact dF (by omega))) (st_store T0 rfl rfl rfl rfl rfl (by first | assumption | (simp only [cellsA]; rfl)) rfl rfl rfl (by solve | repeat' constructor) (by solve | repeat' constructor) trivial ?_)) | refine awl_nil ?_)
    refine awl_hw (by first | exact wt_none rfl | exact wt_some' rfl rfl rfl rfl (by first | rfl | assumption | exact dT (by omega) | exact dF (by omega))) (st_alloc T0 rfl rfl rfl rfl (by simp only [Value.cells, List.toList_toArray, List.map_cons, List.map_nil]; rfl) ?_)
    intro g11
    repeat (first | (show AWL _ _ _ (⟨_, .store _ _ _, _, _, _, _⟩ :: _) _ _ _; refine awl_hw (by first | exact wt_none rfl | exact wt_some' rfl rfl rfl rfl (by first | rfl | assumption | exact dT (by omega) | exact dF (by omega))) (st_store T0 rfl rfl rfl rfl rfl (by first | assumption | (simp only [cellsA]; rfl)) rfl rfl rfl (by solve | repeat' constructor) (by solve | repeat' constructor) trivial ?_)) | refine awl_nil ?_)
    refine ⟨rfl, ?_⟩
    by_cases c1 : aF b a = at'
    case neg =>
      have d2 : decide ((aF b a : Int) ≠ at') = true := decide_eq_true (by omega)
      repeat (first | refine awp_seq ?_ | refine awp_block ?_ | refine awp_region_lit rfl ?_ | refine awp_exit ?_ | with_reducible refine then_n ?_ | with_reducible refine then_x ?_ | with_reducible refine blk_x ?_ | refine awp_cond_t rfl (by first | rfl | assumption | exact dT (by omega)) ?_ | ((first | (show AWL _ _ _ (⟨_, .move _, _, _, _, _⟩ :: _) _ _ _; refine awl_pw ?wtq (pv_move rfl rfl) rfl rfl ?_) | (show AWL _ _ _ (⟨_, .load _ _, _, _, _, _⟩ :: _) _ _ _; refine awl_lw ?wtq (lv_cl1 T0 rfl rfl rfl (by solve | repeat' constructor) (by first | rfl | assumption)) rfl rfl rfl ?_) | (show AWL _ _ _ (⟨_, .indexAddr _ _ _, _, _, _, _⟩ :: _) _ _ _; refine awl_pw ?wtq (pv_ix_arr T0 rfl rfl rfl rfl (by omega) (by simp; rfl)) rfl rfl ?_) | (show AWL _ _ _ (⟨_, .binOp .neq _ _ _ _, _, _, _, _⟩ :: _) _ _ _; refine awl_pw ?wtq (pv_neq rfl rfl rfl) rfl rfl ?_) | (show AWL _ _ _ (⟨_, .pick _ _ _, _, _, _, _⟩ :: _) _ _ _; refine awl_pw ?wtq (pv_pick_t rfl rfl (by first | rfl | assumption | exact dT (by omega) | exact dF (by omega)) rfl) rfl rfl ?_)); case wtq => first | exact wt_none rfl | exact wt_some' rfl rfl rfl rfl (by first | rfl | assumption | exact dT (by omega) | exact dF (by omega))) | refine awl_sk (wf_some rfl rfl rfl rfl (by first | rfl | assumption | exact dT (by omega) | exact dF (by omega))) rfl rfl ?_ | refine awl_nil ?_)
      exact ⟨_, (by solve | repeat' constructor), hend Z' (mid_skip hM fun e => absurd e c1)⟩
    have d2 : decide ((aF b a : Int) ≠ at') = false := decide_eq_false (by omega)
    cases c2 : Z' (aT b a)
    case true =>
      rw [c2] at r1
      repeat (first | refine awp_seq ?_ | refine awp_block ?_ | refine awp_region_lit rfl ?_ | refine awp_exit ?_ | with_reducible refine then_n ?_ | with_reducible refine then_x ?_ | with_reducible refine blk_x ?_ | refine awp_cond_t rfl (by first | rfl | assumption | exact dT (by omega)) ?_ | ((first | (show AWL _ _ _ (⟨_, .move _, _, _, _, _⟩ :: _) _ _ _; refine awl_pw ?wtq (pv_move rfl rfl) rfl rfl ?_) | (show AWL _ _ _ (⟨_, .load _ _, _, _, _, _⟩ :: _) _ _ _; refine awl_lw ?wtq (lv_cl1 T0 rfl rfl rfl (by solve | repeat' constructor) (by first | rfl | assumption)) rfl rfl rfl ?_) | (show AWL _ _ _ (⟨_, .load _ _, _, _, _, _⟩ :: _) _ _ _; refine awl_lw ?wtq (lv_rp T0 rfl rfl rfl (by solve | repeat' constructor) (by first | omega | (simp; omega)) (by omega) (by first | assumption | rfl)) rfl rfl rfl ?_) | (show AWL _ _ _ (⟨_, .indexAddr _ _ _, _, _, _, _⟩ :: _) _ _ _; refine awl_pw ?wtq (pv_ix_own T0 rfl rfl rfl rfl (by omega) (by first | exact (rfl : Int.toNat 0 = 0) | exact Int.toNat_natCast _ | rfl)) rfl rfl ?_) | (show AWL _ _ _ (⟨_, .indexAddr _ _ _, _, _, _, _⟩ :: _) _ _ _; refine awl_pw ?wtq (pv_ix_arr T0 rfl rfl rfl rfl (by omega) (by simp; rfl)) rfl rfl ?_) | (show AWL _ _ _ (⟨_, .binOp .neq _ _ _ _, _, _, _, _⟩ :: _) _ _ _; refine awl_pw ?wtq (pv_neq rfl rfl rfl) rfl rfl ?_) | (show AWL _ _ _ (⟨_, .pick _ _ _, _, _, _, _⟩ :: _) _ _ _; refine awl_pw ?wtq (pv_pick_f rfl rfl (by first | rfl | assumption | exact dT (by omega) | exact dF (by omega)) rfl) rfl rfl ?_)); case wtq => first | exact wt_none rfl | exact wt_some' rfl rfl rfl rfl (by first | rfl | assumption | exact dT (by omega) | exact dF (by omega))) | refine awl_nil ?_)
      exact ⟨_, (by solve | repeat' constructor), hend Z' (mid_skip hM fun _ => c2)⟩
    rw [c2] at r1
    have hC := ih (aT b a) (min most (fL cap f a)) Z' nd f (by
      have h1 := pos_lt (f := unF Z) (g := unF Z') (j := at') (by unfold unF; rw [hZ]; decide) (by unfold unF; rw [hM.hat]; decide) H hat (fun i _ => by
        unfold unF
        cases e : Z i
        · split <;> simp
        · rw [hM.sub i e]; simp)
      omega) htH c2 (by omega) (by omega) hnd hbd
    repeat (first | refine awp_seq ?_ | refine awp_block ?_ | refine awp_region_lit rfl ?_ | refine awp_skip ?_ | with_reducible refine then_n ?_ | refine awp_cond_f rfl (by first | rfl | assumption | exact dF (by omega)) ?_ | ((first | (show AWL _ _ _ (⟨_, .move _, _, _, _, _⟩ :: _) _ _ _; refine awl_pw ?wtq (pv_move rfl rfl) rfl rfl ?_) | (show AWL _ _ _ (⟨_, .load _ _, _, _, _, _⟩ :: _) _ _ _; refine awl_lw ?wtq (lv_cl1 T0 rfl rfl rfl (by solve | repeat' constructor) (by first | rfl | assumption)) rfl rfl rfl ?_) | (show AWL _ _ _ (⟨_, .load _ _, _, _, _, _⟩ :: _) _ _ _; refine awl_lw ?wtq (lv_rp T0 rfl rfl rfl (by solve | repeat' constructor) (by first | omega | (simp; omega)) (by omega) (by first | assumption | rfl)) rfl rfl rfl ?_) | (show AWL _ _ _ (⟨_, .indexAddr _ _ _, _, _, _, _⟩ :: _) _ _ _; refine awl_pw ?wtq (pv_ix_own T0 rfl rfl rfl rfl (by omega) (by first | exact (rfl : Int.toNat 0 = 0) | exact Int.toNat_natCast _ | rfl)) rfl rfl ?_) | (show AWL _ _ _ (⟨_, .indexAddr _ _ _, _, _, _, _⟩ :: _) _ _ _; refine awl_pw ?wtq (pv_ix_arr T0 rfl rfl rfl rfl (by omega) (by simp; rfl)) rfl rfl ?_) | (show AWL _ _ _ (⟨_, .binOp .neq _ _ _ _, _, _, _, _⟩ :: _) _ _ _; refine awl_pw ?wtq (pv_neq rfl rfl rfl) rfl rfl ?_) | (show AWL _ _ _ (⟨_, .pick _ _ _, _, _, _, _⟩ :: _) _ _ _; refine awl_pw ?wtq (pv_pick_f rfl rfl (by first | rfl | assumption | exact dT (by omega) | exact dF (by omega)) rfl) rfl rfl ?_)); case wtq => first | exact wt_none rfl | exact wt_some' rfl rfl rfl rfl (by first | rfl | assumption | exact dT (by omega) | exact dF (by omega))) | refine awl_nil ?_)
    refine awp_cut _ (awp_weak (by first | ((repeat' (first | exact True.intro | refine ⟨rfl, ?_⟩)); all_goals fail) | fail) (by solve | repeat' constructor) (de_10 (b := b) (cp := cp) (g3 := g3) (g5 := g5) (g7 := g7) (g8 := g8) (g10 := g10) (g11 := g11) (ga := ga) (gmo := gmo) (gs := gs) (gn := gn) (gw := gw) (gm := gm) (H := H) (nd := nd) (F := fL cap f) (a := a) (most := most) (u2 := .v (ptrV g7)) (u8 := .v (ptrV gr)) (Z := Z') (rest := [.cl ga 3 [intA at'], .cl gr 3 [intA 0], .cl gb 167 [.v (ptrV gw)]])
      (R := fun n Z2 nd2 F2 => ∃ f2, BrPost b cap (aT b a) (min most (fL cap f a)) Z' nd f n Z2 nd2 f2 ∧ F2 = fL cap f2) (hC.mono fun r h' ⟨n, Z2, nd2, f2, hP, e1, e2⟩ => ⟨n, Z2, nd2, _, ⟨f2, hP, rfl⟩, e1, e2⟩) rfl)) ?_
    rintro s h ⟨n, Z2, nd2, F2, ⟨f2, hP, rfl⟩, rfl, rfl⟩
    simp only [List.cons_append, List.nil_append]
    by_cases hn : 0 < n
    · have d3 := decide_eq_true hn
      have hbd2 : ∀ i, i < b.cons.length → 0 ≤ f2 i ∧ f2 i ≤ cap i := by
        cases hP with
        | none => omega
        | some _ h => exact h
      have hn2 : n ≤ 100000 := by
        cases hP with
        | none => omega
        | some h => omega
      have hb1 := fL_bd2 (b := b) (a := a) hcap hbd2 hai
      have hb2 := fL_bd2 (b := b) (a := (a.1, !a.2)) hcap hbd2 hai
      have hpush := post_push (Z3 := Z2) hv hai c1 hM.sub hM.hat hZ c2 (by omega) hP
      have hfp := fun q => fL_push (cap := cap) (off := f2) (a := a) (x := n) (F1 := fun q => if q = a then fL cap f2 a - n else fL cap f2 q) (fun _ => rfl) q
      have hne : ((a.1, !a.2) : Arc) ≠ a := fun e => by have := congrArg Prod.snd e; simp at this
      repeat (first | refine awp_seq ?_ | refine awp_region_lit rfl ?_ | with_reducible refine then_n ?_ | refine awp_cond_t rfl (by first | rfl | assumption | exact dT (by omega)) ?_ | ((first | (show AWL _ _ _ (⟨_, .move _, _, _, _, _⟩ :: _) _ _ _; refine awl_pw ?wtq (pv_move rfl rfl) rfl rfl ?_) | (show AWL _ _ _ (⟨_, .binOp .gtr _ _ _ _, _, _, _, _⟩ :: _) _ _ _; refine awl_pw ?wtq (pv_gtr rfl rfl rfl) rfl rfl ?_)); case wtq => first | exact wt_none rfl | exact wt_some' rfl rfl rfl rfl (by first | rfl | assumption | exact dT (by omega) | exact dF (by omega))) | refine awl_nil ?_)
      refine awp_cut _ (awp_weak (by first | ((repeat' (first | exact True.intro | refine ⟨rfl, ?_⟩)); all_goals fail) | fail) (by solve | repeat' constructor) (de_12 (b := b) (cp := cp) (g3 := g3) (g10 := g10) (gw := gw) (gm := gm) (a := a) (x := n) (F := fL cap f2) (F1 := fun q => if q = a then fL cap f2 a - n else fL cap f2 q) (u8 := .v (ptrV gr)) (rest := [.cl gr 3 [intA 0], .cl g7 88 [.v (.slice (some ⟨gs, 0, none⟩) H H)], .rw (.slice (some ⟨gs, 0, none⟩) H H) 4 1 (bRows Z2 H), .cl g5 29 [.v (.slice (some ⟨gn, 0, none⟩) H H)], .rw (.slice (some ⟨gn, 0, none⟩) H H) 3 1 (fRows nd2 H), .cl g8 280 [.v (.func (.func 154) #[] #[ptrV g7, ptrV g5, ptrV g3, ptrV g8])]]) (by omega) (by omega) (fun _ => rfl) rfl)) ?_
      rintro s h ⟨rfl, rfl⟩
      repeat (first | refine awp_seq ?_)
      refine awp_cut _ (awp_weak (by first | ((repeat' (first | exact True.intro | refine ⟨rfl, ?_⟩)); all_goals fail) | fail) (by solve | repeat' constructor) (de_13 (b := b) (cp := cp) (g3 := g3) (g10 := g10) (gw := gw) (gm := gm) (a := a) (x := n) (F := fun q => if q = a then fL cap f2 a - n else fL cap f2 q) (F1 := fL cap (psh f2 a n)) (u8 := .v (ptrV gr)) (rest := [.cl gr 3 [intA 0], .cl g7 88 [.v (.slice (some ⟨gs, 0, none⟩) H H)], .rw (.slice (some ⟨gs, 0, none⟩) H H) 4 1 (bRows Z2 H), .cl g5 29 [.v (.slice (some ⟨gn, 0, none⟩) H H)], .rw (.slice (some ⟨gn, 0, none⟩) H H) 3 1 (fRows nd2 H), .cl g8 280 [.v (.func (.func 154) #[] #[ptrV g7, ptrV g5, ptrV g3, ptrV g8])]]) (by
        show -1000000 ≤ (if ((a.1, !a.2) : Arc) = a then fL cap f2 a - n else fL cap f2 (a.1, !a.2)) ∧ (if ((a.1, !a.2) : Arc) = a then fL cap f2 a - n else fL cap f2 (a.1, !a.2)) ≤ 1000000
        rw [if_neg hne]; omega) (by omega) hfp rfl)) ?_
      rintro s h ⟨rfl, rfl⟩
      repeat (first | refine awp_seq ?_ | refine awp_region_lit rfl ?_ | refine awp_ret ?_ | with_reducible refine blk_r ?_ | ((first | (show AWL _ _ _ (⟨_, .move _, _, _, _, _⟩ :: _) _ _ _; refine awl_pw ?wtq (pv_move rfl rfl) rfl rfl ?_)); case wtq => first | exact wt_none rfl | exact wt_some' rfl rfl rfl rfl (by first | rfl | assumption | exact dT (by omega) | exact dF (by omega))) | (show AWL _ _ _ (⟨_, .store _ _ _, _, _, _, _⟩ :: _) _ _ _; refine awl_hw (by first | exact wt_none rfl | exact wt_some' rfl rfl rfl rfl (by first | rfl | assumption | exact dT (by omega) | exact dF (by omega))) (st_store T0 rfl rfl rfl rfl rfl (by first | assumption | (simp only [cellsA]; rfl)) rfl rfl rfl (by solve | repeat' constructor) (by solve | repeat' constructor) trivial ?_)) | refine awl_nil ?_)
      exact ⟨_, (by solve | repeat' constructor), rfl, n, Z2, nd2, psh f2 a n, hpush, rfl⟩
    · have d3 := decide_eq_false hn
      cases hP with
      | some h => omega
      | none hsub hat' hcl =>
        repeat (first | refine awp_seq ?_ | refine awp_region_lit rfl ?_ | refine awp_skip ?_ | with_reducible refine then_n ?_ | with_reducible refine blk_n ?_ | refine awp_cond_f rfl (by first | rfl | assumption | exact dF (by omega)) ?_ | ((first | (show AWL _ _ _ (⟨_, .move _, _, _, _, _⟩ :: _) _ _ _; refine awl_pw ?wtq (pv_move rfl rfl) rfl rfl ?_) | (show AWL _ _ _ (⟨_, .binOp .gtr _ _ _ _, _, _, _, _⟩ :: _) _ _ _; refine awl_pw ?wtq (pv_gtr rfl rfl rfl) rfl rfl ?_)); case wtq => first | exact wt_none rfl | exact wt_some' rfl rfl rfl rfl (by first | rfl | assumption | exact dT (by omega) | exact dF (by omega))) | refine awl_nil ?_)
        exact ⟨_, (by solve | repeat' constructor), hend Z2 (mid_none hM hsub hat' hcl)⟩
  · rintro L h' hF ⟨l1, Z', hL, hM, rfl⟩
    obtain rfl := arcRows_inj (hF.symm.trans hL)
    simp only [List.cons_append, List.nil_append]
    repeat (first | refine awp_seq ?_ | refine awp_region_lit rfl ?_ | refine awp_ret ?_ | (show AWL _ _ _ (⟨_, .store _ _ _, _, _, _, _⟩ :: _) _ _ _; refine awl_hw (by first | exact wt_none rfl | exact wt_some' rfl rfl rfl rfl (by first | rfl | assumption | exact dT (by omega) | exact dF (by omega))) (st_store T0 rfl rfl rfl rfl rfl (by first | assumption | (simp only [cellsA]; rfl)) rfl rfl rfl (by solve | repeat' constructor) (by solve | repeat' constructor) trivial ?_)) | refine awl_nil ?_)
    exact body_r (h' := brE g3 g5 g7 g8 gs gn gw gm b cp H Z' nd (fL cap f)) (.cons ⟨gr, _, _, _, _, rfl, rfl, (by solve | repeat' constructor), Nat.le_refl _, .inr rfl, rfl⟩ .nil) (by solve | repeat' constructor) ⟨0, Z', nd, f, mid_end hM (by omega), rfl, rfl⟩
  · rintro L h' hp ⟨-, n, Z', nd', f', hP, rfl⟩
    repeat (first | with_reducible refine then_r ?_ | with_reducible refine blk_r ?_)
    exact body_r (h' := brE g3 g5 g7 g8 gs gn gw gm b cp H Z' nd' (fL cap f')) (.cons ⟨gr, _, _, _, _, rfl, rfl, (by solve | repeat' constructor), Nat.le_refl _, .inr rfl, rfl⟩ .nil) (by solve | repeat' constructor) ⟨n, Z', nd', f', hP, rfl, rfl⟩
end Go.Proofs.Ytlpknbneilgjkaa.R
