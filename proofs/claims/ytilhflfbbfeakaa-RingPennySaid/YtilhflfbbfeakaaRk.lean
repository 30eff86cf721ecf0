/- Money and Fails of the reference: their walks. -/
import Derived.Test.YtilhflfbbfeakaaRj
namespace Go.Proofs.Ytilhflfbbfeakaa
open Go Go.RowKit Go.Tl
set_option linter.unusedVariables false
set_option linter.unusedSimpArgs false
set_option maxRecDepth 100000
set_option maxHeartbeats 4000000
attribute [local irreducible] AWP AWL AOp PV LV AWT AWE
theorem rmoney_p (b : BookD) (p : Int) (hv : VBook b) (hp : 1 ≤ p ∧ p ≤ 1000) : PCall Try.prog 28 [bookA false b, intA p] (fun r => r = .t (intsT true (netL b (fun i => -(payF b p i))))) := by
  have hh := hv.houses
  obtain ⟨n, hn⟩ : ∃ n : Nat, b.houses = n := ⟨b.houses.toNat, by omega⟩
  have hlen := hv.len
  refine acall_of_awp T0 Try.func28 rfl rfl rfl ?_
  repeat (first | refine awp_seq ?_ | refine awp_region_lit rfl ?_)
  refine awl_hw (wt_none rfl) (st_box rfl rfl (by first | rfl | assumption) (by first | assumption | (simp only [cellsA]; rfl)) rfl rfl ?_)
  intro g2
  repeat (first | refine awp_seq ?_ | refine awp_region_lit rfl ?_ | (show AWL _ _ _ (⟨_, .assign _, _, _, _, _⟩ :: _) _ _ _; refine awl_pw (wt_none rfl) (pv_assign rfl rfl) rfl rfl ?_) | (show AWL _ _ _ (⟨_, .load _ _, _, _, _, _⟩ :: _) _ _ _; refine awl_lw (wt_none rfl) (lv_cl1 T0 rfl rfl rfl (by solve | repeat' constructor) (by first | rfl | assumption)) rfl rfl rfl ?_) | (show AWL _ _ _ (⟨_, .fieldAddr _ _ _, _, _, _, _⟩ :: _) _ _ _; refine awl_pw (wt_none rfl) (pv_fa T0 rfl rfl rfl (by simp; rfl)) rfl rfl ?_) | refine awl_nil ?_)
  rw [hn]
  refine awl_hw (wt_none rfl) (aop_make T0 rfl rfl rfl rfl rfl rfl rfl rfl (by omega) rfl ?_)
  intro ga
  repeat (first | refine awp_seq ?_ | refine awp_block ?_ | refine awp_region_lit rfl ?_ | (show AWL _ _ _ (⟨_, .assign _, _, _, _, _⟩ :: _) _ _ _; refine awl_pw (wt_none rfl) (pv_assign rfl rfl) rfl rfl ?_) | refine awl_nil ?_)
  rw [fRows_zero n b.cons (fun i => -(payF b p i))]
  refine awp_loop (fun m s h => ∃ (k : Nat), k ≤ b.cons.length ∧ m = b.cons.length - k ∧ s = [(1, intA p), (2, .v (ptrV g2)), (5, .v (.slice (some ⟨ga, 0, none⟩) n n)), (6, intA k)] ∧ h = [.cl g2 24 [intA n, .t (consT false b.cons)], .rw (.slice (some ⟨ga, 0, none⟩) n n) 3 1 (fRows (accN b.cons (fun i => -(payF b p i)) k) n)]) ?_ ⟨0, Nat.zero_le _, rfl, rfl, rfl⟩ (by first | ((repeat' (first | exact True.intro | refine ⟨rfl, ?_⟩)); all_goals fail) | fail) (by solve | repeat' constructor)
  rintro m s h ⟨k, hk, rfl, rfl, rfl⟩
  by_cases hlt : k < b.cons.length
  · have hfr := hv.frm k hlt
    have hto := hv.to k hlt
    have hpb := pay_bd (hv.num k hlt) (hv.price k hlt) hp
    have hac : ∀ h : Nat, -100000000 ≤ accN b.cons (fun i => -(payF b p i)) k h ∧ accN b.cons (fun i => -(payF b p i)) k h ≤ 100000000 := fun h => acc_small (by omega) (fun i hi => by
      have := pay_bd (hv.num i (by omega)) (hv.price i (by omega)) hp
      show _ ≤ -(_ * _) ∧ -(_ * _) ≤ _
      omega)
    obtain ⟨jt, hjt⟩ : ∃ j : Nat, (b.cons.getD k default).to = j := ⟨(b.cons.getD k default).to.toNat, by omega⟩
    obtain ⟨jf, hjf⟩ : ∃ j : Nat, (b.cons.getD k default).frm = j := ⟨(b.cons.getD k default).frm.toNat, by omega⟩
    have hpay : payF b p k = (b.cons.getD k default).num * ((b.cons.getD k default).price - p) := rfl
    repeat (first | refine awp_seq ?_ | refine awp_block ?_ | refine awp_region_lit rfl ?_ | refine awp_skip ?_ | refine then_n ?_ | refine awp_cond_t rfl (by first | rfl | assumption | exact dT (by omega)) ?_ | (show AWL _ _ _ (⟨_, .move _, _, _, _, _⟩ :: _) _ _ _; refine awl_pw (wt_none rfl) (pv_move rfl rfl) rfl rfl ?_) | (show AWL _ _ _ (⟨_, .load _ _, _, _, _, _⟩ :: _) _ _ _; refine awl_lw (wt_none rfl) (lv_cl1 T0 rfl rfl rfl (by solve | repeat' constructor) (by first | rfl | assumption)) rfl rfl rfl ?_) | (show AWL _ _ _ (⟨_, .load _ _, _, _, _, _⟩ :: _) _ _ _; refine awl_lw (wt_none rfl) (lv_elt_ag T0 rfl rfl rfl rfl (by solve | repeat' constructor)) rfl rfl rfl ?_) | (show AWL _ _ _ (⟨_, .fieldAddr _ _ _, _, _, _, _⟩ :: _) _ _ _; refine awl_pw (wt_none rfl) (pv_fa T0 rfl rfl rfl (by simp; rfl)) rfl rfl ?_) | (show AWL _ _ _ (⟨_, .indexAddr _ _ _, _, _, _, _⟩ :: _) _ _ _; refine awl_pw (wt_none rfl) (pv_ix_t T0 rfl rfl rfl rfl (by omega) (by first | exact Int.toNat_natCast _ | rfl)) rfl rfl ?_) | (show AWL _ _ _ (⟨_, .binOp .lss _ _ _ _, _, _, _, _⟩ :: _) _ _ _; refine awl_pw (wt_none rfl) (pv_lss rfl rfl rfl) rfl rfl ?_) | (show AWL _ _ _ (⟨_, .call ⟨.builtin .len, _, _⟩, _, _, _, _⟩ :: _) _ _ _; refine awl_pw (wt_none rfl) (pv_len_t T0 rfl rfl rfl) rfl rfl ?_) | refine awl_nil ?_)
    refine awl_hw (wt_none rfl) (st_alloc T0 rfl rfl rfl rfl (by simp only [Value.cells, List.toList_toArray, List.map_cons, List.map_nil]; rfl) ?_)
    intro g7
    repeat (first | refine awp_seq ?_ | (show AWL _ _ _ (⟨_, .store _ _ _, _, _, _, _⟩ :: _) _ _ _; refine awl_hw (wt_none rfl) (st_store T0 rfl rfl rfl rfl rfl (by first | assumption | (simp only [cellsA]; rfl)) rfl rfl rfl (by solve | repeat' constructor) (by solve | repeat' constructor) trivial ?_)) | refine awl_nil ?_)
    refine awp_cut _ (awp_weak (by first | ((repeat' (first | exact True.intro | refine ⟨rfl, ?_⟩)); all_goals fail) | fail) (by solve | repeat' constructor) (rm_6 (c := b.cons.getD k default) (e2 := .cl g2 24 [intA n, .t (consT false b.cons)]) (p := p) (g2 := g2) (g7 := g7) (ga := ga) (n := n) (k := k) (j := jf) (F := accN b.cons (fun i => -(payF b p i)) k) (G := fun h => accN b.cons (fun i => -(payF b p i)) k h + (if (b.cons.getD k default).frm = (h : Int) then payF b p k else 0)) hjf (by omega) (by omega) (by have := hac jf; omega) hpb (hv.price k hlt) hp (fun q hq => ?_) rfl)) ?_
    · rw [← hpay]
      by_cases e : q = jf
      · subst e; rw [if_pos hjf, if_pos rfl]
      · rw [if_neg (by omega), if_neg e, Int.add_zero]
    rintro s h ⟨rfl, rfl⟩
    skip
    refine awp_cutB _ (awp_weak (by first | ((repeat' (first | exact True.intro | refine ⟨rfl, ?_⟩)); all_goals fail) | fail) (by solve | repeat' constructor) (rm_7 (c := b.cons.getD k default) (e2 := .cl g2 24 [intA n, .t (consT false b.cons)]) (p := p) (g2 := g2) (g7 := g7) (ga := ga) (n := n) (k := k) (j := jt) (F := fun h => accN b.cons (fun i => -(payF b p i)) k h + (if (b.cons.getD k default).frm = (h : Int) then payF b p k else 0)) (G := accN b.cons (fun i => -(payF b p i)) (k + 1)) hjt (by omega) (by omega) (by have := hac jt; show _ ≤ accN _ _ k jt + _ ∧ accN _ _ k jt + _ ≤ _; split <;> omega) hpb (hv.price k hlt) hp (fun q hq => ?_) rfl)) ?_
    · rw [← hpay]
      have hs : accN b.cons (fun i => -(payF b p i)) (k + 1) q = accN b.cons (fun i => -(payF b p i)) k q - (if (b.cons.getD k default).to = (q : Int) then payF b p k else 0) + (if (b.cons.getD k default).frm = (q : Int) then payF b p k else 0) := by
        simp only [accN]
        split <;> split <;> simp <;> omega
      rw [hs]
      by_cases e : q = jt
      · subst e; rw [if_pos hjt, if_pos rfl]; split <;> omega
      · rw [if_neg (c := (b.cons.getD k default).to = (q : Int)) (by omega), if_neg e]; split <;> omega
    rintro s h ⟨rfl, rfl⟩
    repeat (first | refine awp_region_lit rfl ?_ | (show AWL _ _ _ (⟨_, .move _, _, _, _, _⟩ :: _) _ _ _; refine awl_pw (wt_none rfl) (pv_move rfl rfl) rfl rfl ?_) | (show AWL _ _ _ (⟨_, .assign _, _, _, _, _⟩ :: _) _ _ _; refine awl_pw (wt_none rfl) (pv_assign rfl rfl) rfl rfl ?_) | (show AWL _ _ _ (⟨_, .binOp .add _ _ _ _, _, _, _, _⟩ :: _) _ _ _; refine awl_pw (wt_none rfl) (pv_add rfl rfl rfl (by first | assumption | exact wr64 (by omega))) rfl rfl ?_) | refine awl_nil ?_)
    refine rnd_n _ _ _ ?_ ⟨k + 1, hlt, rfl, rfl, rfl⟩ (by first | ((repeat' (first | exact True.intro | refine ⟨rfl, ?_⟩)); all_goals fail) | fail) (by solve | repeat' constructor)
    omega
  obtain rfl : k = b.cons.length := by omega
  have hnl : (netL b (fun i => -(payF b p i))).length = n := by simp [netL, hn]
  refine awp_ghost (ghost_freeze (E := 3) (sz := 1) (n := (netL b (fun i => -(payF b p i))).length) (rows := fRows (accN b.cons (fun i => -(payF b p i)) b.cons.length) n) (d := 5) (fun q => [.sc (.int .i64 ((netL b (fun i => -(payF b p i))).getD q 0))]) (by solve | repeat' constructor) rfl (by rw [fRows_len, hnl]) (by rw [hnl]; exact fRows_tree (by simp [netL, hn]))) ?_
  repeat (first | refine awp_seq ?_ | refine awp_region_lit rfl ?_ | refine awp_exit ?_ | refine awp_ret ?_ | refine then_n ?_ | refine awp_cond_f rfl (by first | rfl | assumption | exact dF (by omega)) ?_ | (show AWL _ _ _ (⟨_, .move _, _, _, _, _⟩ :: _) _ _ _; refine awl_pw (wt_none rfl) (pv_move rfl rfl) rfl rfl ?_) | (show AWL _ _ _ (⟨_, .assign _, _, _, _, _⟩ :: _) _ _ _; refine awl_pw (wt_none rfl) (pv_assign rfl rfl) rfl rfl ?_) | (show AWL _ _ _ (⟨_, .load _ _, _, _, _, _⟩ :: _) _ _ _; refine awl_lw (wt_none rfl) (lv_cl1 T0 rfl rfl rfl (by solve | repeat' constructor) (by first | rfl | assumption)) rfl rfl rfl ?_) | (show AWL _ _ _ (⟨_, .fieldAddr _ _ _, _, _, _, _⟩ :: _) _ _ _; refine awl_pw (wt_none rfl) (pv_fa T0 rfl rfl rfl (by simp; rfl)) rfl rfl ?_) | (show AWL _ _ _ (⟨_, .binOp .lss _ _ _ _, _, _, _, _⟩ :: _) _ _ _; refine awl_pw (wt_none rfl) (pv_lss rfl rfl rfl) rfl rfl ?_) | (show AWL _ _ _ (⟨_, .call ⟨.builtin .len, _, _⟩, _, _, _, _⟩ :: _) _ _ _; refine awl_pw (wt_none rfl) (pv_len_t T0 rfl rfl rfl) rfl rfl ?_) | refine awl_nil ?_)
  exact body_p (.cons rfl .nil) rfl
theorem rfN_bd {cs : List ConD} {house p : Int} : ∀ (k : Nat) (h : Nat), (∀ i, i < k → -1000000 ≤ (cs.getD i default).num * ((cs.getD i default).price - p) ∧ (cs.getD i default).num * ((cs.getD i default).price - p) ≤ 1000000) → -(2000000 * k) ≤ rfN cs house p k h ∧ rfN cs house p k h ≤ 2000000 * k
  | 0, h, _ => by simp [rfN]
  | k + 1, h, hf => by
    have ih := rfN_bd (cs := cs) (house := house) (p := p) k h (fun i hi => hf i (by omega))
    have h1 := hf k (by omega)
    simp only [rfN]
    split <;> split <;> omega
theorem rfails_p (b : BookD) (house p : Int) (hv : VBook b) (hp : 1 ≤ p ∧ p ≤ 1000) : PCall Try.prog 29 [bookA false b, intA house, intA p] (fun r => r = .t (intsT true (failL b house p))) := by
  have hh := hv.houses
  obtain ⟨n, hn⟩ : ∃ n : Nat, b.houses = n := ⟨b.houses.toNat, by omega⟩
  have hlen := hv.len
  have hfl : failL b house p = (List.range n).map fun (h : Nat) => max 0 (rfN b.cons house p b.cons.length h) := by
    unfold failL
    rw [show b.houses.toNat = n by omega]
    exact List.map_congr_left fun h _ => fail_eq hv house p h
  have hpb : ∀ i, i < b.cons.length → -1000000 ≤ (b.cons.getD i default).num * ((b.cons.getD i default).price - p) ∧ (b.cons.getD i default).num * ((b.cons.getD i default).price - p) ≤ 1000000 := fun i hi => pay_bd (hv.num i hi) (hv.price i hi) hp
  have hac : ∀ k h : Nat, k ≤ b.cons.length → -100000000 ≤ rfN b.cons house p k h ∧ rfN b.cons house p k h ≤ 100000000 := fun k h hk => by
    have := rfN_bd (cs := b.cons) (house := house) (p := p) k h (fun i hi => hpb i (by omega))
    omega
  have hz : List.replicate n [AV.v (Value.int .i64 0)] = fRows (rfN b.cons house p 0) n := fRows_zero n b.cons (fun _ => 0)
  refine acall_of_awp T0 Try.func29 rfl rfl rfl ?_
  repeat (first | refine awp_seq ?_ | refine awp_region_lit rfl ?_)
  refine awl_hw (wt_none rfl) (st_box rfl rfl (by first | rfl | assumption) (by first | assumption | (simp only [cellsA]; rfl)) rfl rfl ?_)
  intro g3
  repeat (first | refine awp_seq ?_ | refine awp_region_lit rfl ?_ | (show AWL _ _ _ (⟨_, .assign _, _, _, _, _⟩ :: _) _ _ _; refine awl_pw (wt_none rfl) (pv_assign rfl rfl) rfl rfl ?_) | (show AWL _ _ _ (⟨_, .load _ _, _, _, _, _⟩ :: _) _ _ _; refine awl_lw (wt_none rfl) (lv_cl1 T0 rfl rfl rfl (by solve | repeat' constructor) (by first | rfl | assumption)) rfl rfl rfl ?_) | (show AWL _ _ _ (⟨_, .fieldAddr _ _ _, _, _, _, _⟩ :: _) _ _ _; refine awl_pw (wt_none rfl) (pv_fa T0 rfl rfl rfl (by simp; rfl)) rfl rfl ?_) | refine awl_nil ?_)
  rw [hn]
  refine awl_hw (wt_none rfl) (aop_make T0 rfl rfl rfl rfl rfl rfl rfl rfl (by omega) rfl ?_)
  intro ga
  repeat (first | refine awp_seq ?_ | refine awp_block ?_ | refine awp_region_lit rfl ?_ | (show AWL _ _ _ (⟨_, .assign _, _, _, _, _⟩ :: _) _ _ _; refine awl_pw (wt_none rfl) (pv_assign rfl rfl) rfl rfl ?_) | refine awl_nil ?_)
  rw [hz]
  refine awp_loop (fun m s h => ∃ (k : Nat), k ≤ b.cons.length ∧ m = b.cons.length - k ∧ s = [(1, intA house), (2, intA p), (3, .v (ptrV g3)), (7, .v (.slice (some ⟨ga, 0, none⟩) n n)), (8, intA k)] ∧ h = [.cl g3 24 [intA n, .t (consT false b.cons)], .rw (.slice (some ⟨ga, 0, none⟩) n n) 3 1 (fRows (rfN b.cons house p k) n)]) ?_ ⟨0, Nat.zero_le _, rfl, rfl, rfl⟩ (by first | ((repeat' (first | exact True.intro | refine ⟨rfl, ?_⟩)); all_goals fail) | fail) (by solve | repeat' constructor)
  rintro m s h ⟨k, hk, rfl, rfl, rfl⟩
  by_cases hlt : k < b.cons.length
  · have hfr := hv.frm k hlt
    have hto := hv.to k hlt
    have hpk := hpb k hlt
    have hak := fun h => hac k h hk
    have hprk := hv.price k hlt
    have hne := hv.ne k hlt
    have hsucc : ∀ h : Nat, rfN b.cons house p (k + 1) h = rfN b.cons house p k h - (if (b.cons.getD k default).frm = house ∧ (b.cons.getD k default).to = (h : Int) then (b.cons.getD k default).num * ((b.cons.getD k default).price - p) else 0) + (if (b.cons.getD k default).to = house ∧ (b.cons.getD k default).frm = (h : Int) then (b.cons.getD k default).num * ((b.cons.getD k default).price - p) else 0) := fun h => rfl
    obtain ⟨jt, hjt⟩ : ∃ j : Nat, (b.cons.getD k default).to = j := ⟨(b.cons.getD k default).to.toNat, by omega⟩
    obtain ⟨jf, hjf⟩ : ∃ j : Nat, (b.cons.getD k default).frm = j := ⟨(b.cons.getD k default).frm.toNat, by omega⟩
    repeat (first | refine awp_seq ?_ | refine awp_block ?_ | refine awp_region_lit rfl ?_ | refine awp_skip ?_ | refine then_n ?_ | refine awp_cond_t rfl (by first | rfl | assumption | exact dT (by omega)) ?_ | (show AWL _ _ _ (⟨_, .move _, _, _, _, _⟩ :: _) _ _ _; refine awl_pw (wt_none rfl) (pv_move rfl rfl) rfl rfl ?_) | (show AWL _ _ _ (⟨_, .load _ _, _, _, _, _⟩ :: _) _ _ _; refine awl_lw (wt_none rfl) (lv_cl1 T0 rfl rfl rfl (by solve | repeat' constructor) (by first | rfl | assumption)) rfl rfl rfl ?_) | (show AWL _ _ _ (⟨_, .load _ _, _, _, _, _⟩ :: _) _ _ _; refine awl_lw (wt_none rfl) (lv_elt_ag T0 rfl rfl rfl rfl (by solve | repeat' constructor)) rfl rfl rfl ?_) | (show AWL _ _ _ (⟨_, .fieldAddr _ _ _, _, _, _, _⟩ :: _) _ _ _; refine awl_pw (wt_none rfl) (pv_fa T0 rfl rfl rfl (by simp; rfl)) rfl rfl ?_) | (show AWL _ _ _ (⟨_, .indexAddr _ _ _, _, _, _, _⟩ :: _) _ _ _; refine awl_pw (wt_none rfl) (pv_ix_t T0 rfl rfl rfl rfl (by omega) (by first | exact Int.toNat_natCast _ | rfl)) rfl rfl ?_) | (show AWL _ _ _ (⟨_, .binOp .lss _ _ _ _, _, _, _, _⟩ :: _) _ _ _; refine awl_pw (wt_none rfl) (pv_lss rfl rfl rfl) rfl rfl ?_) | (show AWL _ _ _ (⟨_, .call ⟨.builtin .len, _, _⟩, _, _, _, _⟩ :: _) _ _ _; refine awl_pw (wt_none rfl) (pv_len_t T0 rfl rfl rfl) rfl rfl ?_) | refine awl_nil ?_)
    refine awl_hw (wt_none rfl) (st_alloc T0 rfl rfl rfl rfl (by simp only [Value.cells, List.toList_toArray, List.map_cons, List.map_nil]; rfl) ?_)
    intro g9
    repeat (first | refine awp_seq ?_ | refine awp_region_lit rfl ?_ | refine then_n ?_ | (show AWL _ _ _ (⟨_, .move _, _, _, _, _⟩ :: _) _ _ _; refine awl_pw (wt_none rfl) (pv_move rfl rfl) rfl rfl ?_) | (show AWL _ _ _ (⟨_, .load _ _, _, _, _, _⟩ :: _) _ _ _; refine awl_lw (wt_none rfl) (lv_cl1 T0 rfl rfl rfl (by solve | repeat' constructor) (by first | rfl | assumption)) rfl rfl rfl ?_) | (show AWL _ _ _ (⟨_, .fieldAddr _ _ _, _, _, _, _⟩ :: _) _ _ _; refine awl_pw (wt_none rfl) (pv_fa T0 rfl rfl rfl (by simp; rfl)) rfl rfl ?_) | (show AWL _ _ _ (⟨_, .binOp .eql _ _ _ _, _, _, _, _⟩ :: _) _ _ _; refine awl_pw (wt_none rfl) (pv_eql rfl rfl rfl) rfl rfl ?_) | (show AWL _ _ _ (⟨_, .store _ _ _, _, _, _, _⟩ :: _) _ _ _; refine awl_hw (wt_none rfl) (st_store T0 rfl rfl rfl rfl rfl (by first | assumption | (simp only [cellsA]; rfl)) rfl rfl rfl (by solve | repeat' constructor) (by solve | repeat' constructor) trivial ?_)) | refine awl_nil ?_)
    by_cases q1 : (b.cons.getD k default).frm = house
    · have d1 : decide ((b.cons.getD k default).frm = house) = true := decide_eq_true q1
      have q2 : ¬ (b.cons.getD k default).to = house := by omega
      have d2 : decide ((b.cons.getD k default).to = house) = false := decide_eq_false q2
      repeat (first | refine awp_cond_t rfl (by first | rfl | assumption | exact dT (by omega)) ?_)
      refine awp_cut _ (awp_weak (by first | ((repeat' (first | exact True.intro | refine ⟨rfl, ?_⟩)); all_goals fail) | fail) (by solve | repeat' constructor) (rf_7 (c := b.cons.getD k default) (e2 := .cl g3 24 [intA n, .t (consT false b.cons)]) (house := house) (p := p) (g3 := g3) (g9 := g9) (ga := ga) (n := n) (k := k) (j := jt) (F := rfN b.cons house p k) (G := rfN b.cons house p (k + 1)) hjt (by omega) (by omega) (by have := hak jt; omega) hpk hprk hp (fun q hq => ?_) rfl)) ?_
      · rw [hsucc, if_neg (c := (b.cons.getD k default).to = house ∧ _) (fun x => q2 x.1)]
        by_cases e : q = jt
        · subst e; rw [if_pos ⟨q1, hjt⟩, if_pos rfl]; omega
        · rw [if_neg (fun x => e (by have := x.2; omega)), if_neg e]; omega
      rintro s h ⟨rfl, rfl⟩
      repeat (first | refine awp_seq ?_ | refine awp_region_lit rfl ?_ | refine awp_skip ?_ | refine then_n ?_ | refine awp_cond_f rfl (by first | rfl | assumption | exact dF (by omega)) ?_ | (show AWL _ _ _ (⟨_, .move _, _, _, _, _⟩ :: _) _ _ _; refine awl_pw (wt_none rfl) (pv_move rfl rfl) rfl rfl ?_) | (show AWL _ _ _ (⟨_, .assign _, _, _, _, _⟩ :: _) _ _ _; refine awl_pw (wt_none rfl) (pv_assign rfl rfl) rfl rfl ?_) | (show AWL _ _ _ (⟨_, .load _ _, _, _, _, _⟩ :: _) _ _ _; refine awl_lw (wt_none rfl) (lv_cl1 T0 rfl rfl rfl (by solve | repeat' constructor) (by first | rfl | assumption)) rfl rfl rfl ?_) | (show AWL _ _ _ (⟨_, .fieldAddr _ _ _, _, _, _, _⟩ :: _) _ _ _; refine awl_pw (wt_none rfl) (pv_fa T0 rfl rfl rfl (by simp; rfl)) rfl rfl ?_) | (show AWL _ _ _ (⟨_, .binOp .add _ _ _ _, _, _, _, _⟩ :: _) _ _ _; refine awl_pw (wt_none rfl) (pv_add rfl rfl rfl (by first | assumption | exact wr64 (by omega))) rfl rfl ?_) | (show AWL _ _ _ (⟨_, .binOp .eql _ _ _ _, _, _, _, _⟩ :: _) _ _ _; refine awl_pw (wt_none rfl) (pv_eql rfl rfl rfl) rfl rfl ?_) | refine awl_nil ?_)
      refine rnd_n _ _ _ ?_ ⟨k + 1, hlt, rfl, rfl, rfl⟩ (by first | ((repeat' (first | exact True.intro | refine ⟨rfl, ?_⟩)); all_goals fail) | fail) (by solve | repeat' constructor)
      omega
    have d1 : decide ((b.cons.getD k default).frm = house) = false := decide_eq_false q1
    by_cases q2 : (b.cons.getD k default).to = house
    · have d2 : decide ((b.cons.getD k default).to = house) = true := decide_eq_true q2
      repeat (first | refine awp_seq ?_ | refine awp_region_lit rfl ?_ | refine awp_skip ?_ | refine then_n ?_ | refine awp_cond_t rfl (by first | rfl | assumption | exact dT (by omega)) ?_ | refine awp_cond_f rfl (by first | rfl | assumption | exact dF (by omega)) ?_ | (show AWL _ _ _ (⟨_, .move _, _, _, _, _⟩ :: _) _ _ _; refine awl_pw (wt_none rfl) (pv_move rfl rfl) rfl rfl ?_) | (show AWL _ _ _ (⟨_, .load _ _, _, _, _, _⟩ :: _) _ _ _; refine awl_lw (wt_none rfl) (lv_cl1 T0 rfl rfl rfl (by solve | repeat' constructor) (by first | rfl | assumption)) rfl rfl rfl ?_) | (show AWL _ _ _ (⟨_, .fieldAddr _ _ _, _, _, _, _⟩ :: _) _ _ _; refine awl_pw (wt_none rfl) (pv_fa T0 rfl rfl rfl (by simp; rfl)) rfl rfl ?_) | (show AWL _ _ _ (⟨_, .binOp .eql _ _ _ _, _, _, _, _⟩ :: _) _ _ _; refine awl_pw (wt_none rfl) (pv_eql rfl rfl rfl) rfl rfl ?_) | refine awl_nil ?_)
      refine awp_cutB _ (awp_weak (by first | ((repeat' (first | exact True.intro | refine ⟨rfl, ?_⟩)); all_goals fail) | fail) (by solve | repeat' constructor) (rf_9 (c := b.cons.getD k default) (e2 := .cl g3 24 [intA n, .t (consT false b.cons)]) (house := house) (p := p) (g3 := g3) (g9 := g9) (ga := ga) (n := n) (k := k) (j := jf) (F := rfN b.cons house p k) (G := rfN b.cons house p (k + 1)) hjf (by omega) (by omega) (by have := hak jf; omega) hpk hprk hp (fun q hq => ?_) rfl)) ?_
      · rw [hsucc, if_neg (c := (b.cons.getD k default).frm = house ∧ _) (fun x => q1 x.1)]
        by_cases e : q = jf
        · subst e; rw [if_pos ⟨q2, hjf⟩, if_pos rfl]; omega
        · rw [if_neg (fun x => e (by have := x.2; omega)), if_neg e]; omega
      rintro s h ⟨rfl, rfl⟩
      repeat (first | refine awp_region_lit rfl ?_ | (show AWL _ _ _ (⟨_, .move _, _, _, _, _⟩ :: _) _ _ _; refine awl_pw (wt_none rfl) (pv_move rfl rfl) rfl rfl ?_) | (show AWL _ _ _ (⟨_, .assign _, _, _, _, _⟩ :: _) _ _ _; refine awl_pw (wt_none rfl) (pv_assign rfl rfl) rfl rfl ?_) | (show AWL _ _ _ (⟨_, .binOp .add _ _ _ _, _, _, _, _⟩ :: _) _ _ _; refine awl_pw (wt_none rfl) (pv_add rfl rfl rfl (by first | assumption | exact wr64 (by omega))) rfl rfl ?_) | refine awl_nil ?_)
      refine rnd_n _ _ _ ?_ ⟨k + 1, hlt, rfl, rfl, rfl⟩ (by first | ((repeat' (first | exact True.intro | refine ⟨rfl, ?_⟩)); all_goals fail) | fail) (by solve | repeat' constructor)
      omega
    have d2 : decide ((b.cons.getD k default).to = house) = false := decide_eq_false q2
    have hsame : fRows (rfN b.cons house p k) n = fRows (rfN b.cons house p (k + 1)) n := by
      unfold fRows
      exact List.map_congr_left fun h _ => by rw [hsucc, if_neg (fun x => q1 x.1), if_neg (fun x => q2 x.1)]; simp
    rw [hsame]
    repeat (first | refine awp_seq ?_ | refine awp_region_lit rfl ?_ | refine awp_skip ?_ | refine then_n ?_ | refine awp_cond_f rfl (by first | rfl | assumption | exact dF (by omega)) ?_ | (show AWL _ _ _ (⟨_, .move _, _, _, _, _⟩ :: _) _ _ _; refine awl_pw (wt_none rfl) (pv_move rfl rfl) rfl rfl ?_) | (show AWL _ _ _ (⟨_, .assign _, _, _, _, _⟩ :: _) _ _ _; refine awl_pw (wt_none rfl) (pv_assign rfl rfl) rfl rfl ?_) | (show AWL _ _ _ (⟨_, .load _ _, _, _, _, _⟩ :: _) _ _ _; refine awl_lw (wt_none rfl) (lv_cl1 T0 rfl rfl rfl (by solve | repeat' constructor) (by first | rfl | assumption)) rfl rfl rfl ?_) | (show AWL _ _ _ (⟨_, .fieldAddr _ _ _, _, _, _, _⟩ :: _) _ _ _; refine awl_pw (wt_none rfl) (pv_fa T0 rfl rfl rfl (by simp; rfl)) rfl rfl ?_) | (show AWL _ _ _ (⟨_, .binOp .add _ _ _ _, _, _, _, _⟩ :: _) _ _ _; refine awl_pw (wt_none rfl) (pv_add rfl rfl rfl (by first | assumption | exact wr64 (by omega))) rfl rfl ?_) | (show AWL _ _ _ (⟨_, .binOp .eql _ _ _ _, _, _, _, _⟩ :: _) _ _ _; refine awl_pw (wt_none rfl) (pv_eql rfl rfl rfl) rfl rfl ?_) | refine awl_nil ?_)
    refine rnd_n _ _ _ ?_ ⟨k + 1, hlt, rfl, rfl, rfl⟩ (by first | ((repeat' (first | exact True.intro | refine ⟨rfl, ?_⟩)); all_goals fail) | fail) (by solve | repeat' constructor)
    omega
  obtain rfl : k = b.cons.length := by omega
  have hab := fun h => hac b.cons.length h (Nat.le_refl _)
  generalize hA : rfN b.cons house p b.cons.length = A at *
  repeat (first | refine awp_seq ?_ | refine awp_block ?_ | refine awp_region_lit rfl ?_ | refine awp_exit ?_ | refine then_n ?_ | refine awp_cond_f rfl (by first | rfl | assumption | exact dF (by omega)) ?_ | (show AWL _ _ _ (⟨_, .move _, _, _, _, _⟩ :: _) _ _ _; refine awl_pw (wt_none rfl) (pv_move rfl rfl) rfl rfl ?_) | (show AWL _ _ _ (⟨_, .assign _, _, _, _, _⟩ :: _) _ _ _; refine awl_pw (wt_none rfl) (pv_assign rfl rfl) rfl rfl ?_) | (show AWL _ _ _ (⟨_, .load _ _, _, _, _, _⟩ :: _) _ _ _; refine awl_lw (wt_none rfl) (lv_cl1 T0 rfl rfl rfl (by solve | repeat' constructor) (by first | rfl | assumption)) rfl rfl rfl ?_) | (show AWL _ _ _ (⟨_, .fieldAddr _ _ _, _, _, _, _⟩ :: _) _ _ _; refine awl_pw (wt_none rfl) (pv_fa T0 rfl rfl rfl (by simp; rfl)) rfl rfl ?_) | (show AWL _ _ _ (⟨_, .binOp .lss _ _ _ _, _, _, _, _⟩ :: _) _ _ _; refine awl_pw (wt_none rfl) (pv_lss rfl rfl rfl) rfl rfl ?_) | (show AWL _ _ _ (⟨_, .call ⟨.builtin .len, _, _⟩, _, _, _, _⟩ :: _) _ _ _; refine awl_pw (wt_none rfl) (pv_len_t T0 rfl rfl rfl) rfl rfl ?_) | refine awl_nil ?_)
  refine awp_loop (fun m s h => ∃ (k : Nat), k ≤ n ∧ m = n - k ∧ s = [(3, .v (ptrV g3)), (7, .v (.slice (some ⟨ga, 0, none⟩) n n)), (10, intA k)] ∧
    h = [.cl g3 24 [intA n, .t (consT false b.cons)], .rw (.slice (some ⟨ga, 0, none⟩) n n) 3 1 (fRows (fun q => if q < k then max 0 (A q) else A q) n)]) ?_ ⟨0, Nat.zero_le _, rfl, rfl, rfl⟩ (by first | ((repeat' (first | exact True.intro | refine ⟨rfl, ?_⟩)); all_goals fail) | fail) (by solve | repeat' constructor)
  rintro m s h ⟨k, hk', rfl, rfl, rfl⟩
  have hfr := fRows_len (fun q => if q < k then max 0 (A q) else A q) n
  by_cases hkt : k < n
  · have r1 : ((fRows (fun q => if q < k then max 0 (A q) else A q) n).getD k [])[0]? = some (intA (A k)) := by
      rw [fRows_at hkt, if_neg (Nat.lt_irrefl _)]
    repeat (first | refine awp_seq ?_ | refine awp_block ?_ | refine awp_region_lit rfl ?_ | refine awp_skip ?_ | refine then_n ?_ | refine awp_cond_t rfl (by first | rfl | assumption | exact dT (by omega)) ?_ | (show AWL _ _ _ (⟨_, .move _, _, _, _, _⟩ :: _) _ _ _; refine awl_pw (wt_none rfl) (pv_move rfl rfl) rfl rfl ?_) | (show AWL _ _ _ (⟨_, .load _ _, _, _, _, _⟩ :: _) _ _ _; refine awl_lw (wt_none rfl) (lv_cl1 T0 rfl rfl rfl (by solve | repeat' constructor) (by first | rfl | assumption)) rfl rfl rfl ?_) | (show AWL _ _ _ (⟨_, .load _ _, _, _, _, _⟩ :: _) _ _ _; refine awl_lw (wt_none rfl) (lv_rp T0 rfl rfl rfl (by solve | repeat' constructor) (by first | omega | (simp; omega)) (by omega) (by first | assumption | rfl)) rfl rfl rfl ?_) | (show AWL _ _ _ (⟨_, .fieldAddr _ _ _, _, _, _, _⟩ :: _) _ _ _; refine awl_pw (wt_none rfl) (pv_fa T0 rfl rfl rfl (by simp; rfl)) rfl rfl ?_) | (show AWL _ _ _ (⟨_, .indexAddr _ _ _, _, _, _, _⟩ :: _) _ _ _; refine awl_pw (wt_none rfl) (pv_ix_own T0 rfl rfl rfl rfl (by omega) (by first | exact Int.toNat_natCast _ | rfl)) rfl rfl ?_) | (show AWL _ _ _ (⟨_, .binOp .lss _ _ _ _, _, _, _, _⟩ :: _) _ _ _; refine awl_pw (wt_none rfl) (pv_lss rfl rfl rfl) rfl rfl ?_) | (show AWL _ _ _ (⟨_, .call ⟨.builtin .max, _, _⟩, _, _, _, _⟩ :: _) _ _ _; refine awl_pw (wt_none rfl) (pv_max2 rfl rfl rfl) rfl rfl ?_) | refine awl_nil ?_)
    refine awl_hw (wt_none rfl) (aop_store_rp T0 rfl rfl rfl rfl rfl rfl rfl rfl (by solve | repeat' constructor) (by first | omega | (simp; omega)) (by omega) rfl trivial ?_)
    simp only [cellsA]
    rw [fRows_set (g := fun q => if q < k + 1 then max 0 (A q) else A q) hkt (fun q hq => by
      by_cases e : q = k
      · subst e; rw [if_pos (by omega), if_pos rfl]
      · rw [if_neg e]
        by_cases e2 : q < k
        · rw [if_pos (by omega), if_pos e2]
        · rw [if_neg (by omega), if_neg e2])]
    repeat (first | refine awp_region_lit rfl ?_ | (show AWL _ _ _ (⟨_, .move _, _, _, _, _⟩ :: _) _ _ _; refine awl_pw (wt_none rfl) (pv_move rfl rfl) rfl rfl ?_) | (show AWL _ _ _ (⟨_, .assign _, _, _, _, _⟩ :: _) _ _ _; refine awl_pw (wt_none rfl) (pv_assign rfl rfl) rfl rfl ?_) | (show AWL _ _ _ (⟨_, .binOp .add _ _ _ _, _, _, _, _⟩ :: _) _ _ _; refine awl_pw (wt_none rfl) (pv_add rfl rfl rfl (by first | assumption | exact wr64 (by omega))) rfl rfl ?_) | refine awl_nil ?_)
    refine rnd_n _ _ _ ?_ ⟨k + 1, hkt, rfl, rfl, rfl⟩ (by first | ((repeat' (first | exact True.intro | refine ⟨rfl, ?_⟩)); all_goals fail) | fail) (by solve | repeat' constructor)
    omega
  obtain rfl : k = n := by omega
  have hnl : (failL b house p).length = k := by rw [hfl]; simp
  have hAll : (fRows (fun q => if q < k then max 0 (A q) else A q) k) = fRows (fun q => max 0 (A q)) k := by
    unfold fRows
    exact List.map_congr_left fun q hq => by simp only; rw [if_pos (List.mem_range.1 hq)]
  rw [hAll]
  refine awp_ghost (ghost_freeze (E := 3) (sz := 1) (n := (failL b house p).length) (rows := fRows (fun q => max 0 (A q)) k) (d := 7) (fun q => [.sc (.int .i64 ((failL b house p).getD q 0))]) (by solve | repeat' constructor) rfl (by rw [fRows_len, hnl]) (by rw [hnl]; exact fRows_tree hfl)) ?_
  repeat (first | refine awp_seq ?_ | refine awp_region_lit rfl ?_ | refine awp_exit ?_ | refine awp_ret ?_ | refine then_n ?_ | refine awp_cond_f rfl (by first | rfl | assumption | exact dF (by omega)) ?_ | (show AWL _ _ _ (⟨_, .move _, _, _, _, _⟩ :: _) _ _ _; refine awl_pw (wt_none rfl) (pv_move rfl rfl) rfl rfl ?_) | (show AWL _ _ _ (⟨_, .assign _, _, _, _, _⟩ :: _) _ _ _; refine awl_pw (wt_none rfl) (pv_assign rfl rfl) rfl rfl ?_) | (show AWL _ _ _ (⟨_, .load _ _, _, _, _, _⟩ :: _) _ _ _; refine awl_lw (wt_none rfl) (lv_cl1 T0 rfl rfl rfl (by solve | repeat' constructor) (by first | rfl | assumption)) rfl rfl rfl ?_) | (show AWL _ _ _ (⟨_, .fieldAddr _ _ _, _, _, _, _⟩ :: _) _ _ _; refine awl_pw (wt_none rfl) (pv_fa T0 rfl rfl rfl (by simp; rfl)) rfl rfl ?_) | (show AWL _ _ _ (⟨_, .binOp .lss _ _ _ _, _, _, _, _⟩ :: _) _ _ _; refine awl_pw (wt_none rfl) (pv_lss rfl rfl rfl) rfl rfl ?_) | refine awl_nil ?_)
  exact body_p (.cons rfl .nil) rfl
end Go.Proofs.Ytilhflfbbfeakaa
