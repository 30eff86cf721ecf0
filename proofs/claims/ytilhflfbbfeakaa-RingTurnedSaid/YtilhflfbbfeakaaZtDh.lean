/- Joined texts: Rdp, Rep, Dh. -/
import Derived.Test.YtilhflfbbfeakaaZtGs
import Derived.Test.YtilhflfbbfeakaaTv
section
namespace Go.Proofs.Ytilhflfbbfeakaa
open Go Go.RowKit Go.Tl
set_option linter.unusedVariables false
set_option linter.unusedSimpArgs false
set_option maxRecDepth 100000
set_option maxHeartbeats 4000000
attribute [local irreducible] AWP AWL AOp PV LV AWT AWE
theorem seller_v {c : ConD} {x : Int} (h : c.frm = x) : PCall Try.prog 106 [conA c] (fun r => r = intA x) := by subst h; exact seller_p c
theorem buyer_v {c : ConD} {x : Int} (h : c.to = x) : PCall Try.prog 107 [conA c] (fun r => r = intA x) := by subst h; exact buyer_p c
/-- what has come to a house with the first contracts, and with the seller of one more -/
def midN (cs : List ConD) (f : Nat → Int) (k h : Nat) : Int := accN cs f k h - (if (cs.getD k default).frm = (h : Int) then f k else 0)
theorem sums_p {fv : AV} {gN : Nat} {fsN csN : List AV} {o : Ob} {f : Nat → Int} (cp : Bool) (b : BookD) (hv : VBook b) (hcal : Tl.Callee fv gN fsN csN) (hg : T0.fns.any gN.beq = true) (hb : ∀ i, i < b.cons.length → -1000000 ≤ f i ∧ f i ≤ 1000000)
    (hnum : ∀ i : Nat, i < b.cons.length → ACall Try.prog gN (fsN ++ [intA i] ++ csN) [.ob o] (fun r h' => r = intA (f i) ∧ h' = [.ob o])) :
    ACall Try.prog 57 [bookA cp b, fv] [.ob o] (fun r h' => r = .t (intsT true (netL b f)) ∧ h' = [.ob o]) := by
  have hh := hv.houses
  obtain ⟨n, hn⟩ : ∃ n : Nat, b.houses = n := ⟨b.houses.toNat, by omega⟩
  have hlen := hv.len
  refine acall_of_awp T0 Try.func57 rfl rfl rfl ?_
  repeat (first | refine awp_seq ?_ | refine awp_region_lit rfl ?_)
  refine awl_hw (wt_none rfl) (st_box rfl rfl (by first | rfl | assumption) (by first | assumption | (simp only [cellsA]; rfl)) rfl rfl ?_)
  intro g2
  repeat (first | refine awp_seq ?_ | refine awp_region_lit rfl ?_ | (show AWL _ _ _ (⟨_, .assign _, _, _, _, _⟩ :: _) _ _ _; refine awl_pw (wt_none rfl) (pv_assign rfl rfl) rfl rfl ?_) | (show AWL _ _ _ (⟨_, .load _ _, _, _, _, _⟩ :: _) _ _ _; refine awl_lw (wt_none rfl) (lv_cl1 T0 rfl rfl rfl (by solve | repeat' constructor) (by first | rfl | assumption)) rfl rfl rfl ?_) | (show AWL _ _ _ (⟨_, .fieldAddr _ _ _, _, _, _, _⟩ :: _) _ _ _; refine awl_pw (wt_none rfl) (pv_fa T0 rfl rfl rfl (by simp; rfl)) rfl rfl ?_) | refine awl_nil ?_)
  rw [hn]
  refine awl_hw (wt_none rfl) (aop_make T0 rfl rfl rfl rfl rfl rfl rfl rfl (by omega) rfl ?_)
  intro ga
  repeat (first | refine awp_seq ?_ | refine awp_block ?_ | refine awp_region_lit rfl ?_ | (show AWL _ _ _ (⟨_, .move _, _, _, _, _⟩ :: _) _ _ _; refine awl_pw (wt_none rfl) (pv_move rfl rfl) rfl rfl ?_) | (show AWL _ _ _ (⟨_, .assign _, _, _, _, _⟩ :: _) _ _ _; refine awl_pw (wt_none rfl) (pv_assign rfl rfl) rfl rfl ?_) | (show AWL _ _ _ (⟨_, .load _ _, _, _, _, _⟩ :: _) _ _ _; refine awl_lw (wt_none rfl) (lv_cl1 T0 rfl rfl rfl (by solve | repeat' constructor) (by first | rfl | assumption)) rfl rfl rfl ?_) | (show AWL _ _ _ (⟨_, .fieldAddr _ _ _, _, _, _, _⟩ :: _) _ _ _; refine awl_pw (wt_none rfl) (pv_fa T0 rfl rfl rfl (by simp; rfl)) rfl rfl ?_) | (show AWL _ _ _ (⟨_, .call ⟨.builtin .len, _, _⟩, _, _, _, _⟩ :: _) _ _ _; refine awl_pw (wt_none rfl) (pv_len_t T0 rfl rfl rfl) rfl rfl ?_) | refine awl_nil ?_)
  rw [fRows_zero n b.cons f]
  refine awp_loop (fun m s h => ∃ (k : Nat), k ≤ b.cons.length ∧ m = b.cons.length - k ∧ s = [(1, fv), (5, .v (.slice (some ⟨ga, 0, none⟩) n n)), (14, .t (consT cp b.cons)), (15, intA b.cons.length), (16, intA k)] ∧ h = [.rw (.slice (some ⟨ga, 0, none⟩) n n) 3 1 (fRows (accN b.cons f k) n), .ob o]) ?_ ⟨0, Nat.zero_le _, rfl, rfl, rfl⟩ (by first | ((repeat' (first | exact True.intro | refine ⟨rfl, ?_⟩)); all_goals fail) | fail) (by solve | repeat' constructor)
  rintro m s h ⟨k, hk, rfl, rfl, rfl⟩
  by_cases hlt : k < b.cons.length
  case neg =>
    obtain rfl : k = b.cons.length := by omega
    have hnl : (netL b f).length = n := by simp [netL, hn]
    refine awp_ghost (ghost_freeze (E := 3) (sz := 1) (n := (netL b f).length) (rows := fRows (accN b.cons f b.cons.length) n) (d := 5) (fun q => [.sc (.int .i64 ((netL b f).getD q 0))]) (by solve | repeat' constructor) rfl (by rw [fRows_len, hnl]) (by rw [hnl]; exact fRows_tree (by simp [netL, hn]))) ?_
    repeat (first | refine awp_seq ?_ | refine awp_region_lit rfl ?_ | refine awp_exit ?_ | refine awp_ret ?_ | refine awp_cond_f rfl (by first | rfl | assumption | exact dF (by omega)) ?_ | (show AWL _ _ _ (⟨_, .move _, _, _, _, _⟩ :: _) _ _ _; refine awl_pw (wt_none rfl) (pv_move rfl rfl) rfl rfl ?_) | (show AWL _ _ _ (⟨_, .assign _, _, _, _, _⟩ :: _) _ _ _; refine awl_pw (wt_none rfl) (pv_assign rfl rfl) rfl rfl ?_) | (show AWL _ _ _ (⟨_, .binOp .lss _ _ _ _, _, _, _, _⟩ :: _) _ _ _; refine awl_pw (wt_none rfl) (pv_lss rfl rfl rfl) rfl rfl ?_) | refine awl_nil ?_)
    exact body_r (h' := [.ob o]) (.cons rfl .nil) (by solve | repeat' constructor) ⟨rfl, rfl⟩
  have hfr := hv.frm k hlt
  have hto := hv.to k hlt
  have hbk := hb k hlt
  have hac : ∀ h : Nat, -100000000 ≤ accN b.cons f k h ∧ accN b.cons f k h ≤ 100000000 := fun h => acc_small (by omega) (fun i hi => hb i (by omega))
  obtain ⟨jt, hjt⟩ : ∃ j : Nat, (b.cons.getD k default).to = j := ⟨(b.cons.getD k default).to.toNat, by omega⟩
  obtain ⟨jf, hjf⟩ : ∃ j : Nat, (b.cons.getD k default).frm = j := ⟨(b.cons.getD k default).frm.toNat, by omega⟩
  have hnk := hnum k hlt
  repeat (first | refine awp_seq ?_ | refine awp_block ?_ | refine awp_region_lit rfl ?_ | refine awp_skip ?_ | refine awp_cond_t rfl (by first | rfl | assumption | exact dT (by omega)) ?_ | (show AWL _ _ _ (⟨_, .move _, _, _, _, _⟩ :: _) _ _ _; refine awl_pw (wt_none rfl) (pv_move rfl rfl) rfl rfl ?_) | (show AWL _ _ _ (⟨_, .load _ _, _, _, _, _⟩ :: _) _ _ _; refine awl_lw (wt_none rfl) (lv_elt_ag T0 rfl rfl rfl rfl (by solve | repeat' constructor)) rfl rfl rfl ?_) | (show AWL _ _ _ (⟨_, .indexAddr _ _ _, _, _, _, _⟩ :: _) _ _ _; refine awl_pw (wt_none rfl) (pv_ix_t T0 rfl rfl rfl rfl (by omega) (by first | exact Int.toNat_natCast _ | rfl)) rfl rfl ?_) | (show AWL _ _ _ (⟨_, .binOp .lss _ _ _ _, _, _, _, _⟩ :: _) _ _ _; refine awl_pw (wt_none rfl) (pv_lss rfl rfl rfl) rfl rfl ?_) | refine awl_nil ?_)
  refine awl_hw (wt_none rfl) (st_alloc T0 rfl rfl rfl rfl (by simp only [Value.cells, List.toList_toArray, List.map_cons, List.map_nil]; rfl) ?_)
  intro g7
  repeat (first | refine awp_seq ?_ | refine awp_region_lit rfl ?_ | (show AWL _ _ _ (⟨_, .assign _, _, _, _, _⟩ :: _) _ _ _; refine awl_pw (wt_none rfl) (pv_assign rfl rfl) rfl rfl ?_) | (show AWL _ _ _ (⟨_, .store _ _ _, _, _, _, _⟩ :: _) _ _ _; refine awl_hw (wt_none rfl) (st_store T0 rfl rfl rfl rfl rfl (by first | assumption | (simp only [cellsA]; rfl)) rfl rfl rfl (by solve | repeat' constructor) (by solve | repeat' constructor) trivial ?_)) | refine awl_nil ?_)
  refine awl_hw (wt_none rfl) (st_call T0 (ends_p) rfl rfl rfl rfl (by first | exact callee_lit | exact callee_v | exact callee_fn | assumption) (by solve | repeat' constructor) (by first | rfl | assumption) rfl ?_)
  rintro _ rfl
  repeat (first | refine awp_block ?_ | (show AWL _ _ _ (⟨_, .move _, _, _, _, _⟩ :: _) _ _ _; refine awl_pw (wt_none rfl) (pv_move rfl rfl) rfl rfl ?_) | refine awl_nil ?_)
  refine awp_loop (fun m s h => ∃ (q : Nat), q ≤ 2 ∧ m = 2 - q ∧ s = [(1, fv), (5, .v (.slice (some ⟨ga, 0, none⟩) n n)), (6, intA k), (7, .v (ptrV g7)), (14, .t (consT cp b.cons)), (15, intA b.cons.length), (16, intA k), (21, endsA), (22, intA q)] ∧
    h = [.cl g7 83 [intA (b.cons.getD k default).frm, intA (b.cons.getD k default).to, intA (b.cons.getD k default).num, intA (b.cons.getD k default).price], .rw (.slice (some ⟨ga, 0, none⟩) n n) 3 1 (fRows (if q = 0 then accN b.cons f k else if q = 1 then midN b.cons f k else accN b.cons f (k + 1)) n), .ob o]) ?_ ⟨0, by omega, rfl, rfl, rfl⟩ (by first | ((repeat' (first | exact True.intro | refine ⟨rfl, ?_⟩)); all_goals fail) | fail) (by solve | repeat' constructor)
  rintro m s h ⟨q, hq, rfl, rfl, rfl⟩
  rcases (show q = 0 ∨ q = 1 ∨ q = 2 by omega) with rfl | rfl | rfl
  · rw [if_pos rfl]
    repeat (first | refine awp_seq ?_ | refine awp_block ?_ | refine awp_region_lit rfl ?_ | refine awp_skip ?_ | refine awp_cond_t rfl (by first | rfl | assumption | exact dT (by omega)) ?_ | (show AWL _ _ _ (⟨_, .index _ _ _, _, _, _, _⟩ :: _) _ _ _; refine awl_pw (wt_none rfl) (pv_index T0 rfl rfl rfl rfl rfl (by omega) (by first | rfl | (simp; rfl)) rfl (by first | exact .inl rfl | exact .inr rfl) rfl) rfl rfl ?_) | (show AWL _ _ _ (⟨_, .binOp .lss _ _ _ _, _, _, _, _⟩ :: _) _ _ _; refine awl_pw (wt_none rfl) (pv_lss rfl rfl rfl) rfl rfl ?_) | refine awl_nil ?_)
    refine awl_hw (wt_none rfl) (st_alloc T0 rfl rfl rfl rfl (by simp only [Value.cells, List.toList_toArray, List.map_cons, List.map_nil]; rfl) ?_)
    intro g9
    repeat (first | refine then_n ?_ | (show AWL _ _ _ (⟨_, .store _ _ _, _, _, _, _⟩ :: _) _ _ _; refine awl_hw (wt_none rfl) (st_store T0 rfl rfl rfl rfl rfl (by first | assumption | (simp only [cellsA]; rfl)) rfl rfl rfl (by solve | repeat' constructor) (by solve | repeat' constructor) trivial ?_)) | refine awl_nil ?_)
    refine awp_cutB _ (awp_weak (by first | ((repeat' (first | exact True.intro | refine ⟨rfl, ?_⟩)); all_goals fail) | fail) (by solve | repeat' constructor) (sums_8s (c := b.cons.getD k default) (fv := fv) (t14 := .t (consT cp b.cons)) (e21 := endsA) (l15 := b.cons.length) (q := 0) (g7 := g7) (g9 := g9) (ga := ga) (n := n) (k := k) (j := jf) (F := 106) (A := accN b.cons f k) (G := midN b.cons f k) (v := f k) (seller_v hjf) rfl hcal hg hnk (by omega) (by have := hac jf; omega) (by omega) (fun q hq => ?_) rfl)) ?_
    · show accN _ _ k q - _ = _
      by_cases e : q = jf
      · subst e; rw [if_pos hjf, if_pos rfl]; omega
      · rw [if_neg (by omega), if_neg e, Int.sub_zero]
    rintro s h ⟨rfl, rfl⟩
    repeat (first | refine awp_region_lit rfl ?_ | (show AWL _ _ _ (⟨_, .move _, _, _, _, _⟩ :: _) _ _ _; refine awl_pw (wt_none rfl) (pv_move rfl rfl) rfl rfl ?_) | (show AWL _ _ _ (⟨_, .binOp .add _ _ _ _, _, _, _, _⟩ :: _) _ _ _; refine awl_pw (wt_none rfl) (pv_add rfl rfl rfl (by first | assumption | exact wr64 (by omega))) rfl rfl ?_) | refine awl_nil ?_)
    refine rnd_n _ _ _ ?_ ⟨1, by omega, rfl, rfl, rfl⟩ (by first | ((repeat' (first | exact True.intro | refine ⟨rfl, ?_⟩)); all_goals fail) | fail) (by solve | repeat' constructor)
    omega
  · rw [if_neg (by omega), if_pos rfl]
    repeat (first | refine awp_seq ?_ | refine awp_block ?_ | refine awp_region_lit rfl ?_ | refine awp_skip ?_ | refine awp_cond_t rfl (by first | rfl | assumption | exact dT (by omega)) ?_ | (show AWL _ _ _ (⟨_, .index _ _ _, _, _, _, _⟩ :: _) _ _ _; refine awl_pw (wt_none rfl) (pv_index T0 rfl rfl rfl rfl rfl (by omega) (by first | rfl | (simp; rfl)) rfl (by first | exact .inl rfl | exact .inr rfl) rfl) rfl rfl ?_) | (show AWL _ _ _ (⟨_, .binOp .lss _ _ _ _, _, _, _, _⟩ :: _) _ _ _; refine awl_pw (wt_none rfl) (pv_lss rfl rfl rfl) rfl rfl ?_) | refine awl_nil ?_)
    refine awl_hw (wt_none rfl) (st_alloc T0 rfl rfl rfl rfl (by simp only [Value.cells, List.toList_toArray, List.map_cons, List.map_nil]; rfl) ?_)
    intro g9
    repeat (first | refine then_n ?_ | (show AWL _ _ _ (⟨_, .store _ _ _, _, _, _, _⟩ :: _) _ _ _; refine awl_hw (wt_none rfl) (st_store T0 rfl rfl rfl rfl rfl (by first | assumption | (simp only [cellsA]; rfl)) rfl rfl rfl (by solve | repeat' constructor) (by solve | repeat' constructor) trivial ?_)) | refine awl_nil ?_)
    refine awp_cutB _ (awp_weak (by first | ((repeat' (first | exact True.intro | refine ⟨rfl, ?_⟩)); all_goals fail) | fail) (by solve | repeat' constructor) (sums_8b (c := b.cons.getD k default) (fv := fv) (t14 := .t (consT cp b.cons)) (e21 := endsA) (l15 := b.cons.length) (q := 1) (g7 := g7) (g9 := g9) (ga := ga) (n := n) (k := k) (j := jt) (F := 107) (A := midN b.cons f k) (G := accN b.cons f (k + 1)) (v := f k) (buyer_v hjt) rfl hcal hg hnk (by omega) (by have := hac jt; unfold midN; split <;> omega) (by omega) (fun q hq => ?_) rfl)) ?_
    · show accN _ _ k q + _ - _ = _
      unfold midN
      by_cases e : q = jt
      · subst e; rw [if_pos hjt, if_pos rfl]; omega
      · rw [if_neg (by omega : ¬ (b.cons.getD k default).to = (q : Int)), if_neg e]; omega
    rintro s h ⟨rfl, rfl⟩
    repeat (first | refine awp_region_lit rfl ?_ | (show AWL _ _ _ (⟨_, .move _, _, _, _, _⟩ :: _) _ _ _; refine awl_pw (wt_none rfl) (pv_move rfl rfl) rfl rfl ?_) | (show AWL _ _ _ (⟨_, .binOp .add _ _ _ _, _, _, _, _⟩ :: _) _ _ _; refine awl_pw (wt_none rfl) (pv_add rfl rfl rfl (by first | assumption | exact wr64 (by omega))) rfl rfl ?_) | refine awl_nil ?_)
    refine rnd_n _ _ _ ?_ ⟨2, by omega, rfl, rfl, rfl⟩ (by first | ((repeat' (first | exact True.intro | refine ⟨rfl, ?_⟩)); all_goals fail) | fail) (by solve | repeat' constructor)
    omega
  · rw [if_neg (by omega), if_neg (by omega)]
    repeat (first | refine awp_seq ?_ | refine awp_region_lit rfl ?_ | refine awp_exit ?_ | refine awp_cond_f rfl (by first | rfl | assumption | exact dF (by omega)) ?_ | (show AWL _ _ _ (⟨_, .move _, _, _, _, _⟩ :: _) _ _ _; refine awl_pw (wt_none rfl) (pv_move rfl rfl) rfl rfl ?_) | (show AWL _ _ _ (⟨_, .binOp .add _ _ _ _, _, _, _, _⟩ :: _) _ _ _; refine awl_pw (wt_none rfl) (pv_add rfl rfl rfl (by first | assumption | exact wr64 (by omega))) rfl rfl ?_) | (show AWL _ _ _ (⟨_, .binOp .lss _ _ _ _, _, _, _, _⟩ :: _) _ _ _; refine awl_pw (wt_none rfl) (pv_lss rfl rfl rfl) rfl rfl ?_) | refine awl_nil ?_)
    refine rnd_n _ _ _ ?_ ⟨k + 1, hlt, rfl, rfl, rfl⟩ (by first | ((repeat' (first | exact True.intro | refine ⟨rfl, ?_⟩)); all_goals fail) | fail) (by solve | repeat' constructor)
    omega
end Go.Proofs.Ytilhflfbbfeakaa
end
section
namespace Go.Proofs.Ytilhflfbbfeakaa
open Go Go.RowKit Go.Tl
set_option linter.unusedVariables false
set_option linter.unusedSimpArgs false
set_option maxRecDepth 100000
set_option maxHeartbeats 4000000
attribute [local irreducible] AWP AWL AOp PV LV AWT AWE
def payF (b : BookD) (p : Int) (i : Nat) : Int := (b.cons.getD i default).num * ((b.cons.getD i default).price - p)
theorem pay_bd {x y p : Int} (h1 : 1 ≤ x ∧ x ≤ 100) (h2 : 1 ≤ y ∧ y ≤ 1000) (h3 : 1 ≤ p ∧ p ≤ 1000) : -1000000 ≤ x * (y - p) ∧ x * (y - p) ≤ 1000000 := by
  have a1 := Int.mul_le_mul_of_nonneg_left (show y - p ≤ 1000 by omega) (show 0 ≤ x by omega)
  have a2 := Int.mul_le_mul_of_nonneg_left (show -1000 ≤ y - p by omega) (show 0 ≤ x by omega)
  omega
theorem diff1_p (cp : Bool) (b : BookD) (g i : Nat) (hi : i < b.cons.length) (hl : b.cons.length ≤ 1000) : ACall Try.prog 90 [intA i, .v (ptrV g)] [.cl g 33 [intA b.houses, .t (consT cp b.cons)]] (fun r h' => r = intA (numF b i) ∧ h' = [.cl g 33 [intA b.houses, .t (consT cp b.cons)]]) := by
  refine acall_of_awp T0 Try.func90 rfl rfl rfl ?_
  repeat (first | refine awp_seq ?_ | refine awp_region_lit rfl ?_ | refine awp_ret ?_ | (show AWL _ _ _ (⟨_, .move _, _, _, _, _⟩ :: _) _ _ _; refine awl_pw (wt_none rfl) (pv_move rfl rfl) rfl rfl ?_) | (show AWL _ _ _ (⟨_, .assign _, _, _, _, _⟩ :: _) _ _ _; refine awl_pw (wt_none rfl) (pv_assign rfl rfl) rfl rfl ?_) | (show AWL _ _ _ (⟨_, .load _ _, _, _, _, _⟩ :: _) _ _ _; refine awl_lw (wt_none rfl) (lv_cl1 T0 rfl rfl rfl (by solve | repeat' constructor) (by first | rfl | assumption)) rfl rfl rfl ?_) | (show AWL _ _ _ (⟨_, .load _ _, _, _, _, _⟩ :: _) _ _ _; refine awl_lw (wt_none rfl) (lv_elt_sc T0 rfl rfl rfl rfl) rfl rfl rfl ?_) | (show AWL _ _ _ (⟨_, .fieldAddr _ _ _, _, _, _, _⟩ :: _) _ _ _; refine awl_pw (wt_none rfl) (pv_fa T0 rfl rfl rfl (by simp; rfl)) rfl rfl ?_) | (show AWL _ _ _ (⟨_, .fieldAddr _ _ _, _, _, _, _⟩ :: _) _ _ _; refine awl_pw (wt_none rfl) (pv_fa_elt T0 rfl rfl rfl (by simp; rfl)) rfl rfl ?_) | (show AWL _ _ _ (⟨_, .indexAddr _ _ _, _, _, _, _⟩ :: _) _ _ _; refine awl_pw (wt_none rfl) (pv_ix_t T0 rfl rfl rfl rfl (by omega) (by first | exact Int.toNat_natCast _ | rfl)) rfl rfl ?_) | refine awl_nil ?_)
  exact body_r (h' := [.cl g 33 [intA b.houses, .t (consT cp b.cons)]]) (.cons rfl .nil) (by solve | repeat' constructor) ⟨rfl, rfl⟩
theorem difs_p (cp : Bool) (b : BookD) (hv : VBook b) : PCall Try.prog 55 [bookA cp b] (fun r => r = .t (intsT true (netL b (numF b)))) := by
  have hlen := hv.len
  refine acall_of_awp T0 Try.func55 rfl rfl rfl ?_
  repeat (first | refine awp_seq ?_ | refine awp_region_lit rfl ?_)
  refine awl_hw (wt_none rfl) (st_box rfl rfl (by first | rfl | assumption) (by first | assumption | (simp only [cellsA]; rfl)) rfl rfl ?_)
  intro g1
  repeat (first | refine awp_seq ?_ | refine awp_region_lit rfl ?_ | (show AWL _ _ _ (⟨_, .assign _, _, _, _, _⟩ :: _) _ _ _; refine awl_pw (wt_none rfl) (pv_assign rfl rfl) rfl rfl ?_) | (show AWL _ _ _ (⟨_, .load _ _, _, _, _, _⟩ :: _) _ _ _; refine awl_lw (wt_none rfl) (lv_cla T0 rfl rfl rfl (by solve | repeat' constructor) rfl) rfl rfl rfl ?_) | refine awl_nil ?_)
  refine awl_pw (wt_none rfl) (pv_makeFunc_v (fs := []) (cs := [ptrV g1]) rfl rfl rfl) rfl rfl ?_
  refine awl_hw (wt_none rfl) (st_acall T0 (acall_unpack (sums_p (o := packOb [.cl g1 33 [intA b.houses, .t (consT cp b.cons)]]) (f := numF b) (fsN := []) (csN := [.v (ptrV g1)]) (gN := 90) (fv := .v (.func (.func 90) #[] #[ptrV g1])) cp b hv (callee_v (a := []) (b := [ptrV g1])) rfl (fun i hi => by have := hv.num i hi; unfold numF; omega) (fun i hi => acall_pack (diff1_p cp b g1 i hi (by omega))))) rfl rfl rfl rfl (by first | exact callee_lit | exact callee_v | exact callee_fn | assumption) (by solve | repeat' constructor) (by first | rfl | assumption) rfl (by first | ((repeat' (first | exact SubH.refl _ | apply SubH.cons | exact Pick.here | apply Pick.there)); all_goals fail) | fail) (fun _ _ => trivial) ?_)
  rintro r h ⟨rfl, rfl⟩
  repeat (first | refine awp_ret ?_ | (show AWL _ _ _ (⟨_, .assign _, _, _, _, _⟩ :: _) _ _ _; refine awl_pw (wt_none rfl) (pv_assign rfl rfl) rfl rfl ?_) | refine awl_nil ?_)
  exact body_p (.cons rfl .nil) rfl
/-- what Differences returns -/
def difA (b : BookD) : AV := if faultN b = 0 then .tup [.t (intsT true (netL b (numF b))), intA 0] else .tup [noneA, intA (faultN b)]
theorem differences_p (cp : Bool) (b : BookD) (hl : b.cons.length ≤ 1000) : PCall Try.prog 18 [bookA cp b] (fun r => r = difA b) := by
  refine acall_of_awp T0 Try.func18 rfl rfl rfl ?_
  unfold difA
  repeat (first | refine awp_seq ?_ | refine awp_region_lit rfl ?_)
  refine awl_hw (wt_none rfl) (st_box rfl rfl (by first | rfl | assumption) (by first | assumption | (simp only [cellsA]; rfl)) rfl rfl ?_)
  intro g1
  repeat (first | refine awp_seq ?_ | refine awp_region_lit rfl ?_ | (show AWL _ _ _ (⟨_, .assign _, _, _, _, _⟩ :: _) _ _ _; refine awl_pw (wt_none rfl) (pv_assign rfl rfl) rfl rfl ?_) | (show AWL _ _ _ (⟨_, .load _ _, _, _, _, _⟩ :: _) _ _ _; refine awl_lw (wt_none rfl) (lv_cla T0 rfl rfl rfl (by solve | repeat' constructor) rfl) rfl rfl rfl ?_) | refine awl_nil ?_)
  refine awl_hw (wt_none rfl) (st_call T0 (check_p cp b hl) rfl rfl rfl rfl (by first | exact callee_lit | exact callee_v | exact callee_fn | assumption) (by solve | repeat' constructor) (by first | rfl | assumption) rfl ?_)
  rintro _ rfl
  by_cases hf : faultN b = 0
  case neg =>
    have d1 : decide (faultN b ≠ 0) = true := decide_eq_true hf
    repeat (first | refine awp_seq ?_ | refine awp_region_lit rfl ?_ | refine awp_ret ?_ | refine then_n ?_ | refine then_r ?_ | refine awp_cond_t rfl (by first | rfl | assumption | exact dT (by omega)) ?_ | (show AWL _ _ _ (⟨_, .move _, _, _, _, _⟩ :: _) _ _ _; refine awl_pw (wt_none rfl) (pv_move rfl rfl) rfl rfl ?_) | (show AWL _ _ _ (⟨_, .assign _, _, _, _, _⟩ :: _) _ _ _; refine awl_pw (wt_none rfl) (pv_assign rfl rfl) rfl rfl ?_) | (show AWL _ _ _ (⟨_, .binOp .neq _ _ _ _, _, _, _, _⟩ :: _) _ _ _; refine awl_pw (wt_none rfl) (pv_neq rfl rfl rfl) rfl rfl ?_) | refine awl_nil ?_)
    refine body_p (.cons rfl (.cons rfl .nil)) ?_
    rw [if_neg hf]; rfl
  rw [if_pos hf, hf]
  repeat (first | refine awp_seq ?_ | refine awp_region_lit rfl ?_ | refine awp_skip ?_ | refine then_n ?_ | refine awp_cond_f rfl (by first | rfl | assumption | exact dF (by omega)) ?_ | (show AWL _ _ _ (⟨_, .move _, _, _, _, _⟩ :: _) _ _ _; refine awl_pw (wt_none rfl) (pv_move rfl rfl) rfl rfl ?_) | (show AWL _ _ _ (⟨_, .assign _, _, _, _, _⟩ :: _) _ _ _; refine awl_pw (wt_none rfl) (pv_assign rfl rfl) rfl rfl ?_) | (show AWL _ _ _ (⟨_, .load _ _, _, _, _, _⟩ :: _) _ _ _; refine awl_lw (wt_none rfl) (lv_cla T0 rfl rfl rfl (by solve | repeat' constructor) rfl) rfl rfl rfl ?_) | (show AWL _ _ _ (⟨_, .binOp .neq _ _ _ _, _, _, _, _⟩ :: _) _ _ _; refine awl_pw (wt_none rfl) (pv_neq rfl rfl rfl) rfl rfl ?_) | refine awl_nil ?_)
  refine awl_hw (wt_none rfl) (st_call T0 (difs_p cp b (vbook hf)) rfl rfl rfl rfl (by first | exact callee_lit | exact callee_v | exact callee_fn | assumption) (by solve | repeat' constructor) (by first | rfl | assumption) rfl ?_)
  rintro _ rfl
  repeat (first | refine awp_ret ?_ | (show AWL _ _ _ (⟨_, .assign _, _, _, _, _⟩ :: _) _ _ _; refine awl_pw (wt_none rfl) (pv_assign rfl rfl) rfl rfl ?_) | refine awl_nil ?_)
  exact body_p (.cons rfl (.cons rfl .nil)) rfl
theorem settled_q {p : Int} {r : Bool} (h : inB p 1 1000 = r) : PCall Try.prog 56 [intA p] (fun x => x = boolA r) := by
  refine acall_of_awp T0 Try.func56 rfl rfl rfl ?_
  repeat (first | refine awp_seq ?_ | refine awp_region_lit rfl ?_ | (show AWL _ _ _ (⟨_, .move _, _, _, _, _⟩ :: _) _ _ _; refine awl_pw (wt_none rfl) (pv_move rfl rfl) rfl rfl ?_) | (show AWL _ _ _ (⟨_, .assign _, _, _, _, _⟩ :: _) _ _ _; refine awl_pw (wt_none rfl) (pv_assign rfl rfl) rfl rfl ?_) | refine awl_nil ?_)
  refine awl_hw (wt_none rfl) (st_call T0 (within_q h) rfl rfl rfl rfl (by first | exact callee_lit | exact callee_v | exact callee_fn | assumption) (by solve | repeat' constructor) (by first | rfl | assumption) rfl ?_)
  rintro _ rfl
  repeat (first | refine awp_ret ?_ | (show AWL _ _ _ (⟨_, .assign _, _, _, _, _⟩ :: _) _ _ _; refine awl_pw (wt_none rfl) (pv_assign rfl rfl) rfl rfl ?_) | refine awl_nil ?_)
  exact body_p (.cons rfl .nil) rfl
theorem paid_p (c : ConD) (p : Int) (h1 : 1 ≤ c.num ∧ c.num ≤ 100) (h2 : 1 ≤ c.price ∧ c.price ≤ 1000) (h3 : 1 ≤ p ∧ p ≤ 1000) : PCall Try.prog 59 [conA c, intA p] (fun r => r = intA (c.num * (c.price - p))) := by
  have hb := pay_bd h1 h2 h3
  refine acall_of_awp T0 Try.func59 rfl rfl rfl ?_
  repeat (first | refine awp_seq ?_ | refine awp_region_lit rfl ?_)
  refine awl_hw (wt_none rfl) (st_box rfl rfl (by first | rfl | assumption) (by first | assumption | (simp only [cellsA]; rfl)) rfl rfl ?_)
  intro g2
  repeat (first | refine awp_seq ?_ | refine awp_region_lit rfl ?_ | refine awp_ret ?_ | (show AWL _ _ _ (⟨_, .move _, _, _, _, _⟩ :: _) _ _ _; refine awl_pw (wt_none rfl) (pv_move rfl rfl) rfl rfl ?_) | (show AWL _ _ _ (⟨_, .assign _, _, _, _, _⟩ :: _) _ _ _; refine awl_pw (wt_none rfl) (pv_assign rfl rfl) rfl rfl ?_) | (show AWL _ _ _ (⟨_, .load _ _, _, _, _, _⟩ :: _) _ _ _; refine awl_lw (wt_none rfl) (lv_cl1 T0 rfl rfl rfl (by solve | repeat' constructor) (by first | rfl | assumption)) rfl rfl rfl ?_) | (show AWL _ _ _ (⟨_, .fieldAddr _ _ _, _, _, _, _⟩ :: _) _ _ _; refine awl_pw (wt_none rfl) (pv_fa T0 rfl rfl rfl (by simp; rfl)) rfl rfl ?_) | (show AWL _ _ _ (⟨_, .binOp .sub _ _ _ _, _, _, _, _⟩ :: _) _ _ _; refine awl_pw (wt_none rfl) (pv_sub rfl rfl rfl (by first | assumption | exact wr64 (by omega))) rfl rfl ?_) | (show AWL _ _ _ (⟨_, .binOp .mul _ _ _ _, _, _, _, _⟩ :: _) _ _ _; refine awl_pw (wt_none rfl) (pv_mul rfl rfl rfl (by first | assumption | exact wr64 (by omega))) rfl rfl ?_) | refine awl_nil ?_)
  exact body_p (.cons rfl .nil) rfl
theorem money1_p (cp : Bool) (b : BookD) (p : Int) (g gp i : Nat) (hi : i < b.cons.length) (hv : VBook b) (h3 : 1 ≤ p ∧ p ≤ 1000) : ACall Try.prog 58 [intA i, .v (ptrV g), .v (ptrV gp)] [.cl g 33 [intA b.houses, .t (consT cp b.cons)], .cl gp 3 [intA p]]
    (fun r h' => r = intA (-(payF b p i)) ∧ h' = [.cl g 33 [intA b.houses, .t (consT cp b.cons)], .cl gp 3 [intA p]]) := by
  have hlen := hv.len
  have hb := pay_bd (hv.num i hi) (hv.price i hi) h3
  refine acall_of_awp T0 Try.func58 rfl rfl rfl ?_
  unfold payF
  repeat (first | refine awp_seq ?_ | refine awp_region_lit rfl ?_ | (show AWL _ _ _ (⟨_, .assign _, _, _, _, _⟩ :: _) _ _ _; refine awl_pw (wt_none rfl) (pv_assign rfl rfl) rfl rfl ?_) | refine awl_nil ?_)
  refine awp_tree T0 [(0, 0), (1, 1), (2, 0), (3, 0), (4, 1), (5, 1), (6, 3), (7, 0), (8, 0)] (.op 0 0 (.op 1 1 (.op 2 0 (.op 3 0 (.op 4 1 (.op 5 1 (.op 6 3 (.op 7 0 (.op 8 0 .stop))))))))) _ rfl (by kernel_rfl) (SubH.refl _) ?_
  refine awt_po rfl (wt_none rfl) (pv_fa T0 rfl rfl rfl (by simp; rfl)) rfl rfl ?_
  refine awt_lo rfl (wt_none rfl) (lv_cl1 T0 rfl rfl rfl (by solve | repeat' constructor) (by first | rfl | assumption)) rfl rfl rfl ?_
  refine awt_po rfl (wt_none rfl) (pv_move rfl rfl) rfl rfl ?_
  refine awt_po rfl (wt_none rfl) (pv_ix_t T0 rfl rfl rfl rfl (by omega) (by first | exact Int.toNat_natCast _ | rfl)) rfl rfl ?_
  refine awt_lo rfl (wt_none rfl) (lv_elt_ag T0 rfl rfl rfl rfl (by solve | repeat' constructor)) rfl rfl rfl ?_
  refine awt_lo rfl (wt_none rfl) (lv_cl1 T0 rfl rfl rfl (by solve | repeat' constructor) (by first | rfl | assumption)) rfl rfl rfl ?_
  refine awt_s (md := fun _ => True) rfl (wt_none rfl) (st_call T0 (paid_p (b.cons.getD i default) p (hv.num i hi) (hv.price i hi) h3) rfl rfl rfl rfl (by first | exact callee_lit | exact callee_v | exact callee_fn | assumption) (by solve | repeat' constructor) (by first | rfl | assumption) rfl ?_)
  rintro _ rfl
  refine awe_p rfl (wt_none rfl) (pv_neg rfl rfl (wr64 (by omega))) rfl rfl ?_
  refine awe_p rfl (wt_none rfl) (pv_assign rfl rfl) rfl rfl ?_
  refine awe_end ?_
  repeat (first | refine awp_ret ?_)
  exact body_r (h' := [.cl g 33 [intA b.houses, .t (consT cp b.cons)], .cl gp 3 [intA p]]) (.cons rfl .nil) (by solve | repeat' constructor) ⟨by show intA (0 - _) = _; rw [Int.zero_sub], rfl⟩
/-- what Money returns -/
def monA (b : BookD) (p : Int) : AV := if faultN b ≠ 0 then .tup [noneA, intA (faultN b)] else if inB p 1 1000 = false then .tup [noneA, intA 2] else .tup [.t (intsT true (netL b (fun i => -(payF b p i)))), intA 0]
theorem money_p (cp : Bool) (b : BookD) (p : Int) (hl : b.cons.length ≤ 1000) : PCall Try.prog 20 [bookA cp b, intA p] (fun r => r = monA b p) := by
  refine acall_of_awp T0 Try.func20 rfl rfl rfl ?_
  unfold monA
  repeat (first | refine awp_seq ?_ | refine awp_region_lit rfl ?_)
  refine awl_hw (wt_none rfl) (st_box rfl rfl (by first | rfl | assumption) (by first | assumption | (simp only [cellsA]; rfl)) rfl rfl ?_)
  intro g2
  skip
  refine awl_hw (wt_none rfl) (st_box rfl rfl (by first | rfl | assumption) (by first | assumption | (simp only [cellsA]; rfl)) rfl rfl ?_)
  intro g3
  repeat (first | refine awp_seq ?_ | refine awp_region_lit rfl ?_ | (show AWL _ _ _ (⟨_, .assign _, _, _, _, _⟩ :: _) _ _ _; refine awl_pw (wt_none rfl) (pv_assign rfl rfl) rfl rfl ?_) | (show AWL _ _ _ (⟨_, .load _ _, _, _, _, _⟩ :: _) _ _ _; refine awl_lw (wt_none rfl) (lv_cla T0 rfl rfl rfl (by solve | repeat' constructor) rfl) rfl rfl rfl ?_) | refine awl_nil ?_)
  refine awl_hw (wt_none rfl) (st_call T0 (check_p cp b hl) rfl rfl rfl rfl (by first | exact callee_lit | exact callee_v | exact callee_fn | assumption) (by solve | repeat' constructor) (by first | rfl | assumption) rfl ?_)
  rintro _ rfl
  by_cases hf : faultN b = 0
  case neg =>
    have d1 : decide (faultN b ≠ 0) = true := decide_eq_true hf
    repeat (first | refine awp_seq ?_ | refine awp_block ?_ | refine awp_region_lit rfl ?_ | refine awp_ret ?_ | refine then_n ?_ | refine then_r ?_ | refine blk_r ?_ | refine awp_cond_t rfl (by first | rfl | assumption | exact dT (by omega)) ?_ | (show AWL _ _ _ (⟨_, .move _, _, _, _, _⟩ :: _) _ _ _; refine awl_pw (wt_none rfl) (pv_move rfl rfl) rfl rfl ?_) | (show AWL _ _ _ (⟨_, .assign _, _, _, _, _⟩ :: _) _ _ _; refine awl_pw (wt_none rfl) (pv_assign rfl rfl) rfl rfl ?_) | (show AWL _ _ _ (⟨_, .binOp .neq _ _ _ _, _, _, _, _⟩ :: _) _ _ _; refine awl_pw (wt_none rfl) (pv_neq rfl rfl rfl) rfl rfl ?_) | refine awl_nil ?_)
    refine body_p (.cons rfl (.cons rfl .nil)) ?_
    rw [if_pos hf]; rfl
  rw [if_neg (by simpa using hf), hf]
  have hv := vbook hf
  repeat (first | refine awp_seq ?_ | refine awp_block ?_ | refine awp_region_lit rfl ?_ | refine then_n ?_ | refine awp_cond_f rfl (by first | rfl | assumption | exact dF (by omega)) ?_ | (show AWL _ _ _ (⟨_, .move _, _, _, _, _⟩ :: _) _ _ _; refine awl_pw (wt_none rfl) (pv_move rfl rfl) rfl rfl ?_) | (show AWL _ _ _ (⟨_, .assign _, _, _, _, _⟩ :: _) _ _ _; refine awl_pw (wt_none rfl) (pv_assign rfl rfl) rfl rfl ?_) | (show AWL _ _ _ (⟨_, .load _ _, _, _, _, _⟩ :: _) _ _ _; refine awl_lw (wt_none rfl) (lv_cl1 T0 rfl rfl rfl (by solve | repeat' constructor) (by first | rfl | assumption)) rfl rfl rfl ?_) | (show AWL _ _ _ (⟨_, .binOp .neq _ _ _ _, _, _, _, _⟩ :: _) _ _ _; refine awl_pw (wt_none rfl) (pv_neq rfl rfl rfl) rfl rfl ?_) | refine awl_nil ?_)
  cases hp : inB p 1 1000
  · refine awl_hw (wt_none rfl) (st_call T0 (settled_q hp) rfl rfl rfl rfl (by first | exact callee_lit | exact callee_v | exact callee_fn | assumption) (by solve | repeat' constructor) (by first | rfl | assumption) rfl ?_)
    rintro _ rfl
    repeat (first | refine awp_seq ?_ | refine awp_region_lit rfl ?_ | refine awp_ret ?_ | refine then_n ?_ | refine then_r ?_ | refine blk_r ?_ | refine awp_cond_t rfl (by first | rfl | assumption | exact dT (by omega)) ?_ | (show AWL _ _ _ (⟨_, .assign _, _, _, _, _⟩ :: _) _ _ _; refine awl_pw (wt_none rfl) (pv_assign rfl rfl) rfl rfl ?_) | (show AWL _ _ _ (⟨_, .unOp .not _ _, _, _, _, _⟩ :: _) _ _ _; refine awl_pw (wt_none rfl) (pv_not rfl rfl) rfl rfl ?_) | refine awl_nil ?_)
    exact body_p (.cons rfl (.cons rfl .nil)) rfl
  have hp' := inB_iff.1 hp
  refine awl_hw (wt_none rfl) (st_call T0 (settled_q hp) rfl rfl rfl rfl (by first | exact callee_lit | exact callee_v | exact callee_fn | assumption) (by solve | repeat' constructor) (by first | rfl | assumption) rfl ?_)
  rintro _ rfl
  repeat (first | refine awp_seq ?_ | refine awp_region_lit rfl ?_ | refine awp_skip ?_ | refine then_n ?_ | refine awp_cond_f rfl (by first | rfl | assumption | exact dF (by omega)) ?_ | (show AWL _ _ _ (⟨_, .assign _, _, _, _, _⟩ :: _) _ _ _; refine awl_pw (wt_none rfl) (pv_assign rfl rfl) rfl rfl ?_) | (show AWL _ _ _ (⟨_, .load _ _, _, _, _, _⟩ :: _) _ _ _; refine awl_lw (wt_none rfl) (lv_cla T0 rfl rfl rfl (by solve | repeat' constructor) rfl) rfl rfl rfl ?_) | (show AWL _ _ _ (⟨_, .unOp .not _ _, _, _, _, _⟩ :: _) _ _ _; refine awl_pw (wt_none rfl) (pv_not rfl rfl) rfl rfl ?_) | refine awl_nil ?_)
  refine awl_pw (wt_none rfl) (pv_makeFunc_v (fs := []) (cs := [ptrV g2, ptrV g3]) rfl rfl rfl) rfl rfl ?_
  refine awl_hw (wt_none rfl) (st_acall T0 (acall_unpack (sums_p (o := packOb [.cl g2 33 [intA b.houses, .t (consT cp b.cons)], .cl g3 3 [intA p]]) (f := fun i => -(payF b p i)) (fsN := []) (csN := [.v (ptrV g2), .v (ptrV g3)]) (gN := 58) (fv := .v (.func (.func 58) #[] #[ptrV g2, ptrV g3])) cp b hv (callee_v (a := []) (b := [ptrV g2, ptrV g3])) rfl (fun i hi => by have := pay_bd (hv.num i hi) (hv.price i hi) hp'; show _ ≤ -(_ * _) ∧ -(_ * _) ≤ _; omega) (fun i hi => acall_pack (money1_p cp b p g2 g3 i hi hv hp')))) rfl rfl rfl rfl (by first | exact callee_lit | exact callee_v | exact callee_fn | assumption) (by solve | repeat' constructor) (by first | rfl | assumption) rfl (by first | ((repeat' (first | exact SubH.refl _ | apply SubH.cons | exact Pick.here | apply Pick.there)); all_goals fail) | fail) (fun _ _ => trivial) ?_)
  rintro r h ⟨rfl, rfl⟩
  repeat (first | refine awp_ret ?_ | (show AWL _ _ _ (⟨_, .assign _, _, _, _, _⟩ :: _) _ _ _; refine awl_pw (wt_none rfl) (pv_assign rfl rfl) rfl rfl ?_) | refine awl_nil ?_)
  exact body_p (.cons rfl (.cons rfl .nil)) rfl
end Go.Proofs.Ytilhflfbbfeakaa
end
section
namespace Go.Tl
open Go Go.RowKit
set_option linter.unusedVariables false
theorem acall_unpack2 {P : Program} {g : Nat} {args : List AV} {hc : List Ent} {R : AV → List Ent → Prop} (C : ACall P g args [.ob (packOb hc)] (fun r h' => ∃ h1, R r h1 ∧ h' = .ob (packOb hc) :: h1)) : ACall P g args hc (fun r h' => ∃ h1, R r h1 ∧ h' = hc ++ h1) := fun w S vs h1 h2 h3 => by
  have h2' : HRel w S [.ob (packOb hc)] := pack_hrel (h := []) (by rwa [List.append_nil])
  have hown : ∀ b, Own [.ob (packOb hc)] b ↔ Own hc b := fun b => by have := own_pack (hc := hc) (h := []) (g := b); rwa [List.append_nil] at this
  refine (C w S vs h1 h2' h3).mono fun e w' ⟨v, S', r, h', e1, ⟨h1, hR, eh⟩, hvr, E, hlt, hr, hl⟩ => ?_
  subst eh
  refine ⟨v, S', r, _, e1, ⟨h1, hR, rfl⟩, hvr, ⟨E.os, E.tape, E.output, E.size, fun b hb hn => E.keep b hb (fun ho => hn ((hown b).1 ho)), E.stab, fun b hb => ?_⟩, hlt, unpack_hrel hr, fun e he g hg => ?_⟩
  · rcases E.new b hb with h | h | h
    · exact .inl h
    · exact .inr (.inl h)
    · exact .inr (.inr ((hown b).1 h))
  · obtain ⟨e2, he2, hg2⟩ := own_pack.2 ⟨e, he, hg⟩
    rcases hl e2 he2 g hg2 with h | h
    · exact .inl ((hown g).1 h)
    · exact .inr h
end Go.Tl
namespace Go.Proofs.Ytilhflfbbfeakaa
open Go Go.RowKit Go.Tl
set_option linter.unusedVariables false
set_option linter.unusedSimpArgs false
set_option maxRecDepth 100000
set_option maxHeartbeats 4000000
attribute [local irreducible] AWP AWL AOp PV LV AWT AWE
theorem sums_o {fv : AV} {gN : Nat} {fsN csN : List AV} {o : Ob} {f : Nat → Int} (cp : Bool) (b : BookD) (hv : VBook b) (hcal : Tl.Callee fv gN fsN csN) (hg : T0.fns.any gN.beq = true) (hb : ∀ i, i < b.cons.length → -1000000 ≤ f i ∧ f i ≤ 1000000)
    (hnum : ∀ i : Nat, i < b.cons.length → ACall Try.prog gN (fsN ++ [intA i] ++ csN) [.ob o] (fun r h' => r = intA (f i) ∧ h' = [.ob o])) :
    ACall Try.prog 57 [bookA cp b, fv] [.ob o] (fun r h' => ∃ h1, (∃ ga, r = .v (.slice (some ⟨ga, 0, none⟩) b.houses.toNat b.houses.toNat) ∧ h1 = [.rw (.slice (some ⟨ga, 0, none⟩) b.houses.toNat b.houses.toNat) 3 1 (fRows (accN b.cons f b.cons.length) b.houses.toNat)]) ∧ h' = .ob o :: h1) := by
  have hh := hv.houses
  obtain ⟨n, hn⟩ : ∃ n : Nat, b.houses = n := ⟨b.houses.toNat, by omega⟩
  have hlen := hv.len
  refine acall_of_awp T0 Try.func57 rfl rfl rfl ?_
  repeat (first | refine awp_seq ?_ | refine awp_region_lit rfl ?_)
  refine awl_hw (by first | exact wt_none rfl | exact wt_some' rfl rfl rfl rfl (by first | rfl | assumption | exact dT (by omega) | exact dF (by omega))) (st_box rfl rfl (by first | rfl | assumption) (by first | assumption | (simp only [cellsA]; rfl)) rfl rfl ?_)
  intro g2
  repeat (first | refine awp_seq ?_ | refine awp_region_lit rfl ?_ | ((first | (show AWL _ _ _ (⟨_, .assign _, _, _, _, _⟩ :: _) _ _ _; refine awl_pw ?w (pv_assign rfl rfl) rfl rfl ?_) | (show AWL _ _ _ (⟨_, .load _ _, _, _, _, _⟩ :: _) _ _ _; refine awl_lw ?w (lv_cl1 T0 rfl rfl rfl (by solve | repeat' constructor) (by first | rfl | assumption)) rfl rfl rfl ?_) | (show AWL _ _ _ (⟨_, .fieldAddr _ _ _, _, _, _, _⟩ :: _) _ _ _; refine awl_pw ?w (pv_fa T0 rfl rfl rfl (by simp; rfl)) rfl rfl ?_)); case w => first | exact wt_none rfl | exact wt_some' rfl rfl rfl rfl (by first | rfl | assumption | exact dT (by omega) | exact dF (by omega))) | refine awl_nil ?_)
  rw [hn]
  refine awl_hw (by first | exact wt_none rfl | exact wt_some' rfl rfl rfl rfl (by first | rfl | assumption | exact dT (by omega) | exact dF (by omega))) (aop_make T0 rfl rfl rfl rfl rfl rfl rfl rfl (by omega) rfl ?_)
  intro ga
  repeat (first | refine awp_seq ?_ | refine awp_block ?_ | refine awp_region_lit rfl ?_ | ((first | (show AWL _ _ _ (⟨_, .move _, _, _, _, _⟩ :: _) _ _ _; refine awl_pw ?w (pv_move rfl rfl) rfl rfl ?_) | (show AWL _ _ _ (⟨_, .assign _, _, _, _, _⟩ :: _) _ _ _; refine awl_pw ?w (pv_assign rfl rfl) rfl rfl ?_) | (show AWL _ _ _ (⟨_, .load _ _, _, _, _, _⟩ :: _) _ _ _; refine awl_lw ?w (lv_cl1 T0 rfl rfl rfl (by solve | repeat' constructor) (by first | rfl | assumption)) rfl rfl rfl ?_) | (show AWL _ _ _ (⟨_, .fieldAddr _ _ _, _, _, _, _⟩ :: _) _ _ _; refine awl_pw ?w (pv_fa T0 rfl rfl rfl (by simp; rfl)) rfl rfl ?_) | (show AWL _ _ _ (⟨_, .call ⟨.builtin .len, _, _⟩, _, _, _, _⟩ :: _) _ _ _; refine awl_pw ?w (pv_len_t T0 rfl rfl rfl) rfl rfl ?_)); case w => first | exact wt_none rfl | exact wt_some' rfl rfl rfl rfl (by first | rfl | assumption | exact dT (by omega) | exact dF (by omega))) | refine awl_nil ?_)
  rw [fRows_zero n b.cons f]
  refine awp_loop (fun m s h => ∃ (k : Nat), k ≤ b.cons.length ∧ m = b.cons.length - k ∧ s = [(1, fv), (5, .v (.slice (some ⟨ga, 0, none⟩) n n)), (14, .t (consT cp b.cons)), (15, intA b.cons.length), (16, intA k)] ∧ h = [.rw (.slice (some ⟨ga, 0, none⟩) n n) 3 1 (fRows (accN b.cons f k) n), .ob o]) ?_ ⟨0, Nat.zero_le _, rfl, rfl, rfl⟩ (by first | ((repeat' (first | exact True.intro | refine ⟨rfl, ?_⟩)); all_goals fail) | fail) (by solve | repeat' constructor)
  rintro m s h ⟨k, hk, rfl, rfl, rfl⟩
  by_cases hlt : k < b.cons.length
  case neg =>
    obtain rfl : k = b.cons.length := by omega
    repeat (first | refine awp_seq ?_ | refine awp_region_lit rfl ?_ | refine awp_exit ?_ | refine awp_ret ?_ | refine awp_cond_f rfl (by first | rfl | assumption | exact dF (by omega)) ?_ | ((first | (show AWL _ _ _ (⟨_, .move _, _, _, _, _⟩ :: _) _ _ _; refine awl_pw ?w (pv_move rfl rfl) rfl rfl ?_) | (show AWL _ _ _ (⟨_, .assign _, _, _, _, _⟩ :: _) _ _ _; refine awl_pw ?w (pv_assign rfl rfl) rfl rfl ?_) | (show AWL _ _ _ (⟨_, .binOp .lss _ _ _ _, _, _, _, _⟩ :: _) _ _ _; refine awl_pw ?w (pv_lss rfl rfl rfl) rfl rfl ?_)); case w => first | exact wt_none rfl | exact wt_some' rfl rfl rfl rfl (by first | rfl | assumption | exact dT (by omega) | exact dF (by omega))) | refine awl_nil ?_)
    rw [Int.toNat_natCast]
    exact body_r (h' := [.ob o, .rw (.slice (some ⟨ga, 0, none⟩) n n) 3 1 (fRows (accN b.cons f b.cons.length) n)]) (.cons rfl .nil) (by solve | repeat' constructor) ⟨_, ⟨ga, rfl, rfl⟩, rfl⟩
  have hfr := hv.frm k hlt
  have hto := hv.to k hlt
  have hbk := hb k hlt
  have hac : ∀ h : Nat, -100000000 ≤ accN b.cons f k h ∧ accN b.cons f k h ≤ 100000000 := fun h => acc_small (by omega) (fun i hi => hb i (by omega))
  obtain ⟨jt, hjt⟩ : ∃ j : Nat, (b.cons.getD k default).to = j := ⟨(b.cons.getD k default).to.toNat, by omega⟩
  obtain ⟨jf, hjf⟩ : ∃ j : Nat, (b.cons.getD k default).frm = j := ⟨(b.cons.getD k default).frm.toNat, by omega⟩
  have hnk := hnum k hlt
  repeat (first | refine awp_seq ?_ | refine awp_block ?_ | refine awp_region_lit rfl ?_ | refine awp_skip ?_ | refine awp_cond_t rfl (by first | rfl | assumption | exact dT (by omega)) ?_ | ((first | (show AWL _ _ _ (⟨_, .move _, _, _, _, _⟩ :: _) _ _ _; refine awl_pw ?w (pv_move rfl rfl) rfl rfl ?_) | (show AWL _ _ _ (⟨_, .load _ _, _, _, _, _⟩ :: _) _ _ _; refine awl_lw ?w (lv_elt_ag T0 rfl rfl rfl rfl (by solve | repeat' constructor)) rfl rfl rfl ?_) | (show AWL _ _ _ (⟨_, .indexAddr _ _ _, _, _, _, _⟩ :: _) _ _ _; refine awl_pw ?w (pv_ix_t T0 rfl rfl rfl rfl (by omega) (by first | exact Int.toNat_natCast _ | rfl)) rfl rfl ?_) | (show AWL _ _ _ (⟨_, .binOp .lss _ _ _ _, _, _, _, _⟩ :: _) _ _ _; refine awl_pw ?w (pv_lss rfl rfl rfl) rfl rfl ?_)); case w => first | exact wt_none rfl | exact wt_some' rfl rfl rfl rfl (by first | rfl | assumption | exact dT (by omega) | exact dF (by omega))) | refine awl_nil ?_)
  refine awl_hw (by first | exact wt_none rfl | exact wt_some' rfl rfl rfl rfl (by first | rfl | assumption | exact dT (by omega) | exact dF (by omega))) (st_alloc T0 rfl rfl rfl rfl (by simp only [Value.cells, List.toList_toArray, List.map_cons, List.map_nil]; rfl) ?_)
  intro g7
  repeat (first | refine awp_seq ?_ | refine awp_region_lit rfl ?_ | ((first | (show AWL _ _ _ (⟨_, .assign _, _, _, _, _⟩ :: _) _ _ _; refine awl_pw ?w (pv_assign rfl rfl) rfl rfl ?_)); case w => first | exact wt_none rfl | exact wt_some' rfl rfl rfl rfl (by first | rfl | assumption | exact dT (by omega) | exact dF (by omega))) | (show AWL _ _ _ (⟨_, .store _ _ _, _, _, _, _⟩ :: _) _ _ _; refine awl_hw (by first | exact wt_none rfl | exact wt_some' rfl rfl rfl rfl (by first | rfl | assumption | exact dT (by omega) | exact dF (by omega))) (st_store T0 rfl rfl rfl rfl rfl (by first | assumption | (simp only [cellsA]; rfl)) rfl rfl rfl (by solve | repeat' constructor) (by solve | repeat' constructor) trivial ?_)) | refine awl_nil ?_)
  refine awl_hw (by first | exact wt_none rfl | exact wt_some' rfl rfl rfl rfl (by first | rfl | assumption | exact dT (by omega) | exact dF (by omega))) (st_call T0 (ends_p) rfl rfl rfl rfl (by first | exact callee_lit | exact callee_v | exact callee_fn | assumption) (by solve | repeat' constructor) (by first | rfl | assumption) rfl ?_)
  rintro _ rfl
  repeat (first | refine awp_block ?_ | ((first | (show AWL _ _ _ (⟨_, .move _, _, _, _, _⟩ :: _) _ _ _; refine awl_pw ?w (pv_move rfl rfl) rfl rfl ?_)); case w => first | exact wt_none rfl | exact wt_some' rfl rfl rfl rfl (by first | rfl | assumption | exact dT (by omega) | exact dF (by omega))) | refine awl_nil ?_)
  refine awp_loop (fun m s h => ∃ (q : Nat), q ≤ 2 ∧ m = 2 - q ∧ s = [(1, fv), (5, .v (.slice (some ⟨ga, 0, none⟩) n n)), (6, intA k), (7, .v (ptrV g7)), (14, .t (consT cp b.cons)), (15, intA b.cons.length), (16, intA k), (21, endsA), (22, intA q)] ∧
    h = [.cl g7 83 [intA (b.cons.getD k default).frm, intA (b.cons.getD k default).to, intA (b.cons.getD k default).num, intA (b.cons.getD k default).price], .rw (.slice (some ⟨ga, 0, none⟩) n n) 3 1 (fRows (if q = 0 then accN b.cons f k else if q = 1 then midN b.cons f k else accN b.cons f (k + 1)) n), .ob o]) ?_ ⟨0, by omega, rfl, rfl, rfl⟩ (by first | ((repeat' (first | exact True.intro | refine ⟨rfl, ?_⟩)); all_goals fail) | fail) (by solve | repeat' constructor)
  rintro m s h ⟨q, hq, rfl, rfl, rfl⟩
  rcases (show q = 0 ∨ q = 1 ∨ q = 2 by omega) with rfl | rfl | rfl
  · rw [if_pos rfl]
    repeat (first | refine awp_seq ?_ | refine awp_block ?_ | refine awp_region_lit rfl ?_ | refine awp_skip ?_ | refine awp_cond_t rfl (by first | rfl | assumption | exact dT (by omega)) ?_ | ((first | (show AWL _ _ _ (⟨_, .index _ _ _, _, _, _, _⟩ :: _) _ _ _; refine awl_pw ?w (pv_index T0 rfl rfl rfl rfl rfl (by omega) (by first | rfl | (simp; rfl)) rfl (by first | exact .inl rfl | exact .inr rfl) rfl) rfl rfl ?_) | (show AWL _ _ _ (⟨_, .binOp .lss _ _ _ _, _, _, _, _⟩ :: _) _ _ _; refine awl_pw ?w (pv_lss rfl rfl rfl) rfl rfl ?_)); case w => first | exact wt_none rfl | exact wt_some' rfl rfl rfl rfl (by first | rfl | assumption | exact dT (by omega) | exact dF (by omega))) | refine awl_nil ?_)
    refine awl_hw (by first | exact wt_none rfl | exact wt_some' rfl rfl rfl rfl (by first | rfl | assumption | exact dT (by omega) | exact dF (by omega))) (st_alloc T0 rfl rfl rfl rfl (by simp only [Value.cells, List.toList_toArray, List.map_cons, List.map_nil]; rfl) ?_)
    intro g9
    repeat (first | refine then_n ?_ | (show AWL _ _ _ (⟨_, .store _ _ _, _, _, _, _⟩ :: _) _ _ _; refine awl_hw (by first | exact wt_none rfl | exact wt_some' rfl rfl rfl rfl (by first | rfl | assumption | exact dT (by omega) | exact dF (by omega))) (st_store T0 rfl rfl rfl rfl rfl (by first | assumption | (simp only [cellsA]; rfl)) rfl rfl rfl (by solve | repeat' constructor) (by solve | repeat' constructor) trivial ?_)) | refine awl_nil ?_)
    refine awp_cutB _ (awp_weak (by first | ((repeat' (first | exact True.intro | refine ⟨rfl, ?_⟩)); all_goals fail) | fail) (by solve | repeat' constructor) (sums_8s (c := b.cons.getD k default) (fv := fv) (t14 := .t (consT cp b.cons)) (e21 := endsA) (l15 := b.cons.length) (q := 0) (g7 := g7) (g9 := g9) (ga := ga) (n := n) (k := k) (j := jf) (F := 106) (A := accN b.cons f k) (G := midN b.cons f k) (v := f k) (seller_v hjf) rfl hcal hg hnk (by omega) (by have := hac jf; omega) (by omega) (fun q hq => ?_) rfl)) ?_
    · show accN _ _ k q - _ = _
      by_cases e : q = jf
      · subst e; rw [if_pos hjf, if_pos rfl]; omega
      · rw [if_neg (by omega), if_neg e, Int.sub_zero]
    rintro s h ⟨rfl, rfl⟩
    repeat (first | refine awp_region_lit rfl ?_ | ((first | (show AWL _ _ _ (⟨_, .move _, _, _, _, _⟩ :: _) _ _ _; refine awl_pw ?w (pv_move rfl rfl) rfl rfl ?_) | (show AWL _ _ _ (⟨_, .binOp .add _ _ _ _, _, _, _, _⟩ :: _) _ _ _; refine awl_pw ?w (pv_add rfl rfl rfl (by first | assumption | exact wr64 (by omega))) rfl rfl ?_)); case w => first | exact wt_none rfl | exact wt_some' rfl rfl rfl rfl (by first | rfl | assumption | exact dT (by omega) | exact dF (by omega))) | refine awl_nil ?_)
    refine rnd_n _ _ _ ?_ ⟨1, by omega, rfl, rfl, rfl⟩ (by first | ((repeat' (first | exact True.intro | refine ⟨rfl, ?_⟩)); all_goals fail) | fail) (by solve | repeat' constructor)
    omega
  · rw [if_neg (by omega), if_pos rfl]
    repeat (first | refine awp_seq ?_ | refine awp_block ?_ | refine awp_region_lit rfl ?_ | refine awp_skip ?_ | refine awp_cond_t rfl (by first | rfl | assumption | exact dT (by omega)) ?_ | ((first | (show AWL _ _ _ (⟨_, .index _ _ _, _, _, _, _⟩ :: _) _ _ _; refine awl_pw ?w (pv_index T0 rfl rfl rfl rfl rfl (by omega) (by first | rfl | (simp; rfl)) rfl (by first | exact .inl rfl | exact .inr rfl) rfl) rfl rfl ?_) | (show AWL _ _ _ (⟨_, .binOp .lss _ _ _ _, _, _, _, _⟩ :: _) _ _ _; refine awl_pw ?w (pv_lss rfl rfl rfl) rfl rfl ?_)); case w => first | exact wt_none rfl | exact wt_some' rfl rfl rfl rfl (by first | rfl | assumption | exact dT (by omega) | exact dF (by omega))) | refine awl_nil ?_)
    refine awl_hw (by first | exact wt_none rfl | exact wt_some' rfl rfl rfl rfl (by first | rfl | assumption | exact dT (by omega) | exact dF (by omega))) (st_alloc T0 rfl rfl rfl rfl (by simp only [Value.cells, List.toList_toArray, List.map_cons, List.map_nil]; rfl) ?_)
    intro g9
    repeat (first | refine then_n ?_ | (show AWL _ _ _ (⟨_, .store _ _ _, _, _, _, _⟩ :: _) _ _ _; refine awl_hw (by first | exact wt_none rfl | exact wt_some' rfl rfl rfl rfl (by first | rfl | assumption | exact dT (by omega) | exact dF (by omega))) (st_store T0 rfl rfl rfl rfl rfl (by first | assumption | (simp only [cellsA]; rfl)) rfl rfl rfl (by solve | repeat' constructor) (by solve | repeat' constructor) trivial ?_)) | refine awl_nil ?_)
    refine awp_cutB _ (awp_weak (by first | ((repeat' (first | exact True.intro | refine ⟨rfl, ?_⟩)); all_goals fail) | fail) (by solve | repeat' constructor) (sums_8b (c := b.cons.getD k default) (fv := fv) (t14 := .t (consT cp b.cons)) (e21 := endsA) (l15 := b.cons.length) (q := 1) (g7 := g7) (g9 := g9) (ga := ga) (n := n) (k := k) (j := jt) (F := 107) (A := midN b.cons f k) (G := accN b.cons f (k + 1)) (v := f k) (buyer_v hjt) rfl hcal hg hnk (by omega) (by have := hac jt; unfold midN; split <;> omega) (by omega) (fun q hq => ?_) rfl)) ?_
    · show accN _ _ k q + _ - _ = _
      unfold midN
      by_cases e : q = jt
      · subst e; rw [if_pos hjt, if_pos rfl]; omega
      · rw [if_neg (by omega : ¬ (b.cons.getD k default).to = (q : Int)), if_neg e]; omega
    rintro s h ⟨rfl, rfl⟩
    repeat (first | refine awp_region_lit rfl ?_ | ((first | (show AWL _ _ _ (⟨_, .move _, _, _, _, _⟩ :: _) _ _ _; refine awl_pw ?w (pv_move rfl rfl) rfl rfl ?_) | (show AWL _ _ _ (⟨_, .binOp .add _ _ _ _, _, _, _, _⟩ :: _) _ _ _; refine awl_pw ?w (pv_add rfl rfl rfl (by first | assumption | exact wr64 (by omega))) rfl rfl ?_)); case w => first | exact wt_none rfl | exact wt_some' rfl rfl rfl rfl (by first | rfl | assumption | exact dT (by omega) | exact dF (by omega))) | refine awl_nil ?_)
    refine rnd_n _ _ _ ?_ ⟨2, by omega, rfl, rfl, rfl⟩ (by first | ((repeat' (first | exact True.intro | refine ⟨rfl, ?_⟩)); all_goals fail) | fail) (by solve | repeat' constructor)
    omega
  · rw [if_neg (by omega), if_neg (by omega)]
    repeat (first | refine awp_seq ?_ | refine awp_region_lit rfl ?_ | refine awp_exit ?_ | refine awp_cond_f rfl (by first | rfl | assumption | exact dF (by omega)) ?_ | ((first | (show AWL _ _ _ (⟨_, .move _, _, _, _, _⟩ :: _) _ _ _; refine awl_pw ?w (pv_move rfl rfl) rfl rfl ?_) | (show AWL _ _ _ (⟨_, .binOp .add _ _ _ _, _, _, _, _⟩ :: _) _ _ _; refine awl_pw ?w (pv_add rfl rfl rfl (by first | assumption | exact wr64 (by omega))) rfl rfl ?_) | (show AWL _ _ _ (⟨_, .binOp .lss _ _ _ _, _, _, _, _⟩ :: _) _ _ _; refine awl_pw ?w (pv_lss rfl rfl rfl) rfl rfl ?_)); case w => first | exact wt_none rfl | exact wt_some' rfl rfl rfl rfl (by first | rfl | assumption | exact dT (by omega) | exact dF (by omega))) | refine awl_nil ?_)
    refine rnd_n _ _ _ ?_ ⟨k + 1, hlt, rfl, rfl, rfl⟩ (by first | ((repeat' (first | exact True.intro | refine ⟨rfl, ?_⟩)); all_goals fail) | fail) (by solve | repeat' constructor)
    omega

end Go.Proofs.Ytilhflfbbfeakaa
end
