/- Fails: its walk. -/
import Derived.Test.YtilhflfbbfeakaaRg
import Derived.Test.YtilhflfbbfeakaaTv
namespace Go.Tl
open Go Go.RowKit
set_option linter.unusedVariables false
theorem acall_unpack2 {P : Program} {g : Nat} {args : List AV} {hc : List Ent} {R : AV → List Ent → Prop} (C : ACall P g args [.ob (packOb hc)] (fun r h' => ∃ h1, R r h1 ∧ h' = .ob (packOb hc) :: h1)) : ACall P g args hc (fun r h' => ∃ h1, R r h1 ∧ h' = hc ++ h1) := fun w S vs h1 h2 h3 => by
  have h2' : HRel w S [.ob (packOb hc)] := pack_hrel (h := []) (by rwa [List.append_nil])
  have hown : ∀ b, Own [.ob (packOb hc)] b ↔ Own hc b := fun b => by have := own_pack (hc := hc) (h := []) (g := b); rwa [List.append_nil] at this
  refine (C w S vs h1 h2' h3).mono fun e w' ⟨v, S', r, h', e1, ⟨h1, hR, eh⟩, hvr, E, hlt, hr, hl⟩ => ?_
  subst eh
  refine ⟨v, S', r, _, e1, ⟨h1, hR, rfl⟩, hvr, ⟨E.os, E.tape, E.output, E.size, fun b hb hn => E.keep b hb (fun ho => hn ((hown b).1 ho)), E.stab, fun b hb => ?_⟩, hlt, unpack_hrel hr, fun e he g hg => ?_⟩
  · rcases E.new b hb with h | h | h
    · exact .inl h
    · exact .inr (.inl h)
    · exact .inr (.inr ((hown b).1 h))
  · obtain ⟨e2, he2, hg2⟩ := own_pack.2 ⟨e, he, hg⟩
    rcases hl e2 he2 g hg2 with h | h
    · exact .inl ((hown g).1 h)
    · exact .inr h
end Go.Tl
namespace Go.Proofs.Ytilhflfbbfeakaa
open Go Go.RowKit Go.Tl
set_option linter.unusedVariables false
set_option linter.unusedSimpArgs false
set_option maxRecDepth 100000
set_option maxHeartbeats 4000000
attribute [local irreducible] AWP AWL AOp PV LV AWT AWE
theorem sums_o {fv : AV} {gN : Nat} {fsN csN : List AV} {o : Ob} {f : Nat → Int} (cp : Bool) (b : BookD) (hv : VBook b) (hcal : Tl.Callee fv gN fsN csN) (hg : T0.fns.any gN.beq = true) (hb : ∀ i, i < b.cons.length → -1000000 ≤ f i ∧ f i ≤ 1000000)
    (hnum : ∀ i : Nat, i < b.cons.length → ACall Try.prog gN (fsN ++ [intA i] ++ csN) [.ob o] (fun r h' => r = intA (f i) ∧ h' = [.ob o])) :
    ACall Try.prog 57 [bookA cp b, fv] [.ob o] (fun r h' => ∃ h1, (∃ ga, r = .v (.slice (some ⟨ga, 0, none⟩) b.houses.toNat b.houses.toNat) ∧ h1 = [.rw (.slice (some ⟨ga, 0, none⟩) b.houses.toNat b.houses.toNat) 3 1 (fRows (accN b.cons f b.cons.length) b.houses.toNat)]) ∧ h' = .ob o :: h1) := by
  have hh := hv.houses
  obtain ⟨n, hn⟩ : ∃ n : Nat, b.houses = n := ⟨b.houses.toNat, by omega⟩
  have hlen := hv.len
  refine acall_of_awp T0 Try.func57 rfl rfl rfl ?_
  repeat (first | refine awp_seq ?_ | refine awp_region_lit rfl ?_)
  refine awl_hw (by first | exact wt_none rfl | exact wt_some' rfl rfl rfl rfl (by first | rfl | assumption | exact dT (by omega) | exact dF (by omega))) (st_box rfl rfl (by first | rfl | assumption) (by first | assumption | (simp only [cellsA]; rfl)) rfl rfl ?_)
  intro g2
  repeat (first | refine awp_seq ?_ | refine awp_region_lit rfl ?_ | ((first | (show AWL _ _ _ (⟨_, .assign _, _, _, _, _⟩ :: _) _ _ _; refine awl_pw ?w (pv_assign rfl rfl) rfl rfl ?_) | (show AWL _ _ _ (⟨_, .load _ _, _, _, _, _⟩ :: _) _ _ _; refine awl_lw ?w (lv_cl1 T0 rfl rfl rfl (by solve | repeat' constructor) (by first | rfl | assumption)) rfl rfl rfl ?_) | (show AWL _ _ _ (⟨_, .fieldAddr _ _ _, _, _, _, _⟩ :: _) _ _ _; refine awl_pw ?w (pv_fa T0 rfl rfl rfl (by simp; rfl)) rfl rfl ?_)); case w => first | exact wt_none rfl | exact wt_some' rfl rfl rfl rfl (by first | rfl | assumption | exact dT (by omega) | exact dF (by omega))) | refine awl_nil ?_)
  rw [hn]
  refine awl_hw (by first | exact wt_none rfl | exact wt_some' rfl rfl rfl rfl (by first | rfl | assumption | exact dT (by omega) | exact dF (by omega))) (aop_make T0 rfl rfl rfl rfl rfl rfl rfl rfl (by omega) rfl ?_)
  intro ga
  repeat (first | refine awp_seq ?_ | refine awp_block ?_ | refine awp_region_lit rfl ?_ | ((first | (show AWL _ _ _ (⟨_, .move _, _, _, _, _⟩ :: _) _ _ _; refine awl_pw ?w (pv_move rfl rfl) rfl rfl ?_) | (show AWL _ _ _ (⟨_, .assign _, _, _, _, _⟩ :: _) _ _ _; refine awl_pw ?w (pv_assign rfl rfl) rfl rfl ?_) | (show AWL _ _ _ (⟨_, .load _ _, _, _, _, _⟩ :: _) _ _ _; refine awl_lw ?w (lv_cl1 T0 rfl rfl rfl (by solve | repeat' constructor) (by first | rfl | assumption)) rfl rfl rfl ?_) | (show AWL _ _ _ (⟨_, .fieldAddr _ _ _, _, _, _, _⟩ :: _) _ _ _; refine awl_pw ?w (pv_fa T0 rfl rfl rfl (by simp; rfl)) rfl rfl ?_) | (show AWL _ _ _ (⟨_, .call ⟨.builtin .len, _, _⟩, _, _, _, _⟩ :: _) _ _ _; refine awl_pw ?w (pv_len_t T0 rfl rfl rfl) rfl rfl ?_)); case w => first | exact wt_none rfl | exact wt_some' rfl rfl rfl rfl (by first | rfl | assumption | exact dT (by omega) | exact dF (by omega))) | refine awl_nil ?_)
  rw [fRows_zero n b.cons f]
  refine awp_loop (fun m s h => ∃ (k : Nat), k ≤ b.cons.length ∧ m = b.cons.length - k ∧ s = [(1, fv), (5, .v (.slice (some ⟨ga, 0, none⟩) n n)), (14, .t (consT cp b.cons)), (15, intA b.cons.length), (16, intA k)] ∧ h = [.rw (.slice (some ⟨ga, 0, none⟩) n n) 3 1 (fRows (accN b.cons f k) n), .ob o]) ?_ ⟨0, Nat.zero_le _, rfl, rfl, rfl⟩ (by first | ((repeat' (first | exact True.intro | refine ⟨rfl, ?_⟩)); all_goals fail) | fail) (by solve | repeat' constructor)
  rintro m s h ⟨k, hk, rfl, rfl, rfl⟩
  by_cases hlt : k < b.cons.length
  case neg =>
    obtain rfl : k = b.cons.length := by omega
    repeat (first | refine awp_seq ?_ | refine awp_region_lit rfl ?_ | refine awp_exit ?_ | refine awp_ret ?_ | refine awp_cond_f rfl (by first | rfl | assumption | exact dF (by omega)) ?_ | ((first | (show AWL _ _ _ (⟨_, .move _, _, _, _, _⟩ :: _) _ _ _; refine awl_pw ?w (pv_move rfl rfl) rfl rfl ?_) | (show AWL _ _ _ (⟨_, .assign _, _, _, _, _⟩ :: _) _ _ _; refine awl_pw ?w (pv_assign rfl rfl) rfl rfl ?_) | (show AWL _ _ _ (⟨_, .binOp .lss _ _ _ _, _, _, _, _⟩ :: _) _ _ _; refine awl_pw ?w (pv_lss rfl rfl rfl) rfl rfl ?_)); case w => first | exact wt_none rfl | exact wt_some' rfl rfl rfl rfl (by first | rfl | assumption | exact dT (by omega) | exact dF (by omega))) | refine awl_nil ?_)
    rw [Int.toNat_natCast]
    exact body_r (h' := [.ob o, .rw (.slice (some ⟨ga, 0, none⟩) n n) 3 1 (fRows (accN b.cons f b.cons.length) n)]) (.cons rfl .nil) (by solve | repeat' constructor) ⟨_, ⟨ga, rfl, rfl⟩, rfl⟩
  have hfr := hv.frm k hlt
  have hto := hv.to k hlt
  have hbk := hb k hlt
  have hac : ∀ h : Nat, -100000000 ≤ accN b.cons f k h ∧ accN b.cons f k h ≤ 100000000 := fun h => acc_small (by omega) (fun i hi => hb i (by omega))
  obtain ⟨jt, hjt⟩ : ∃ j : Nat, (b.cons.getD k default).to = j := ⟨(b.cons.getD k default).to.toNat, by omega⟩
  obtain ⟨jf, hjf⟩ : ∃ j : Nat, (b.cons.getD k default).frm = j := ⟨(b.cons.getD k default).frm.toNat, by omega⟩
  have hnk := hnum k hlt
  repeat (first | refine awp_seq ?_ | refine awp_block ?_ | refine awp_region_lit rfl ?_ | refine awp_skip ?_ | refine awp_cond_t rfl (by first | rfl | assumption | exact dT (by omega)) ?_ | ((first | (show AWL _ _ _ (⟨_, .move _, _, _, _, _⟩ :: _) _ _ _; refine awl_pw ?w (pv_move rfl rfl) rfl rfl ?_) | (show AWL _ _ _ (⟨_, .load _ _, _, _, _, _⟩ :: _) _ _ _; refine awl_lw ?w (lv_elt_ag T0 rfl rfl rfl rfl (by solve | repeat' constructor)) rfl rfl rfl ?_) | (show AWL _ _ _ (⟨_, .indexAddr _ _ _, _, _, _, _⟩ :: _) _ _ _; refine awl_pw ?w (pv_ix_t T0 rfl rfl rfl rfl (by omega) (by first | exact Int.toNat_natCast _ | rfl)) rfl rfl ?_) | (show AWL _ _ _ (⟨_, .binOp .lss _ _ _ _, _, _, _, _⟩ :: _) _ _ _; refine awl_pw ?w (pv_lss rfl rfl rfl) rfl rfl ?_)); case w => first | exact wt_none rfl | exact wt_some' rfl rfl rfl rfl (by first | rfl | assumption | exact dT (by omega) | exact dF (by omega))) | refine awl_nil ?_)
  refine awl_hw (by first | exact wt_none rfl | exact wt_some' rfl rfl rfl rfl (by first | rfl | assumption | exact dT (by omega) | exact dF (by omega))) (st_alloc T0 rfl rfl rfl rfl (by simp only [Value.cells, List.toList_toArray, List.map_cons, List.map_nil]; rfl) ?_)
  intro g7
  repeat (first | refine awp_seq ?_ | refine awp_region_lit rfl ?_ | ((first | (show AWL _ _ _ (⟨_, .assign _, _, _, _, _⟩ :: _) _ _ _; refine awl_pw ?w (pv_assign rfl rfl) rfl rfl ?_)); case w => first | exact wt_none rfl | exact wt_some' rfl rfl rfl rfl (by first | rfl | assumption | exact dT (by omega) | exact dF (by omega))) | (show AWL _ _ _ (⟨_, .store _ _ _, _, _, _, _⟩ :: _) _ _ _; refine awl_hw (by first | exact wt_none rfl | exact wt_some' rfl rfl rfl rfl (by first | rfl | assumption | exact dT (by omega) | exact dF (by omega))) (st_store T0 rfl rfl rfl rfl rfl (by first | assumption | (simp only [cellsA]; rfl)) rfl rfl rfl (by solve | repeat' constructor) (by solve | repeat' constructor) trivial ?_)) | refine awl_nil ?_)
  refine awl_hw (by first | exact wt_none rfl | exact wt_some' rfl rfl rfl rfl (by first | rfl | assumption | exact dT (by omega) | exact dF (by omega))) (st_call T0 (ends_p) rfl rfl rfl rfl (by first | exact callee_lit | exact callee_v | exact callee_fn | assumption) (by solve | repeat' constructor) (by first | rfl | assumption) rfl ?_)
  rintro _ rfl
  repeat (first | refine awp_block ?_ | ((first | (show AWL _ _ _ (⟨_, .move _, _, _, _, _⟩ :: _) _ _ _; refine awl_pw ?w (pv_move rfl rfl) rfl rfl ?_)); case w => first | exact wt_none rfl | exact wt_some' rfl rfl rfl rfl (by first | rfl | assumption | exact dT (by omega) | exact dF (by omega))) | refine awl_nil ?_)
  refine awp_loop (fun m s h => ∃ (q : Nat), q ≤ 2 ∧ m = 2 - q ∧ s = [(1, fv), (5, .v (.slice (some ⟨ga, 0, none⟩) n n)), (6, intA k), (7, .v (ptrV g7)), (14, .t (consT cp b.cons)), (15, intA b.cons.length), (16, intA k), (21, endsA), (22, intA q)] ∧
    h = [.cl g7 83 [intA (b.cons.getD k default).frm, intA (b.cons.getD k default).to, intA (b.cons.getD k default).num, intA (b.cons.getD k default).price], .rw (.slice (some ⟨ga, 0, none⟩) n n) 3 1 (fRows (if q = 0 then accN b.cons f k else if q = 1 then midN b.cons f k else accN b.cons f (k + 1)) n), .ob o]) ?_ ⟨0, by omega, rfl, rfl, rfl⟩ (by first | ((repeat' (first | exact True.intro | refine ⟨rfl, ?_⟩)); all_goals fail) | fail) (by solve | repeat' constructor)
  rintro m s h ⟨q, hq, rfl, rfl, rfl⟩
  rcases (show q = 0 ∨ q = 1 ∨ q = 2 by omega) with rfl | rfl | rfl
  · rw [if_pos rfl]
    repeat (first | refine awp_seq ?_ | refine awp_block ?_ | refine awp_region_lit rfl ?_ | refine awp_skip ?_ | refine awp_cond_t rfl (by first | rfl | assumption | exact dT (by omega)) ?_ | ((first | (show AWL _ _ _ (⟨_, .index _ _ _, _, _, _, _⟩ :: _) _ _ _; refine awl_pw ?w (pv_index T0 rfl rfl rfl rfl rfl (by omega) (by first | rfl | (simp; rfl)) rfl (by first | exact .inl rfl | exact .inr rfl) rfl) rfl rfl ?_) | (show AWL _ _ _ (⟨_, .binOp .lss _ _ _ _, _, _, _, _⟩ :: _) _ _ _; refine awl_pw ?w (pv_lss rfl rfl rfl) rfl rfl ?_)); case w => first | exact wt_none rfl | exact wt_some' rfl rfl rfl rfl (by first | rfl | assumption | exact dT (by omega) | exact dF (by omega))) | refine awl_nil ?_)
    refine awl_hw (by first | exact wt_none rfl | exact wt_some' rfl rfl rfl rfl (by first | rfl | assumption | exact dT (by omega) | exact dF (by omega))) (st_alloc T0 rfl rfl rfl rfl (by simp only [Value.cells, List.toList_toArray, List.map_cons, List.map_nil]; rfl) ?_)
    intro g9
    repeat (first | refine then_n ?_ | (show AWL _ _ _ (⟨_, .store _ _ _, _, _, _, _⟩ :: _) _ _ _; refine awl_hw (by first | exact wt_none rfl | exact wt_some' rfl rfl rfl rfl (by first | rfl | assumption | exact dT (by omega) | exact dF (by omega))) (st_store T0 rfl rfl rfl rfl rfl (by first | assumption | (simp only [cellsA]; rfl)) rfl rfl rfl (by solve | repeat' constructor) (by solve | repeat' constructor) trivial ?_)) | refine awl_nil ?_)
    refine awp_cutB _ (awp_weak (by first | ((repeat' (first | exact True.intro | refine ⟨rfl, ?_⟩)); all_goals fail) | fail) (by solve | repeat' constructor) (sums_8s (c := b.cons.getD k default) (fv := fv) (t14 := .t (consT cp b.cons)) (e21 := endsA) (l15 := b.cons.length) (q := 0) (g7 := g7) (g9 := g9) (ga := ga) (n := n) (k := k) (j := jf) (F := 106) (A := accN b.cons f k) (G := midN b.cons f k) (v := f k) (seller_v hjf) rfl hcal hg hnk (by omega) (by have := hac jf; omega) (by omega) (fun q hq => ?_) rfl)) ?_
    · show accN _ _ k q - _ = _
      by_cases e : q = jf
      · subst e; rw [if_pos hjf, if_pos rfl]; omega
      · rw [if_neg (by omega), if_neg e, Int.sub_zero]
    rintro s h ⟨rfl, rfl⟩
    repeat (first | refine awp_region_lit rfl ?_ | ((first | (show AWL _ _ _ (⟨_, .move _, _, _, _, _⟩ :: _) _ _ _; refine awl_pw ?w (pv_move rfl rfl) rfl rfl ?_) | (show AWL _ _ _ (⟨_, .binOp .add _ _ _ _, _, _, _, _⟩ :: _) _ _ _; refine awl_pw ?w (pv_add rfl rfl rfl (by first | assumption | exact wr64 (by omega))) rfl rfl ?_)); case w => first | exact wt_none rfl | exact wt_some' rfl rfl rfl rfl (by first | rfl | assumption | exact dT (by omega) | exact dF (by omega))) | refine awl_nil ?_)
    refine rnd_n _ _ _ ?_ ⟨1, by omega, rfl, rfl, rfl⟩ (by first | ((repeat' (first | exact True.intro | refine ⟨rfl, ?_⟩)); all_goals fail) | fail) (by solve | repeat' constructor)
    omega
  · rw [if_neg (by omega), if_pos rfl]
    repeat (first | refine awp_seq ?_ | refine awp_block ?_ | refine awp_region_lit rfl ?_ | refine awp_skip ?_ | refine awp_cond_t rfl (by first | rfl | assumption | exact dT (by omega)) ?_ | ((first | (show AWL _ _ _ (⟨_, .index _ _ _, _, _, _, _⟩ :: _) _ _ _; refine awl_pw ?w (pv_index T0 rfl rfl rfl rfl rfl (by omega) (by first | rfl | (simp; rfl)) rfl (by first | exact .inl rfl | exact .inr rfl) rfl) rfl rfl ?_) | (show AWL _ _ _ (⟨_, .binOp .lss _ _ _ _, _, _, _, _⟩ :: _) _ _ _; refine awl_pw ?w (pv_lss rfl rfl rfl) rfl rfl ?_)); case w => first | exact wt_none rfl | exact wt_some' rfl rfl rfl rfl (by first | rfl | assumption | exact dT (by omega) | exact dF (by omega))) | refine awl_nil ?_)
    refine awl_hw (by first | exact wt_none rfl | exact wt_some' rfl rfl rfl rfl (by first | rfl | assumption | exact dT (by omega) | exact dF (by omega))) (st_alloc T0 rfl rfl rfl rfl (by simp only [Value.cells, List.toList_toArray, List.map_cons, List.map_nil]; rfl) ?_)
    intro g9
    repeat (first | refine then_n ?_ | (show AWL _ _ _ (⟨_, .store _ _ _, _, _, _, _⟩ :: _) _ _ _; refine awl_hw (by first | exact wt_none rfl | exact wt_some' rfl rfl rfl rfl (by first | rfl | assumption | exact dT (by omega) | exact dF (by omega))) (st_store T0 rfl rfl rfl rfl rfl (by first | assumption | (simp only [cellsA]; rfl)) rfl rfl rfl (by solve | repeat' constructor) (by solve | repeat' constructor) trivial ?_)) | refine awl_nil ?_)
    refine awp_cutB _ (awp_weak (by first | ((repeat' (first | exact True.intro | refine ⟨rfl, ?_⟩)); all_goals fail) | fail) (by solve | repeat' constructor) (sums_8b (c := b.cons.getD k default) (fv := fv) (t14 := .t (consT cp b.cons)) (e21 := endsA) (l15 := b.cons.length) (q := 1) (g7 := g7) (g9 := g9) (ga := ga) (n := n) (k := k) (j := jt) (F := 107) (A := midN b.cons f k) (G := accN b.cons f (k + 1)) (v := f k) (buyer_v hjt) rfl hcal hg hnk (by omega) (by have := hac jt; unfold midN; split <;> omega) (by omega) (fun q hq => ?_) rfl)) ?_
    · show accN _ _ k q + _ - _ = _
      unfold midN
      by_cases e : q = jt
      · subst e; rw [if_pos hjt, if_pos rfl]; omega
      · rw [if_neg (by omega : ¬ (b.cons.getD k default).to = (q : Int)), if_neg e]; omega
    rintro s h ⟨rfl, rfl⟩
    repeat (first | refine awp_region_lit rfl ?_ | ((first | (show AWL _ _ _ (⟨_, .move _, _, _, _, _⟩ :: _) _ _ _; refine awl_pw ?w (pv_move rfl rfl) rfl rfl ?_) | (show AWL _ _ _ (⟨_, .binOp .add _ _ _ _, _, _, _, _⟩ :: _) _ _ _; refine awl_pw ?w (pv_add rfl rfl rfl (by first | assumption | exact wr64 (by omega))) rfl rfl ?_)); case w => first | exact wt_none rfl | exact wt_some' rfl rfl rfl rfl (by first | rfl | assumption | exact dT (by omega) | exact dF (by omega))) | refine awl_nil ?_)
    refine rnd_n _ _ _ ?_ ⟨2, by omega, rfl, rfl, rfl⟩ (by first | ((repeat' (first | exact True.intro | refine ⟨rfl, ?_⟩)); all_goals fail) | fail) (by solve | repeat' constructor)
    omega
  · rw [if_neg (by omega), if_neg (by omega)]
    repeat (first | refine awp_seq ?_ | refine awp_region_lit rfl ?_ | refine awp_exit ?_ | refine awp_cond_f rfl (by first | rfl | assumption | exact dF (by omega)) ?_ | ((first | (show AWL _ _ _ (⟨_, .move _, _, _, _, _⟩ :: _) _ _ _; refine awl_pw ?w (pv_move rfl rfl) rfl rfl ?_) | (show AWL _ _ _ (⟨_, .binOp .add _ _ _ _, _, _, _, _⟩ :: _) _ _ _; refine awl_pw ?w (pv_add rfl rfl rfl (by first | assumption | exact wr64 (by omega))) rfl rfl ?_) | (show AWL _ _ _ (⟨_, .binOp .lss _ _ _ _, _, _, _, _⟩ :: _) _ _ _; refine awl_pw ?w (pv_lss rfl rfl rfl) rfl rfl ?_)); case w => first | exact wt_none rfl | exact wt_some' rfl rfl rfl rfl (by first | rfl | assumption | exact dT (by omega) | exact dF (by omega))) | refine awl_nil ?_)
    refine rnd_n _ _ _ ?_ ⟨k + 1, hlt, rfl, rfl, rfl⟩ (by first | ((repeat' (first | exact True.intro | refine ⟨rfl, ?_⟩)); all_goals fail) | fail) (by solve | repeat' constructor)
    omega

theorem cidx_nil {fv : AV} {cap : Nat} {a : Option Addr} {e : Ent} : ACall Try.prog 92 [.v (.slice a 0 cap), fv] [e] (fun r h' => r = intA (-1) ∧ h' = [e]) := by
  refine acall_of_awp T0 Try.func92 rfl rfl rfl ?_
  repeat (first | refine awp_seq ?_ | refine awp_block ?_ | refine awp_region_lit rfl ?_ | ((first | (show AWL _ _ _ (⟨_, .move _, _, _, _, _⟩ :: _) _ _ _; refine awl_pw ?w (pv_move rfl rfl) rfl rfl ?_) | (show AWL _ _ _ (⟨_, .assign _, _, _, _, _⟩ :: _) _ _ _; refine awl_pw ?w (pv_assign rfl rfl) rfl rfl ?_) | (show AWL _ _ _ (⟨_, .call ⟨.builtin .len, _, _⟩, _, _, _, _⟩ :: _) _ _ _; refine awl_pw ?w (pv_len_v T0 rfl rfl rfl) rfl rfl ?_)); case w => first | exact wt_none rfl | exact wt_some' rfl rfl rfl rfl (by first | rfl | assumption | exact dT (by omega) | exact dF (by omega))) | refine awl_nil ?_)
  refine awp_loop (fun m s h => s = [(0, .v (.slice a 0 cap)), (1, fv), (7, intA (0 : Nat)), (8, intA (0 : Nat))] ∧ h = [e]) ?_ (n := 0) ⟨rfl, rfl⟩ (by first | ((repeat' (first | exact True.intro | refine ⟨rfl, ?_⟩)); all_goals fail) | fail) (by solve | repeat' constructor)
  rintro m s h ⟨rfl, rfl⟩
  repeat (first | refine awp_seq ?_ | refine awp_region_lit rfl ?_ | refine awp_exit ?_ | refine awp_ret ?_ | refine awp_cond_f rfl (by first | rfl | assumption | exact dF (by omega)) ?_ | ((first | (show AWL _ _ _ (⟨_, .assign _, _, _, _, _⟩ :: _) _ _ _; refine awl_pw ?w (pv_assign rfl rfl) rfl rfl ?_) | (show AWL _ _ _ (⟨_, .binOp .lss _ _ _ _, _, _, _, _⟩ :: _) _ _ _; refine awl_pw ?w (pv_lss rfl rfl rfl) rfl rfl ?_)); case w => first | exact wt_none rfl | exact wt_some' rfl rfl rfl rfl (by first | rfl | assumption | exact dT (by omega) | exact dF (by omega))) | refine awl_nil ?_)
  exact body_r (h' := [e]) (.cons rfl .nil) (by solve | repeat' constructor) ⟨rfl, rfl⟩
theorem del_nil {fv : AV} {cap : Nat} {a : Option Addr} {e : Ent} : ACall Try.prog 61 [.v (.slice a 0 cap), fv] [e] (fun r h' => r = .v (.slice a 0 cap) ∧ h' = [e]) := by
  refine acall_of_awp T0 Try.func61 rfl rfl rfl ?_
  have d1 : decide ((-1 : Int) = -1) = true := rfl
  repeat (first | refine awp_seq ?_ | refine awp_region_lit rfl ?_ | ((first | (show AWL _ _ _ (⟨_, .move _, _, _, _, _⟩ :: _) _ _ _; refine awl_pw ?w (pv_move rfl rfl) rfl rfl ?_) | (show AWL _ _ _ (⟨_, .assign _, _, _, _, _⟩ :: _) _ _ _; refine awl_pw ?w (pv_assign rfl rfl) rfl rfl ?_)); case w => first | exact wt_none rfl | exact wt_some' rfl rfl rfl rfl (by first | rfl | assumption | exact dT (by omega) | exact dF (by omega))) | refine awl_nil ?_)
  refine awl_hw (by first | exact wt_none rfl | exact wt_some' rfl rfl rfl rfl (by first | rfl | assumption | exact dT (by omega) | exact dF (by omega))) (st_acall T0 (cidx_nil) rfl rfl rfl rfl (by first | exact callee_lit | exact callee_v | exact callee_fn | assumption) (by solve | repeat' constructor) (by first | rfl | assumption) rfl (by first | ((repeat' (first | exact SubH.refl _ | apply SubH.cons | exact Pick.here | apply Pick.there)); all_goals fail) | fail) (fun _ _ => trivial) ?_)
  rintro r h ⟨rfl, rfl⟩
  repeat (first | refine awp_seq ?_ | refine awp_region_lit rfl ?_ | refine awp_ret ?_ | refine then_n ?_ | refine then_r ?_ | refine awp_cond_t rfl (by first | rfl | assumption | exact dT (by omega)) ?_ | ((first | (show AWL _ _ _ (⟨_, .move _, _, _, _, _⟩ :: _) _ _ _; refine awl_pw ?w (pv_move rfl rfl) rfl rfl ?_) | (show AWL _ _ _ (⟨_, .assign _, _, _, _, _⟩ :: _) _ _ _; refine awl_pw ?w (pv_assign rfl rfl) rfl rfl ?_) | (show AWL _ _ _ (⟨_, .binOp .eql _ _ _ _, _, _, _, _⟩ :: _) _ _ _; refine awl_pw ?w (pv_eql rfl rfl rfl) rfl rfl ?_)); case w => first | exact wt_none rfl | exact wt_some' rfl rfl rfl rfl (by first | rfl | assumption | exact dT (by omega) | exact dF (by omega))) | refine awl_nil ?_)
  exact body_r (h' := [e]) (.cons rfl .nil) (by solve | repeat' constructor) ⟨rfl, rfl⟩
/-- whether a contract is left out when a house fails -/
def delQ (house : Int) (c : ConD) : Bool := decide (c.frm ≠ house) && decide (c.to ≠ house)
def subB (b : BookD) (house : Int) : BookD := ⟨b.houses, b.cons.filter fun c => !delQ house c⟩
theorem fails1_p (c : ConD) (house : Int) (gh : Nat) : ACall Try.prog 63 [conA c, .v (ptrV gh)] [.cl gh 3 [intA house]] (fun r h' => r = boolA (delQ house c) ∧ h' = [.cl gh 3 [intA house]]) := by
  refine acall_of_awp T0 Try.func63 rfl rfl rfl ?_
  unfold delQ
  by_cases h1 : c.frm ≠ house
  · have d1 := decide_eq_true h1
    repeat (first | refine awp_seq ?_ | refine awp_region_lit rfl ?_)
    refine awl_hw (by first | exact wt_none rfl | exact wt_some' rfl rfl rfl rfl (by first | rfl | assumption | exact dT (by omega) | exact dF (by omega))) (st_box rfl rfl (by first | rfl | assumption) (by first | assumption | (simp only [cellsA]; rfl)) rfl rfl ?_)
    intro g2
    repeat (first | refine awp_seq ?_ | refine awp_region_lit rfl ?_ | refine awp_ret ?_ | ((first | (show AWL _ _ _ (⟨_, .move _, _, _, _, _⟩ :: _) _ _ _; refine awl_pw ?w (pv_move rfl rfl) rfl rfl ?_) | (show AWL _ _ _ (⟨_, .assign _, _, _, _, _⟩ :: _) _ _ _; refine awl_pw ?w (pv_assign rfl rfl) rfl rfl ?_) | (show AWL _ _ _ (⟨_, .load _ _, _, _, _, _⟩ :: _) _ _ _; refine awl_lw ?w (lv_cl1 T0 rfl rfl rfl (by solve | repeat' constructor) (by first | rfl | assumption)) rfl rfl rfl ?_) | (show AWL _ _ _ (⟨_, .fieldAddr _ _ _, _, _, _, _⟩ :: _) _ _ _; refine awl_pw ?w (pv_fa T0 rfl rfl rfl (by simp; rfl)) rfl rfl ?_) | (show AWL _ _ _ (⟨_, .binOp .neq _ _ _ _, _, _, _, _⟩ :: _) _ _ _; refine awl_pw ?w (pv_neq rfl rfl rfl) rfl rfl ?_) | (show AWL _ _ _ (⟨_, .pick _ _ _, _, _, _, _⟩ :: _) _ _ _; refine awl_pw ?w (pv_pick_t rfl rfl (by first | rfl | assumption | exact dT (by omega) | exact dF (by omega)) rfl) rfl rfl ?_)); case w => first | exact wt_none rfl | exact wt_some' rfl rfl rfl rfl (by first | rfl | assumption | exact dT (by omega) | exact dF (by omega))) | refine awl_nil ?_)
    refine body_r (h' := [.cl gh 3 [intA house]]) (.cons rfl .nil) (by solve | repeat' constructor) ⟨?_, rfl⟩
    rw [d1]; rfl
  · have d1 := decide_eq_false h1
    repeat (first | refine awp_seq ?_ | refine awp_region_lit rfl ?_)
    refine awl_hw (by first | exact wt_none rfl | exact wt_some' rfl rfl rfl rfl (by first | rfl | assumption | exact dT (by omega) | exact dF (by omega))) (st_box rfl rfl (by first | rfl | assumption) (by first | assumption | (simp only [cellsA]; rfl)) rfl rfl ?_)
    intro g2
    repeat (first | refine awp_seq ?_ | refine awp_region_lit rfl ?_ | refine awp_ret ?_ | ((first | (show AWL _ _ _ (⟨_, .move _, _, _, _, _⟩ :: _) _ _ _; refine awl_pw ?w (pv_move rfl rfl) rfl rfl ?_) | (show AWL _ _ _ (⟨_, .assign _, _, _, _, _⟩ :: _) _ _ _; refine awl_pw ?w (pv_assign rfl rfl) rfl rfl ?_) | (show AWL _ _ _ (⟨_, .load _ _, _, _, _, _⟩ :: _) _ _ _; refine awl_lw ?w (lv_cl1 T0 rfl rfl rfl (by solve | repeat' constructor) (by first | rfl | assumption)) rfl rfl rfl ?_) | (show AWL _ _ _ (⟨_, .fieldAddr _ _ _, _, _, _, _⟩ :: _) _ _ _; refine awl_pw ?w (pv_fa T0 rfl rfl rfl (by simp; rfl)) rfl rfl ?_) | (show AWL _ _ _ (⟨_, .binOp .neq _ _ _ _, _, _, _, _⟩ :: _) _ _ _; refine awl_pw ?w (pv_neq rfl rfl rfl) rfl rfl ?_) | (show AWL _ _ _ (⟨_, .pick _ _ _, _, _, _, _⟩ :: _) _ _ _; refine awl_pw ?w (pv_pick_f rfl rfl (by first | rfl | assumption | exact dT (by omega) | exact dF (by omega)) rfl) rfl rfl ?_)); case w => first | exact wt_none rfl | exact wt_some' rfl rfl rfl rfl (by first | rfl | assumption | exact dT (by omega) | exact dF (by omega))) | refine awl_sk (wf_some rfl rfl rfl rfl (by first | rfl | assumption | exact dT (by omega) | exact dF (by omega))) rfl rfl ?_ | refine awl_nil ?_)
    refine body_r (h' := [.cl gh 3 [intA house]]) (.cons rfl .nil) (by solve | repeat' constructor) ⟨?_, rfl⟩
    rw [d1]; rfl
theorem vbook_sub {b : BookD} (hv : VBook b) (house : Int) : VBook (subB b house) := by
  have hm : ∀ k, k < (subB b house).cons.length → ∃ j, j < b.cons.length ∧ (subB b house).cons.getD k default = b.cons.getD j default := fun k hk => by
    have h1 := getD_mem (d := default) hk
    have h2 : (subB b house).cons.getD k default ∈ b.cons := (List.mem_filter.1 h1).1
    obtain ⟨j, hj, e⟩ := mem_getD (d := default) h2
    exact ⟨j, hj, e.symm⟩
  have hle : (subB b house).cons.length ≤ b.cons.length := List.length_filter_le _ _
  refine ⟨hv.houses, by have := hv.len; omega, fun k hk => ?_, fun k hk => ?_, fun k hk => ?_, fun k hk => ?_, fun k hk => ?_⟩ <;> obtain ⟨j, hj, e⟩ := hm k hk <;> rw [e]
  · exact hv.frm j hj
  · exact hv.to j hj
  · exact hv.ne j hj
  · exact hv.num j hj
  · exact hv.price j hj
theorem fails2_p (cp : Bool) (b : BookD) (p : Int) (g gp i : Nat) (hi : i < b.cons.length) (hv : VBook b) (h3 : 1 ≤ p ∧ p ≤ 1000) : ACall Try.prog 64 [intA i, .v (ptrV g), .v (ptrV gp)] [.cl g 33 [intA b.houses, .t (consT cp b.cons)], .cl gp 3 [intA p]]
    (fun r h' => r = intA (-(payF b p i)) ∧ h' = [.cl g 33 [intA b.houses, .t (consT cp b.cons)], .cl gp 3 [intA p]]) := by
  have hlen := hv.len
  have hb := pay_bd (hv.num i hi) (hv.price i hi) h3
  refine acall_of_awp T0 Try.func64 rfl rfl rfl ?_
  unfold payF
  repeat (first | refine awp_seq ?_ | refine awp_region_lit rfl ?_ | ((first | (show AWL _ _ _ (⟨_, .assign _, _, _, _, _⟩ :: _) _ _ _; refine awl_pw ?w (pv_assign rfl rfl) rfl rfl ?_)); case w => first | exact wt_none rfl | exact wt_some' rfl rfl rfl rfl (by first | rfl | assumption | exact dT (by omega) | exact dF (by omega))) | refine awl_nil ?_)
  refine awp_tree T0 [(0, 0), (1, 1), (2, 0), (3, 0), (4, 1), (5, 1), (6, 3), (7, 0), (8, 0)] (.op 0 0 (.op 1 1 (.op 2 0 (.op 3 0 (.op 4 1 (.op 5 1 (.op 6 3 (.op 7 0 (.op 8 0 .stop))))))))) _ rfl (by kernel_rfl) (SubH.refl _) ?_
  refine awt_po rfl (wt_none rfl) (pv_fa T0 rfl rfl rfl (by simp; rfl)) rfl rfl ?_
  refine awt_lo rfl (wt_none rfl) (lv_cl1 T0 rfl rfl rfl (by solve | repeat' constructor) (by first | rfl | assumption)) rfl rfl rfl ?_
  refine awt_po rfl (wt_none rfl) (pv_move rfl rfl) rfl rfl ?_
  refine awt_po rfl (wt_none rfl) (pv_ix_t T0 rfl rfl rfl rfl (by omega) (by first | exact Int.toNat_natCast _ | rfl)) rfl rfl ?_
  refine awt_lo rfl (wt_none rfl) (lv_elt_ag T0 rfl rfl rfl rfl (by solve | repeat' constructor)) rfl rfl rfl ?_
  refine awt_lo rfl (wt_none rfl) (lv_cl1 T0 rfl rfl rfl (by solve | repeat' constructor) (by first | rfl | assumption)) rfl rfl rfl ?_
  refine awt_s (md := fun _ => True) rfl (wt_none rfl) (st_call T0 (paid_p (b.cons.getD i default) p (hv.num i hi) (hv.price i hi) h3) rfl rfl rfl rfl (by first | exact callee_lit | exact callee_v | exact callee_fn | assumption) (by solve | repeat' constructor) (by first | rfl | assumption) rfl ?_)
  rintro _ rfl
  refine awe_p rfl (wt_none rfl) (pv_neg rfl rfl (wr64 (by omega))) rfl rfl ?_
  refine awe_p rfl (wt_none rfl) (pv_assign rfl rfl) rfl rfl ?_
  refine awe_end ?_
  repeat (first | refine awp_ret ?_)
  exact body_r (h' := [.cl g 33 [intA b.houses, .t (consT cp b.cons)], .cl gp 3 [intA p]]) (.cons rfl .nil) (by solve | repeat' constructor) ⟨by show intA (0 - _) = _; rw [Int.zero_sub], rfl⟩
end Go.Proofs.Ytilhflfbbfeakaa
