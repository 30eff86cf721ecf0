/- Joined texts: Wk, Wl0. -/
import Derived.Test.YtilhflfbbfeakaaZcGSk
import Derived.Test.YtilhflfbbfeakaaTz
section
namespace Go.Proofs.Ytilhflfbbfeakaa
open Go Go.RowKit Go.Tl
set_option linter.unusedVariables false
set_option linter.unusedSimpArgs false
/-- a walk: the contracts gone along, where it stands, and which contract left a house -/
structure WkI (b : BookD) (f : Nat → Int) (P : List Int) (a : Int) (d : Nat → Int) : Prop where
  path : P = [] ∨ ∃ first, PathI b f first P a
  at' : 0 ≤ a ∧ a < b.houses
  seen : ∀ v : Nat, v < 6 → d v = -1 ∨ ∃ k : Nat, d v = k ∧ k < P.length ∧ (cAt b ⟨P, 1⟩ k).frm = v
  all : ∀ k, k < P.length → d (cAt b ⟨P, 1⟩ k).frm.toNat = k
theorem wk_nil {b : BookD} {f : Nat → Int} {a : Int} (h : 0 ≤ a ∧ a < b.houses) : WkI b f [] a (fun _ => -1) :=
  ⟨.inl rfl, h, fun v _ => .inl rfl, fun k hk => absurd hk (Nat.not_lt_zero _)⟩
theorem wk_len {b : BookD} (hv : VBook b) {f : Nat → Int} {P : List Int} {a : Int} {d : Nat → Int} (h : WkI b f P a d) : P.length ≤ 6 := by
  have hh := hv.houses
  rcases h.path with e | ⟨first, hp⟩
  · rw [e]; exact Nat.zero_le _
  · have := path_len hv hp; omega
theorem wk_ring {b : BookD} (hv : VBook b) {f : Nat → Int} {P : List Int} {a : Int} {d : Nat → Int} (h : WkI b f P a d) (hd : 0 ≤ d a.toNat) : ∃ k : Nat, d a.toNat = k ∧ k < P.length ∧ pathOk b f (P.drop k) := by
  have hh := hv.houses
  have ha := h.at'
  rcases h.seen a.toNat (by omega) with e | ⟨k, e, hk, he⟩
  · omega
  rcases h.path with e2 | ⟨first, hp⟩
  · rw [e2] at hk; exact absurd hk (Nat.not_lt_zero _)
  exact ⟨k, e, hk, path_ring hv hp hk (by omega)⟩
theorem wk_step {b : BookD} (hv : VBook b) {f : Nat → Int} {P : List Int} {a : Int} {d : Nat → Int} (h : WkI b f P a d) (hd : d a.toNat < 0) {i : Nat} (hi : i < b.cons.length) (hf : 0 < f i) (he : (b.cons.getD i default).frm = a) :
    WkI b f (P ++ [(i : Int)]) (b.cons.getD i default).to (fun q => if q = a.toNat then (P.length : Int) else d q) := by
  have hh := hv.houses
  have ha := h.at'
  have hl : (P ++ [(i : Int)]).length = P.length + 1 := by simp
  have hc : ∀ j, j < P.length → cAt b ⟨P ++ [(i : Int)], 1⟩ j = cAt b ⟨P, 1⟩ j := fun j hj => by
    show b.cons.getD ((P ++ [(i : Int)]).getD j 0).toNat default = b.cons.getD (P.getD j 0).toNat default
    rw [snoc_at hj]
  have hc2 : cAt b ⟨P ++ [(i : Int)], 1⟩ P.length = b.cons.getD i default := by
    show b.cons.getD ((P ++ [(i : Int)]).getD P.length 0).toNat default = _
    rw [snoc_last, Int.toNat_natCast]
  have hno : ∀ k, k < P.length → (cAt b ⟨P, 1⟩ k).frm ≠ a := fun k hk e => by
    have := h.all k hk
    rw [e] at this
    omega
  have hpath : ∃ first, PathI b f first P a := by
    rcases h.path with e | hp
    · subst e
      exact ⟨i, fun k hk => absurd hk (Nat.not_lt_zero _), fun k hk => absurd hk (Nat.not_lt_zero _), fun k hk => absurd hk (Nat.not_lt_zero _), fun k m hk => absurd hk (Nat.not_lt_zero _), fun _ => he.symm, fun k hk => by simp at hk⟩
    · exact hp
  obtain ⟨first, hp⟩ := hpath
  refine ⟨.inr ⟨first, path_step hv hp hi hf he hno⟩, hv.to i hi, fun v hv' => ?_, fun k hk => ?_⟩
  · by_cases c : v = a.toNat
    · subst c
      refine .inr ⟨P.length, if_pos rfl, by rw [hl]; omega, ?_⟩
      rw [hc2, he]; omega
    · rcases h.seen v hv' with e | ⟨k, e, hk, e2⟩
      · exact .inl (by simp only [if_neg c]; exact e)
      · exact .inr ⟨k, by simp only [if_neg c]; exact e, by rw [hl]; omega, by rw [hc k hk]; exact e2⟩
  · rw [hl] at hk
    by_cases c : k < P.length
    · have h1 := hno k c
      have h2 := h.all k c
      have h3 := hv.frm _ (okAt_lt (hp.ok k c)).1
      have h3' : 0 ≤ (cAt b ⟨P, 1⟩ k).frm := h3.1
      rw [hc k c]
      show (if (cAt b ⟨P, 1⟩ k).frm.toNat = a.toNat then (P.length : Int) else d _) = _
      rw [if_neg (by omega)]
      exact h2
    · obtain rfl : k = P.length := by omega
      rw [hc2, he]
      exact if_pos rfl
/-- a ring with no more than what is left, taken off -/
theorem ring_sub {b : BookD} {f : Nat → Int} (h0 : ∀ i, i < b.cons.length → 0 ≤ f i) {p : List Int} (hp : pathOk b f p) {x : Int} (hx : 1 ≤ x ∧ x ≤ mnP f p p.length) :
    isRing b ⟨p, x⟩ ∧ ∀ k h, k ≤ p.length → h < b.cons.length → 0 ≤ f h - ringN ⟨p, x⟩ k h ∧ f h - ringN ⟨p, x⟩ k h ≤ f h := by
  have hx1 := mnP_pos (f := f) (p := p) (k := p.length) hp.2
  have hd := path_dist hp
  refine ⟨⟨hp.1.1, ⟨hx.1, by show x ≤ 100; omega⟩, hp.1.2.2⟩, fun k h hk hh => ?_⟩
  have h1 := h0 h hh
  rcases ringN_one (r := ⟨p, x⟩) (h := h) k hk hd with h2 | ⟨h2, j, hj, e⟩
  · rw [h2]; omega
  · have h3 := mnP_le (f := f) (p := p) (show j < p.length by omega)
    have e' : p.getD j 0 = (h : Int) := e
    rw [e', Int.toNat_natCast] at h3
    rw [h2]
    show 0 ≤ f h - x ∧ f h - x ≤ f h
    omega
/-- what Walked returns -/
structure WalkedOk (b : BookD) (rs : List RingD) : Prop where
  ring : ∀ j, j < rs.length → isRing b (rs.getD j default)
  made : ∀ h, h < b.cons.length → 0 ≤ madeN rs rs.length h ∧ madeN rs rs.length h ≤ numF b h
  len : rs.length ≤ 6
end Go.Proofs.Ytilhflfbbfeakaa
end
section
namespace Go.Proofs.Ytilhflfbbfeakaa
open Go Go.RowKit Go.Tl
set_option linter.unusedVariables false
set_option linter.unusedSimpArgs false
set_option maxRecDepth 100000
set_option maxHeartbeats 4000000
attribute [local irreducible] AWP AWL AOp PV LV AWT AWE
theorem all_o (cp : Bool) (b : BookD) (hl : b.cons.length ≤ 1000) : ACall Try.prog 26 [bookA cp b] [] (fun r h' => ∃ (a : Option Addr) (c : Nat), r = .v (.slice a b.cons.length c) ∧ (0 < b.cons.length → ∃ g, a = some ⟨g, 0, none⟩) ∧ h' = [.rw (.slice a b.cons.length c) 3 1 (fRows (numF b) b.cons.length)]) := by
  refine acall_of_awp T0 Try.func26 rfl rfl rfl ?_
  repeat (first | refine awp_seq ?_ | refine awp_region_lit rfl ?_)
  refine awl_hw (wt_none rfl) (st_box rfl rfl (by first | rfl | assumption) (by first | assumption | (simp only [cellsA]; rfl)) rfl rfl ?_)
  intro g1
  repeat (first | refine awp_seq ?_ | refine awp_block ?_ | refine awp_region_lit rfl ?_ | (show AWL _ _ _ (⟨_, .assign _, _, _, _, _⟩ :: _) _ _ _; refine awl_pw (wt_none rfl) (pv_assign rfl rfl) rfl rfl ?_) | refine awl_nil ?_)
  refine awp_ghost (ghost_nilrow 3 1) ?_
  refine awp_loop (fun m s h => ∃ (k : Nat) (a : Option Addr) (c : Nat) (rows : List (List AV)), k ≤ b.cons.length ∧ m = b.cons.length - k ∧ rows.length = k ∧ rows = fRows (numF b) k ∧ (0 < k → ∃ g, a = some ⟨g, 0, none⟩) ∧
    s = [(1, .v (ptrV g1)), (3, .v (.slice a k c)), (4, intA k)] ∧ h = [.cl g1 24 [intA b.houses, .t (consT cp b.cons)], .rw (.slice a k c) 3 1 rows]) ?_ ⟨0, _, _, _, Nat.zero_le _, rfl, rfl, rfl, (fun h => absurd h (Nat.lt_irrefl _)), rfl, rfl⟩ (by first | ((repeat' (first | exact True.intro | refine ⟨rfl, ?_⟩)); all_goals fail) | fail) (by solve | repeat' constructor)
  rintro m s h ⟨k, a, c, rows, hk, rfl, hn, hrows, had, rfl, rfl⟩
  by_cases hlt : k < b.cons.length
  · repeat (first | refine awp_seq ?_ | refine awp_block ?_ | refine awp_region_lit rfl ?_ | refine awp_skip ?_ | refine then_n ?_ | refine awp_cond_t rfl (by first | rfl | assumption | exact dT (by omega)) ?_ | (show AWL _ _ _ (⟨_, .move _, _, _, _, _⟩ :: _) _ _ _; refine awl_pw (wt_none rfl) (pv_move rfl rfl) rfl rfl ?_) | (show AWL _ _ _ (⟨_, .load _ _, _, _, _, _⟩ :: _) _ _ _; refine awl_lw (wt_none rfl) (lv_cl1 T0 rfl rfl rfl (by solve | repeat' constructor) (by first | rfl | assumption)) rfl rfl rfl ?_) | (show AWL _ _ _ (⟨_, .load _ _, _, _, _, _⟩ :: _) _ _ _; refine awl_lw (wt_none rfl) (lv_elt_sc T0 rfl rfl rfl rfl) rfl rfl rfl ?_) | (show AWL _ _ _ (⟨_, .fieldAddr _ _ _, _, _, _, _⟩ :: _) _ _ _; refine awl_pw (wt_none rfl) (pv_fa T0 rfl rfl rfl (by simp; rfl)) rfl rfl ?_) | (show AWL _ _ _ (⟨_, .fieldAddr _ _ _, _, _, _, _⟩ :: _) _ _ _; refine awl_pw (wt_none rfl) (pv_fa_elt T0 rfl rfl rfl (by simp; rfl)) rfl rfl ?_) | (show AWL _ _ _ (⟨_, .indexAddr _ _ _, _, _, _, _⟩ :: _) _ _ _; refine awl_pw (wt_none rfl) (pv_ix_t T0 rfl rfl rfl rfl (by omega) (by first | exact Int.toNat_natCast _ | rfl)) rfl rfl ?_) | (show AWL _ _ _ (⟨_, .binOp .lss _ _ _ _, _, _, _, _⟩ :: _) _ _ _; refine awl_pw (wt_none rfl) (pv_lss rfl rfl rfl) rfl rfl ?_) | (show AWL _ _ _ (⟨_, .call ⟨.builtin .len, _, _⟩, _, _, _, _⟩ :: _) _ _ _; refine awl_pw (wt_none rfl) (pv_len_t T0 rfl rfl rfl) rfl rfl ?_) | refine awl_nil ?_)
    refine awl_hw (wt_none rfl) (st_bsl T0 rfl rfl rfl rfl rfl (by solve | repeat' constructor) rfl rfl rfl rfl (by simp only [List.map_cons, List.map_nil, cellsA]; rfl) ?_)
    intro g19
    skip
    refine awl_hw (wt_none rfl) (st_app T0 rfl rfl rfl rfl rfl rfl rfl rfl rfl (by solve | repeat' constructor) (by solve | repeat' constructor) rfl rfl hn (by omega) (fun _ _ => trivial) ?_)
    intro a20 c20 p20
    repeat (first | refine awp_region_lit rfl ?_ | (show AWL _ _ _ (⟨_, .move _, _, _, _, _⟩ :: _) _ _ _; refine awl_pw (wt_none rfl) (pv_move rfl rfl) rfl rfl ?_) | (show AWL _ _ _ (⟨_, .assign _, _, _, _, _⟩ :: _) _ _ _; refine awl_pw (wt_none rfl) (pv_assign rfl rfl) rfl rfl ?_) | (show AWL _ _ _ (⟨_, .binOp .add _ _ _ _, _, _, _, _⟩ :: _) _ _ _; refine awl_pw (wt_none rfl) (pv_add rfl rfl rfl (by first | assumption | exact wr64 (by omega))) rfl rfl ?_) | refine awl_nil ?_)
    refine rnd_n _ _ _ ?_ ⟨k + 1, _, _, _, hlt, rfl, ?_, ?_, (fun _ => p20 (Nat.lt_succ_self 0)), rfl, rfl⟩ (by first | ((repeat' (first | exact True.intro | refine ⟨rfl, ?_⟩)); all_goals fail) | fail) (by solve | repeat' constructor)
    · omega
    · simp; omega
    · rw [hrows]; simp [fRows, List.range_succ, intRow, numF]
  obtain rfl : k = b.cons.length := by omega
  subst hrows
  repeat (first | refine awp_seq ?_ | refine awp_region_lit rfl ?_ | refine awp_exit ?_ | refine awp_ret ?_ | refine then_n ?_ | refine awp_cond_f rfl (by first | rfl | assumption | exact dF (by omega)) ?_ | (show AWL _ _ _ (⟨_, .move _, _, _, _, _⟩ :: _) _ _ _; refine awl_pw (wt_none rfl) (pv_move rfl rfl) rfl rfl ?_) | (show AWL _ _ _ (⟨_, .assign _, _, _, _, _⟩ :: _) _ _ _; refine awl_pw (wt_none rfl) (pv_assign rfl rfl) rfl rfl ?_) | (show AWL _ _ _ (⟨_, .load _ _, _, _, _, _⟩ :: _) _ _ _; refine awl_lw (wt_none rfl) (lv_cl1 T0 rfl rfl rfl (by solve | repeat' constructor) (by first | rfl | assumption)) rfl rfl rfl ?_) | (show AWL _ _ _ (⟨_, .fieldAddr _ _ _, _, _, _, _⟩ :: _) _ _ _; refine awl_pw (wt_none rfl) (pv_fa T0 rfl rfl rfl (by simp; rfl)) rfl rfl ?_) | (show AWL _ _ _ (⟨_, .binOp .lss _ _ _ _, _, _, _, _⟩ :: _) _ _ _; refine awl_pw (wt_none rfl) (pv_lss rfl rfl rfl) rfl rfl ?_) | (show AWL _ _ _ (⟨_, .call ⟨.builtin .len, _, _⟩, _, _, _, _⟩ :: _) _ _ _; refine awl_pw (wt_none rfl) (pv_len_t T0 rfl rfl rfl) rfl rfl ?_) | refine awl_nil ?_)
  exact body_r (h' := [.rw (.slice a b.cons.length c) 3 1 (fRows (numF b) b.cons.length)]) (.cons rfl .nil) (by solve | repeat' constructor) ⟨a, c, rfl, had, rfl⟩
section
variable {b : BookD} {cp : Bool} {ws : List Int} {f g : Nat → Int} {n k i j g2 g13 ga c : Nat} {x y w q : Int} {p : List Int} {u2 u5 u6 u8 u9 u10 u12 u16 u17 : AV} {rest : List Ent}
theorem wl_7 (hk : k < ws.length) (hl : ws.length ≤ 9223372036854775807) (hk6 : k < 6) (hw : 0 ≤ ws.getD k 0 ∧ ws.getD k 0 ≤ 255) (hh : 1 ≤ b.houses ∧ b.houses ≤ 6) (hq : (ws.getD k 0).tmod b.houses = q) {ops : Array Oper} (h : regF Try.f45 7 = some ops) :
    AWP Try.prog Try.f45.ntmps none (.region 7 ops true) (cutQ (fun s h => s = [(9, intA q), (1, .t (kintsT .u8 ws)), (2, .v (ptrV g2)), (5, u5), (6, u6), (7, intA k), (8, u8)] ∧ h = .cl g2 24 [intA b.houses, .t (consT cp b.cons)] :: rest))
      [(1, .t (kintsT .u8 ws)), (2, .v (ptrV g2)), (5, u5), (6, u6), (7, intA k), (8, u8)] (.cl g2 24 [intA b.houses, .t (consT cp b.cons)] :: rest) := by
  cases h
  refine awp_tree T0 [(0, 0), (1, 0), (2, 0), (3, 1), (4, 0), (5, 0), (6, 1), (7, 0), (8, 0)] (.op 0 0 (.op 1 0 (.op 2 0 (.op 3 1 (.op 4 0 (.op 5 0 (.op 6 1 (.op 7 0 (.op 8 0 .stop))))))))) [.cl g2 _ _] rfl (by kernel_rfl) (by solve | repeat' constructor) ?_
  refine awt_po rfl (wt_none rfl) (pv_move rfl rfl) rfl rfl ?_
  refine awt_po rfl (wt_none rfl) (pv_move rfl rfl) rfl rfl ?_
  refine awt_po rfl (wt_none rfl) (pv_ix_t T0 rfl rfl rfl rfl (by omega) (by first | exact Int.toNat_natCast _ | rfl)) rfl rfl ?_
  refine awt_lo rfl (wt_none rfl) (lv_elt_sc T0 rfl rfl rfl rfl) rfl rfl rfl ?_
  refine awt_po rfl (wt_none rfl) (pv_convert rfl rfl Try.underlying5 Try.underlying3 (by first | assumption | exact wr64 (by omega))) rfl rfl ?_
  refine awt_po rfl (wt_none rfl) (pv_fa T0 rfl rfl rfl (by simp; rfl)) rfl rfl ?_
  refine awt_lo rfl (wt_none rfl) (lv_cl1 T0 rfl rfl rfl (by solve | repeat' constructor) (by first | rfl | assumption)) rfl rfl rfl ?_
  refine awt_po rfl (wt_none rfl) (pv_rem rfl rfl rfl (by omega) (by first | assumption | rfl)) rfl rfl ?_
  refine awt_po rfl (wt_none rfl) (pv_assign rfl rfl) rfl rfl ?_
  refine awt_end ?_
  exact cut_n ⟨rfl, rfl⟩ (by first | ((repeat' (first | exact True.intro | refine ⟨rfl, ?_⟩)); all_goals fail) | fail) (SubH.refl _)
theorem wl_32 (hk : k < ws.length) (hl : ws.length ≤ 9223372036854775807) (hk6 : k < 6) (hw : 0 ≤ ws.getD k 0 ∧ ws.getD k 0 ≤ 255) (hn : b.cons.length ≤ 1000) (hi : i < b.cons.length) (hy : (ws.getD k 0).tdiv 8 = y) (hy0 : 0 ≤ y ∧ y ≤ 255) (hq : ((i : Int) + y).tmod (b.cons.length : Int) = q) {ops : Array Oper} (h : regF Try.f45 32 = some ops) :
    AWP Try.prog Try.f45.ntmps none (.region 32 ops true) (cutQ (fun s h => s = [(18, intA q), (1, .t (kintsT .u8 ws)), (2, .v (ptrV g2)), (5, u5), (6, u6), (7, intA k), (8, u8), (9, u9), (10, u10), (12, u12), (16, u16), (17, intA i)] ∧ h = .cl g2 24 [intA b.houses, .t (consT cp b.cons)] :: rest))
      [(1, .t (kintsT .u8 ws)), (2, .v (ptrV g2)), (5, u5), (6, u6), (7, intA k), (8, u8), (9, u9), (10, u10), (12, u12), (16, u16), (17, intA i)] (.cl g2 24 [intA b.houses, .t (consT cp b.cons)] :: rest) := by
  cases h
  subst hy
  subst hq
  refine awp_tree T0 [(0, 0), (1, 0), (2, 0), (3, 0), (4, 1), (5, 0), (6, 0), (7, 0), (8, 0), (9, 1), (10, 0), (11, 0), (12, 0)] (.op 0 0 (.op 1 0 (.op 2 0 (.op 3 0 (.op 4 1 (.op 5 0 (.op 6 0 (.op 7 0 (.op 8 0 (.op 9 1 (.op 10 0 (.op 11 0 (.op 12 0 .stop))))))))))))) [.cl g2 _ _] rfl (by kernel_rfl) (by solve | repeat' constructor) ?_
  refine awt_po rfl (wt_none rfl) (pv_move rfl rfl) rfl rfl ?_
  refine awt_po rfl (wt_none rfl) (pv_move rfl rfl) rfl rfl ?_
  refine awt_po rfl (wt_none rfl) (pv_move rfl rfl) rfl rfl ?_
  refine awt_po rfl (wt_none rfl) (pv_ix_t T0 rfl rfl rfl rfl (by omega) (by first | exact Int.toNat_natCast _ | rfl)) rfl rfl ?_
  refine awt_lo rfl (wt_none rfl) (lv_elt_sc T0 rfl rfl rfl rfl) rfl rfl rfl ?_
  refine awt_po rfl (wt_none rfl) (pv_convert rfl rfl Try.underlying5 Try.underlying3 (by first | assumption | exact wr64 (by omega))) rfl rfl ?_
  refine awt_po rfl (wt_none rfl) (pv_quo rfl rfl rfl (by omega) (by first | assumption | exact wr64 (by omega))) rfl rfl ?_
  refine awt_po rfl (wt_none rfl) (pv_add rfl rfl rfl (by first | assumption | exact wr64 (by omega))) rfl rfl ?_
  refine awt_po rfl (wt_none rfl) (pv_fa T0 rfl rfl rfl (by simp; rfl)) rfl rfl ?_
  refine awt_lo rfl (wt_none rfl) (lv_cl1 T0 rfl rfl rfl (by solve | repeat' constructor) (by first | rfl | assumption)) rfl rfl rfl ?_
  refine awt_po rfl (wt_none rfl) (pv_len_t T0 rfl rfl rfl) rfl rfl ?_
  refine awt_po rfl (wt_none rfl) (pv_rem rfl rfl rfl (by omega) (by first | assumption | rfl)) rfl rfl ?_
  refine awt_po rfl (wt_none rfl) (pv_assign rfl rfl) rfl rfl ?_
  refine awt_end ?_
  exact cut_n ⟨rfl, rfl⟩ (by first | ((repeat' (first | exact True.intro | refine ⟨rfl, ?_⟩)); all_goals fail) | fail) (SubH.refl _)
theorem wl_21 (hj : j < p.length) (hp : p.getD j 0 = (i : Int)) (hi : i < n) (hn : n ≤ 1000) (hl : p.length ≤ 1000) {ops : Array Oper} (h : regF Try.f45 21 = some ops) :
    AWP Try.prog Try.f45.ntmps none (.region 21 ops true) (cutQ (fun s h => s = [(1, .t (kintsT .u8 ws)), (2, .v (ptrV g2)), (5, .v (.slice (some ⟨ga, 0, none⟩) n c)), (6, u6), (7, intA k), (13, .v (ptrV g13)), (14, intA j)] ∧ h = .cl g13 74 [.t (intsT true p), intA (min x (f i))] :: .rw (.slice (some ⟨ga, 0, none⟩) n c) 3 1 (fRows f n) :: rest))
      [(1, .t (kintsT .u8 ws)), (2, .v (ptrV g2)), (5, .v (.slice (some ⟨ga, 0, none⟩) n c)), (6, u6), (7, intA k), (13, .v (ptrV g13)), (14, intA j)] (.cl g13 74 [.t (intsT true p), intA x] :: .rw (.slice (some ⟨ga, 0, none⟩) n c) 3 1 (fRows f n) :: rest) := by
  cases h
  have ei : (p.getD j 0).toNat = i := by rw [hp]; exact Int.toNat_natCast i
  have r1 : ((fRows f n).getD i [])[0]? = some (intA (f i)) := fRows_at hi
  have r2 := fRows_len f n
  refine awp_tree T0 [(0, 0), (1, 1), (2, 0), (3, 0), (4, 1), (5, 0), (6, 0), (7, 1), (8, 0), (9, 1), (10, 0), (11, 0), (12, 3)] (.op 0 0 (.op 1 1 (.op 2 0 (.op 3 0 (.op 4 1 (.op 5 0 (.op 6 0 (.op 7 1 (.op 8 0 (.op 9 1 (.op 10 0 (.op 11 0 (.op 12 3 .stop))))))))))))) [.cl g13 _ _, .rw _ _ _ _] rfl (by kernel_rfl) (by solve | repeat' constructor) ?_
  refine awt_po rfl (wt_none rfl) (pv_fa T0 rfl rfl rfl (by simp; rfl)) rfl rfl ?_
  refine awt_lo rfl (wt_none rfl) (lv_cl1 T0 rfl rfl rfl (by solve | repeat' constructor) (by first | rfl | assumption)) rfl rfl rfl ?_
  refine awt_po rfl (wt_none rfl) (pv_move rfl rfl) rfl rfl ?_
  refine awt_po rfl (wt_none rfl) (pv_fa T0 rfl rfl rfl (by simp; rfl)) rfl rfl ?_
  refine awt_lo rfl (wt_none rfl) (lv_cl1 T0 rfl rfl rfl (by solve | repeat' constructor) (by first | rfl | assumption)) rfl rfl rfl ?_
  refine awt_po rfl (wt_none rfl) (pv_move rfl rfl) rfl rfl ?_
  refine awt_po rfl (wt_none rfl) (pv_ix_t T0 rfl rfl rfl rfl (by omega) (by first | exact Int.toNat_natCast _ | rfl)) rfl rfl ?_
  refine awt_lo rfl (wt_none rfl) (lv_elt_sc T0 rfl rfl rfl rfl) rfl rfl rfl ?_
  refine awt_po rfl (wt_none rfl) (pv_ix_own T0 rfl rfl rfl rfl (by omega) ei) rfl rfl ?_
  refine awt_lo rfl (wt_none rfl) (lv_rp T0 rfl rfl rfl (by solve | repeat' constructor) (by first | omega | (simp; omega)) (by omega) (by first | assumption | rfl)) rfl rfl rfl ?_
  refine awt_po rfl (wt_none rfl) (pv_min2 rfl rfl rfl) rfl rfl ?_
  refine awt_po rfl (wt_none rfl) (pv_fa T0 rfl rfl rfl (by simp; rfl)) rfl rfl ?_
  refine awt_s (md := fun _ => True) rfl (wt_none rfl) (st_store T0 rfl rfl rfl rfl rfl (by first | assumption | (simp only [cellsA]; rfl)) rfl rfl rfl (by solve | repeat' constructor) (by solve | repeat' constructor) trivial ?_)
  refine awe_end ?_
  exact cut_n ⟨rfl, rfl⟩ (by first | ((repeat' (first | exact True.intro | refine ⟨rfl, ?_⟩)); all_goals fail) | fail) (SubH.refl _)
theorem wl_22 (hk : k < ws.length) (hl : ws.length ≤ 9223372036854775807) (hk6 : k < 6) (hw : 0 ≤ ws.getD k 0 ∧ ws.getD k 0 ≤ 255) (hy : (ws.getD k 0).tdiv 64 = y) (hy0 : 0 ≤ y ∧ y ≤ 255) (hx : 1 ≤ x ∧ x ≤ 100) {ops : Array Oper} (h : regF Try.f45 22 = some ops) :
    AWP Try.prog Try.f45.ntmps none (.region 22 ops true) (cutQ (fun s h => s = [(1, .t (kintsT .u8 ws)), (2, .v (ptrV g2)), (5, u5), (6, u6), (7, intA k), (13, .v (ptrV g13))] ∧ h = .cl g13 74 [.t (intsT true p), intA (max 1 (x - y))] :: rest))
      [(1, .t (kintsT .u8 ws)), (2, .v (ptrV g2)), (5, u5), (6, u6), (7, intA k), (13, .v (ptrV g13))] (.cl g13 74 [.t (intsT true p), intA x] :: rest) := by
  cases h
  subst hy
  refine awp_tree T0 [(0, 0), (1, 1), (2, 0), (3, 0), (4, 0), (5, 1), (6, 0), (7, 0), (8, 0), (9, 0), (10, 0), (11, 3)] (.op 0 0 (.op 1 1 (.op 2 0 (.op 3 0 (.op 4 0 (.op 5 1 (.op 6 0 (.op 7 0 (.op 8 0 (.op 9 0 (.op 10 0 (.op 11 3 .stop)))))))))))) [.cl g13 _ _] rfl (by kernel_rfl) (by solve | repeat' constructor) ?_
  refine awt_po rfl (wt_none rfl) (pv_fa T0 rfl rfl rfl (by simp; rfl)) rfl rfl ?_
  refine awt_lo rfl (wt_none rfl) (lv_cl1 T0 rfl rfl rfl (by solve | repeat' constructor) (by first | rfl | assumption)) rfl rfl rfl ?_
  refine awt_po rfl (wt_none rfl) (pv_move rfl rfl) rfl rfl ?_
  refine awt_po rfl (wt_none rfl) (pv_move rfl rfl) rfl rfl ?_
  refine awt_po rfl (wt_none rfl) (pv_ix_t T0 rfl rfl rfl rfl (by omega) (by first | exact Int.toNat_natCast _ | rfl)) rfl rfl ?_
  refine awt_lo rfl (wt_none rfl) (lv_elt_sc T0 rfl rfl rfl rfl) rfl rfl rfl ?_
  refine awt_po rfl (wt_none rfl) (pv_convert rfl rfl Try.underlying5 Try.underlying3 (by first | assumption | exact wr64 (by omega))) rfl rfl ?_
  refine awt_po rfl (wt_none rfl) (pv_quo rfl rfl rfl (by omega) (by first | assumption | exact wr64 (by omega))) rfl rfl ?_
  refine awt_po rfl (wt_none rfl) (pv_sub rfl rfl rfl (by first | assumption | exact wr64 (by omega))) rfl rfl ?_
  refine awt_po rfl (wt_none rfl) (pv_max2 rfl rfl rfl) rfl rfl ?_
  refine awt_po rfl (wt_none rfl) (pv_fa T0 rfl rfl rfl (by simp; rfl)) rfl rfl ?_
  refine awt_s (md := fun _ => True) rfl (wt_none rfl) (st_store T0 rfl rfl rfl rfl rfl (by first | assumption | (simp only [cellsA]; rfl)) rfl rfl rfl (by solve | repeat' constructor) (by solve | repeat' constructor) trivial ?_)
  refine awe_end ?_
  exact cut_n ⟨rfl, rfl⟩ (by first | ((repeat' (first | exact True.intro | refine ⟨rfl, ?_⟩)); all_goals fail) | fail) (SubH.refl _)
theorem wl_26 (hj : j < p.length) (hp : p.getD j 0 = (i : Int)) (hi : i < n) (hn : n ≤ 1000) (hl : p.length ≤ 1000) (b1 : -1000000 ≤ f i ∧ f i ≤ 1000000) (b2 : -1000000 ≤ x ∧ x ≤ 1000000) (hg : ∀ q, q < n → g q = if q = i then f i - x else f q) {ops : Array Oper} (h : regF Try.f45 26 = some ops) :
    AWP Try.prog Try.f45.ntmps none (.region 26 ops true) (cutQ (fun s h => s = [(1, .t (kintsT .u8 ws)), (2, .v (ptrV g2)), (5, .v (.slice (some ⟨ga, 0, none⟩) n c)), (6, u6), (7, intA k), (13, .v (ptrV g13)), (15, intA j)] ∧ h = .rw (.slice (some ⟨ga, 0, none⟩) n c) 3 1 (fRows g n) :: .cl g13 74 [.t (intsT true p), intA x] :: rest))
      [(1, .t (kintsT .u8 ws)), (2, .v (ptrV g2)), (5, .v (.slice (some ⟨ga, 0, none⟩) n c)), (6, u6), (7, intA k), (13, .v (ptrV g13)), (15, intA j)] (.rw (.slice (some ⟨ga, 0, none⟩) n c) 3 1 (fRows f n) :: .cl g13 74 [.t (intsT true p), intA x] :: rest) := by
  cases h
  have ei : (p.getD j 0).toNat = i := by rw [hp]; exact Int.toNat_natCast i
  have r1 : ((fRows f n).getD i [])[0]? = some (intA (f i)) := fRows_at hi
  have r2 := fRows_len f n
  refine awp_tree T0 [(0, 0), (1, 0), (2, 1), (3, 0), (4, 0), (5, 1), (6, 0), (7, 1), (8, 0), (9, 1), (10, 0), (11, 0), (12, 3)] (.op 0 0 (.op 1 0 (.op 2 1 (.op 3 0 (.op 4 0 (.op 5 1 (.op 6 0 (.op 7 1 (.op 8 0 (.op 9 1 (.op 10 0 (.op 11 0 (.op 12 3 .stop))))))))))))) [.cl g13 _ _, .rw _ _ _ _] rfl (by kernel_rfl) (by solve | repeat' constructor) ?_
  refine awt_po rfl (wt_none rfl) (pv_move rfl rfl) rfl rfl ?_
  refine awt_po rfl (wt_none rfl) (pv_fa T0 rfl rfl rfl (by simp; rfl)) rfl rfl ?_
  refine awt_lo rfl (wt_none rfl) (lv_cl1 T0 rfl rfl rfl (by solve | repeat' constructor) (by first | rfl | assumption)) rfl rfl rfl ?_
  refine awt_po rfl (wt_none rfl) (pv_move rfl rfl) rfl rfl ?_
  refine awt_po rfl (wt_none rfl) (pv_ix_t T0 rfl rfl rfl rfl (by omega) (by first | exact Int.toNat_natCast _ | rfl)) rfl rfl ?_
  refine awt_lo rfl (wt_none rfl) (lv_elt_sc T0 rfl rfl rfl rfl) rfl rfl rfl ?_
  refine awt_po rfl (wt_none rfl) (pv_ix_own T0 rfl rfl rfl rfl (by omega) ei) rfl rfl ?_
  refine awt_lo rfl (wt_none rfl) (lv_rp T0 rfl rfl rfl (by solve | repeat' constructor) (by first | omega | (simp; omega)) (by omega) (by first | assumption | rfl)) rfl rfl rfl ?_
  refine awt_po rfl (wt_none rfl) (pv_fa T0 rfl rfl rfl (by simp; rfl)) rfl rfl ?_
  refine awt_lo rfl (wt_none rfl) (lv_cl1 T0 rfl rfl rfl (by solve | repeat' constructor) (by first | rfl | assumption)) rfl rfl rfl ?_
  refine awt_po rfl (wt_none rfl) (pv_sub rfl rfl rfl (by first | assumption | exact wr64 (by omega))) rfl rfl ?_
  refine awt_po rfl (wt_none rfl) (pv_ix_own T0 rfl rfl rfl rfl (by omega) ei) rfl rfl ?_
  refine awt_s (md := fun _ => True) rfl (wt_none rfl) (aop_store_rp T0 rfl rfl rfl rfl rfl rfl rfl rfl (by solve | repeat' constructor) (by first | omega | (simp; omega)) (by omega) rfl trivial ?_)
  refine awe_end ?_
  simp only [cellsA]
  rw [fRows_set hi hg]
  exact cut_n ⟨rfl, rfl⟩ (by first | ((repeat' (first | exact True.intro | refine ⟨rfl, ?_⟩)); all_goals fail) | fail) (SubH.refl _)
end
end Go.Proofs.Ytilhflfbbfeakaa
end
