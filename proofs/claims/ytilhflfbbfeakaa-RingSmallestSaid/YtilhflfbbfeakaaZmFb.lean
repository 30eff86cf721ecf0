/- Joined texts: Fa, Sm, Fb. -/
import Derived.Test.YtilhflfbbfeakaaZmDg
import Derived.Test.YtilhflfbbfeakaaZmRrp
import Derived.Test.YtilhflfbbfeakaaZmDe0
import Derived.Test.YtilhflfbbfeakaaZmGTs
import Derived.Test.YtilhflfbbfeakaaBit
import Derived.Test.YtilhflfbbfeakaaTz
section
namespace Go.Proofs.Ytilhflfbbfeakaa
open Go Go.RowKit Go.Tl
set_option linter.unusedVariables false
set_option linter.unusedSimpArgs false
/-- no contract of the smallest set can be done without -/
theorem few_less {b : BookD} (hv : VBook b) {s : List Int} {f : Nat → Int} (h : MinS b s) (hD : DelF b (capS b (inL s)) f) {i : Nat} (hi : inL s i = true) (h0 : f i = 0) : False := by
  have hx := ext_iff.1 h.ext
  have hin : ∀ j, inL (s.filter (fun x => decide (x ≠ (i : Int)))) j = (inL s j && decide (j ≠ i)) := fun j => by
    unfold inL
    cases c : s.contains (j : Int)
    · simp at c ⊢
      intro h1; exact absurd h1 c
    · simp at c ⊢
      by_cases e : j = i
      · subst e; simp
      · simp [c, e]
        omega
  refine h.min (s.filter (fun x => decide (x ≠ (i : Int)))) (ext_iff.2 ⟨fun x hx' => hx.1 x (List.mem_filter.1 hx').1, hx.2.filter _⟩) (enough_of hv (f := f) ⟨fun j hj => ?_, hD.net⟩) (.inl ?_)
  · have h1 := hD.bd j hj
    unfold capS at h1 ⊢
    rw [hin]
    by_cases e : j = i
    · subst e; simp [h0]
    · simpa [e] using h1
  · exact List.length_filter_lt_length_iff_exists.2 ⟨(i : Int), inL_iff.1 hi, by simp⟩
theorem few_pos {b : BookD} (hv : VBook b) {s : List Int} {f : Nat → Int} (h : FewOk b s f) {i : Nat} (hn : i < b.cons.length) (hi : inL s i = true) : 1 ≤ f i := by
  have h1 := h.del.bd i hn
  refine Classical.byContradiction fun hlt => few_less hv h.min h.del hi (by omega)
theorem few_out {b : BookD} {s : List Int} {f : Nat → Int} (h : FewOk b s f) {i : Nat} (hn : i < b.cons.length) (hi : inL s i = false) : f i = 0 := by
  have h1 := h.del.bd i hn
  unfold capS at h1
  rw [hi] at h1
  simp at h1
  omega
theorem ind_sum {n : Nat} : ∀ {e : List Int} {fr : Int}, 0 ≤ fr → Ext n e fr → sumR n (fun i => if inL e i then 1 else 0) = e.length
  | [], fr, _, _ => by
    have : (fun i : Nat => if inL [] i = true then (1 : Int) else 0) = fun _ => 0 := by funext i; simp [inL]
    rw [this, sumR_zero]; rfl
  | x :: e, fr, h0, hx => by
    obtain ⟨h1, h2, h3⟩ := ext_cons.1 hx
    have ih := ind_sum (by omega) h3
    have hno : ∀ i : Nat, x = (i : Int) → inL e i = false := fun i hi => by
      cases c : inL e i
      · rfl
      · have := ((ext_iff.1 h3).1 _ (inL_iff.1 c)).1
        omega
    have e1 : (fun i : Nat => if inL (x :: e) i = true then (1 : Int) else 0) = fun i : Nat => (if x = (i : Int) then 1 else 0) + (if inL e i = true then 1 else 0) := by
      funext i
      by_cases c : x = (i : Int)
      · have hc : inL (x :: e) i = true := inL_iff.2 (by rw [c]; exact List.mem_cons_self)
        rw [if_pos hc, if_pos c, hno i c]; rfl
      · have hc : inL (x :: e) i = inL e i := by
          cases d : inL e i
          · cases d2 : inL (x :: e) i
            · rfl
            · rcases List.mem_cons.1 (inL_iff.1 d2) with h | h
              · exact absurd h.symm c
              · rw [inL_iff.2 h] at d; cases d
          · exact inL_iff.2 (List.mem_cons_of_mem _ (inL_iff.1 d))
        rw [hc, if_neg c]; omega
    rw [e1, sumR_add, sumR_one (by omega) h2, ih]
    simp; omega
theorem dig_len (f : Nat → Int) (n : Nat) : (digL f n).length = n := by simp [digL]
theorem few_above {b : BookD} (hv : VBook b) {s : List Int} {f : Nat → Int} (h : FewOk b s f) : aboveN (digL f b.cons.length) = s.length := by
  have h1 : aboveN (digL f b.cons.length) = sumR b.cons.length (fun i => pos1 (f i)) := by
    unfold aboveN sumR digL
    rw [List.map_map]
    rfl
  rw [h1, ← ind_sum (Int.le_refl 0) h.min.ext]
  refine sumR_congr fun i hi => ?_
  unfold pos1
  cases c : inL s i
  · rw [few_out h hi c]; rfl
  · have := few_pos hv h hi c
    rw [if_pos (by omega)]; rfl
theorem few_deliv {b : BookD} (hv : VBook b) {s : List Int} {f : Nat → Int} (h : FewOk b s f) : delivB b (digL f b.cons.length) = true := by
  unfold delivB
  rw [Bool.and_eq_true]
  refine ⟨listed_iff.2 ⟨dig_len f _, fun k hk => ?_⟩, decide_eq_true ?_⟩
  · rw [dig_len] at hk
    rw [digL_at hk]
    have h1 := h.del.bd k hk
    have h2 := hv.num k hk
    unfold capS at h1
    split at h1
    · exact h1
    · omega
  · rw [netL_congr (g := f) fun i hi => digL_at hi]
    exact List.map_congr_left fun v _ => h.del.net v
end Go.Proofs.Ytilhflfbbfeakaa
end
section
namespace Go.Proofs.Ytilhflfbbfeakaa
open Go Go.RowKit Go.Tl
set_option linter.unusedVariables false
set_option linter.unusedSimpArgs false
set_option maxRecDepth 100000
set_option maxHeartbeats 4000000
attribute [local irreducible] AWP AWL AOp PV LV AWT AWE
section
variable {c : ConD} {l : List Int} {i g7 : Nat} {cp : Bool} {u2 u4 u5 : AV} {rest : List Ent} {v : Int}
end
/-- the houses that are sold to by houses that are still in -/
def bghI (b : BookD) (S I : Nat) : Nat → Nat
  | 0 => 0
  | i + 1 => if S.testBit i && I.testBit (b.cons.getD i default).frm.toNat then bghI b S I i ||| 2 ^ (b.cons.getD i default).to.toNat else bghI b S I i
/-- who is still in -/
def plI (b : BookD) (S : Nat) : Nat → Nat
  | 0 => 2 ^ b.houses.toNat - 1
  | k + 1 => plI b S k &&& bghI b S (plI b S k) b.cons.length
theorem bgh_lt {b : BookD} (hv : VBook b) (S I : Nat) : ∀ i, i ≤ b.cons.length → bghI b S I i < 64
  | 0, _ => by simp [bghI]
  | i + 1, hi => by
    have ih := bgh_lt hv S I i (by omega)
    have ht := hv.to i (by omega)
    have hh := hv.houses
    simp only [bghI]
    split
    · have h2 : 2 ^ (b.cons.getD i default).to.toNat < 2 ^ 6 := Nat.pow_lt_pow_right (by omega) (by omega)
      exact Nat.or_lt_two_pow (n := 6) ih h2
    · exact ih
theorem pl_lt {b : BookD} (hv : VBook b) (S : Nat) : ∀ k, plI b S k < 64
  | 0 => by
    have hh := hv.houses
    have : 2 ^ b.houses.toNat ≤ 2 ^ 6 := Nat.pow_le_pow_right (by omega) (by omega)
    show 2 ^ b.houses.toNat - 1 < 64
    omega
  | k + 1 => by
    have := pl_lt hv S k
    have h2 : (plI b S k &&& bghI b S (plI b S k) b.cons.length) ≤ plI b S k := Nat.and_le_left
    show (_ &&& _) < 64
    omega
theorem bgh_bit {b : BookD} {S I v : Nat} : ∀ {i : Nat}, (bghI b S I i).testBit v = true → ∃ j, j < i ∧ S.testBit j = true ∧ I.testBit (b.cons.getD j default).frm.toNat = true ∧ (b.cons.getD j default).to.toNat = v
  | 0, h => by simp [bghI] at h
  | i + 1, h => by
    simp only [bghI] at h
    split at h
    · rename_i hc
      simp only [Bool.and_eq_true] at hc
      rw [Nat.testBit_or, Bool.or_eq_true] at h
      rcases h with h | h
      · obtain ⟨j, hj, r⟩ := bgh_bit h
        exact ⟨j, by omega, r⟩
      · rw [Nat.testBit_two_pow] at h
        exact ⟨i, Nat.lt_succ_self _, hc.1, hc.2, of_decide_eq_true h⟩
    · obtain ⟨j, hj, r⟩ := bgh_bit h
      exact ⟨j, by omega, r⟩
theorem hasring_p (cp : Bool) (b : BookD) (S : Nat) (hv : VBook b) (hS : S < 1000) : PCall Try.prog 44 [bookA cp b, intA S] (fun r => r = boolA (decide (((plI b S b.houses.toNat : Nat) : Int) ≠ 0))) := by
  have hh := hv.houses
  have hlen := hv.len
  obtain ⟨n, hn⟩ : ∃ n : Nat, b.houses = n := ⟨b.houses.toNat, by omega⟩
  have hnt : b.houses.toNat = n := by omega
  refine acall_of_awp T0 Try.func44 rfl rfl rfl ?_
  rw [hnt]
  have hsh : IntKind.i64.wrap (1 * 2 ^ (min b.houses.toNat 64)) = ((2 ^ n : Nat) : Int) := shl_one hn (by omega)
  have hpos : 1 ≤ 2 ^ n := Nat.one_le_two_pow
  have hpu : 2 ^ n ≤ 2 ^ 6 := Nat.pow_le_pow_right (by omega) (by omega)
  have hp0 : ((2 ^ n : Nat) : Int) - 1 = ((plI b S 0 : Nat) : Int) := by show _ = ((2 ^ b.houses.toNat - 1 : Nat) : Int); rw [hnt]; omega
  generalize 2 ^ n = q at *
  repeat (first | refine awp_seq ?_ | refine awp_region_lit rfl ?_)
  refine awl_hw (by first | exact wt_none rfl | exact wt_some' rfl rfl rfl rfl (by first | rfl | assumption | exact dT (by omega) | exact dF (by omega))) (st_box rfl rfl (by first | rfl | assumption) (by first | assumption | (simp only [cellsA]; rfl)) rfl rfl ?_)
  intro g2
  repeat (first | refine awp_seq ?_ | refine awp_region_lit rfl ?_ | ((first | (show AWL _ _ _ (⟨_, .assign _, _, _, _, _⟩ :: _) _ _ _; refine awl_pw ?w (pv_assign rfl rfl) rfl rfl ?_) | (show AWL _ _ _ (⟨_, .load _ _, _, _, _, _⟩ :: _) _ _ _; refine awl_lw ?w (lv_cl1 T0 rfl rfl rfl (by solve | repeat' constructor) (by first | rfl | assumption)) rfl rfl rfl ?_) | (show AWL _ _ _ (⟨_, .fieldAddr _ _ _, _, _, _, _⟩ :: _) _ _ _; refine awl_pw ?w (pv_fa T0 rfl rfl rfl (by simp; rfl)) rfl rfl ?_)); case w => first | exact wt_none rfl | exact wt_some' rfl rfl rfl rfl (by first | rfl | assumption | exact dT (by omega) | exact dF (by omega))) | refine awl_nil ?_)
  refine awl_pw (wt_none rfl) (pv_convert rfl rfl Try.underlying3 Try.underlying84 (wu64 (by omega))) rfl rfl ?_
  refine awl_pw (wt_none rfl) (pv_shl rfl rfl rfl (by omega) hsh) rfl rfl ?_
  repeat (first | refine awp_seq ?_ | refine awp_block ?_ | refine awp_region_lit rfl ?_ | ((first | (show AWL _ _ _ (⟨_, .assign _, _, _, _, _⟩ :: _) _ _ _; refine awl_pw ?w (pv_assign rfl rfl) rfl rfl ?_) | (show AWL _ _ _ (⟨_, .binOp .sub _ _ _ _, _, _, _, _⟩ :: _) _ _ _; refine awl_pw ?w (pv_sub rfl rfl rfl (by first | assumption | exact wr64 (by omega))) rfl rfl ?_)); case w => first | exact wt_none rfl | exact wt_some' rfl rfl rfl rfl (by first | rfl | assumption | exact dT (by omega) | exact dF (by omega))) | refine awl_nil ?_)
  rw [hp0]
  refine awp_loop (fun m s h => ∃ (k : Nat), k ≤ n ∧ m = n - k ∧ s = [(1, intA S), (2, .v (ptrV g2)), (5, intA (plI b S k : Nat)), (6, intA k)] ∧ h = [.cl g2 24 [intA b.houses, .t (consT cp b.cons)]]) ?_ ⟨0, Nat.zero_le _, rfl, rfl, rfl⟩ (by first | ((repeat' (first | exact True.intro | refine ⟨rfl, ?_⟩)); all_goals fail) | fail) (by solve | repeat' constructor)
  rintro m s h ⟨k, hk, rfl, rfl, rfl⟩
  by_cases hlt : (k : Int) < b.houses
  case neg =>
    obtain rfl : k = n := by omega
    repeat (first | refine awp_seq ?_ | refine awp_region_lit rfl ?_ | refine awp_exit ?_ | refine awp_ret ?_ | refine then_n ?_ | refine awp_cond_f rfl (by first | rfl | assumption | exact dF (by omega)) ?_ | ((first | (show AWL _ _ _ (⟨_, .move _, _, _, _, _⟩ :: _) _ _ _; refine awl_pw ?w (pv_move rfl rfl) rfl rfl ?_) | (show AWL _ _ _ (⟨_, .assign _, _, _, _, _⟩ :: _) _ _ _; refine awl_pw ?w (pv_assign rfl rfl) rfl rfl ?_) | (show AWL _ _ _ (⟨_, .load _ _, _, _, _, _⟩ :: _) _ _ _; refine awl_lw ?w (lv_cl1 T0 rfl rfl rfl (by solve | repeat' constructor) (by first | rfl | assumption)) rfl rfl rfl ?_) | (show AWL _ _ _ (⟨_, .fieldAddr _ _ _, _, _, _, _⟩ :: _) _ _ _; refine awl_pw ?w (pv_fa T0 rfl rfl rfl (by simp; rfl)) rfl rfl ?_) | (show AWL _ _ _ (⟨_, .binOp .lss _ _ _ _, _, _, _, _⟩ :: _) _ _ _; refine awl_pw ?w (pv_lss rfl rfl rfl) rfl rfl ?_) | (show AWL _ _ _ (⟨_, .binOp .neq _ _ _ _, _, _, _, _⟩ :: _) _ _ _; refine awl_pw ?w (pv_neq rfl rfl rfl) rfl rfl ?_)); case w => first | exact wt_none rfl | exact wt_some' rfl rfl rfl rfl (by first | rfl | assumption | exact dT (by omega) | exact dF (by omega))) | refine awl_nil ?_)
    exact body_p (.cons rfl .nil) rfl
  have hI := pl_lt hv S k
  have hIs : plI b S (k + 1) = plI b S k &&& bghI b S (plI b S k) b.cons.length := rfl
  generalize plI b S k = I at *
  repeat (first | refine awp_seq ?_ | refine awp_block ?_ | refine awp_region_lit rfl ?_ | refine awp_skip ?_ | refine then_n ?_ | refine awp_cond_t rfl (by first | rfl | assumption | exact dT (by omega)) ?_ | ((first | (show AWL _ _ _ (⟨_, .move _, _, _, _, _⟩ :: _) _ _ _; refine awl_pw ?w (pv_move rfl rfl) rfl rfl ?_) | (show AWL _ _ _ (⟨_, .assign _, _, _, _, _⟩ :: _) _ _ _; refine awl_pw ?w (pv_assign rfl rfl) rfl rfl ?_) | (show AWL _ _ _ (⟨_, .load _ _, _, _, _, _⟩ :: _) _ _ _; refine awl_lw ?w (lv_cl1 T0 rfl rfl rfl (by solve | repeat' constructor) (by first | rfl | assumption)) rfl rfl rfl ?_) | (show AWL _ _ _ (⟨_, .fieldAddr _ _ _, _, _, _, _⟩ :: _) _ _ _; refine awl_pw ?w (pv_fa T0 rfl rfl rfl (by simp; rfl)) rfl rfl ?_) | (show AWL _ _ _ (⟨_, .binOp .lss _ _ _ _, _, _, _, _⟩ :: _) _ _ _; refine awl_pw ?w (pv_lss rfl rfl rfl) rfl rfl ?_)); case w => first | exact wt_none rfl | exact wt_some' rfl rfl rfl rfl (by first | rfl | assumption | exact dT (by omega) | exact dF (by omega))) | refine awl_nil ?_)
  refine awp_loop (fun m s h => ∃ (i : Nat), i ≤ b.cons.length ∧ m = b.cons.length - i ∧ s = [(1, intA S), (2, .v (ptrV g2)), (5, intA I), (6, intA k), (7, intA (bghI b S I i : Nat)), (8, intA i)] ∧ h = [.cl g2 24 [intA b.houses, .t (consT cp b.cons)]]) ?_ ⟨0, Nat.zero_le _, rfl, rfl, rfl⟩ (by first | ((repeat' (first | exact True.intro | refine ⟨rfl, ?_⟩)); all_goals fail) | fail) (by solve | repeat' constructor)
  rintro m s h ⟨i, hi, rfl, rfl, rfl⟩
  by_cases hlt2 : i < b.cons.length
  case neg =>
    obtain rfl : i = b.cons.length := by omega
    have hB := bgh_lt hv S I b.cons.length (Nat.le_refl _)
    repeat (first | refine awp_seq ?_ | refine awp_region_lit rfl ?_ | refine awp_exit ?_ | refine then_n ?_ | refine awp_cond_f rfl (by first | rfl | assumption | exact dF (by omega)) ?_ | ((first | (show AWL _ _ _ (⟨_, .move _, _, _, _, _⟩ :: _) _ _ _; refine awl_pw ?w (pv_move rfl rfl) rfl rfl ?_) | (show AWL _ _ _ (⟨_, .load _ _, _, _, _, _⟩ :: _) _ _ _; refine awl_lw ?w (lv_cl1 T0 rfl rfl rfl (by solve | repeat' constructor) (by first | rfl | assumption)) rfl rfl rfl ?_) | (show AWL _ _ _ (⟨_, .fieldAddr _ _ _, _, _, _, _⟩ :: _) _ _ _; refine awl_pw ?w (pv_fa T0 rfl rfl rfl (by simp; rfl)) rfl rfl ?_) | (show AWL _ _ _ (⟨_, .binOp .lss _ _ _ _, _, _, _, _⟩ :: _) _ _ _; refine awl_pw ?w (pv_lss rfl rfl rfl) rfl rfl ?_) | (show AWL _ _ _ (⟨_, .call ⟨.builtin .len, _, _⟩, _, _, _, _⟩ :: _) _ _ _; refine awl_pw ?w (pv_len_t T0 rfl rfl rfl) rfl rfl ?_)); case w => first | exact wt_none rfl | exact wt_some' rfl rfl rfl rfl (by first | rfl | assumption | exact dT (by omega) | exact dF (by omega))) | refine awl_nil ?_)
    refine awl_pw (wt_none rfl) (pv_and rfl rfl rfl (by omega) (by omega)) rfl rfl ?_
    repeat (first | refine awp_region_lit rfl ?_ | ((first | (show AWL _ _ _ (⟨_, .move _, _, _, _, _⟩ :: _) _ _ _; refine awl_pw ?w (pv_move rfl rfl) rfl rfl ?_) | (show AWL _ _ _ (⟨_, .assign _, _, _, _, _⟩ :: _) _ _ _; refine awl_pw ?w (pv_assign rfl rfl) rfl rfl ?_) | (show AWL _ _ _ (⟨_, .binOp .add _ _ _ _, _, _, _, _⟩ :: _) _ _ _; refine awl_pw ?w (pv_add rfl rfl rfl (by first | assumption | exact wr64 (by omega))) rfl rfl ?_)); case w => first | exact wt_none rfl | exact wt_some' rfl rfl rfl rfl (by first | rfl | assumption | exact dT (by omega) | exact dF (by omega))) | refine awl_nil ?_)
    refine rnd_n _ _ _ ?_ ⟨k + 1, by omega, rfl, by rw [hIs], rfl⟩ (by first | ((repeat' (first | exact True.intro | refine ⟨rfl, ?_⟩)); all_goals fail) | fail) (by solve | repeat' constructor)
    omega
  have hf := hv.frm i hlt2
  have ht := hv.to i hlt2
  have hB := bgh_lt hv S I i hi
  have hBs : bghI b S I (i + 1) = if S.testBit i && I.testBit (b.cons.getD i default).frm.toNat then bghI b S I i ||| 2 ^ (b.cons.getD i default).to.toNat else bghI b S I i := rfl
  have hs1 := bit_fdiv S (i := (i : Int)) (j := i) rfl (by omega)
  have hr1 := bit_rem (S / 2 ^ i)
  have hd1 := bit_dec S i
  obtain ⟨jf, hjf⟩ : ∃ j : Nat, (b.cons.getD i default).frm = j := ⟨_, (Int.toNat_of_nonneg hf.1).symm⟩
  obtain ⟨jt, hjt⟩ : ∃ j : Nat, (b.cons.getD i default).to = j := ⟨_, (Int.toNat_of_nonneg ht.1).symm⟩
  have hs2 := bit_fdiv I (i := (b.cons.getD i default).frm) (j := jf) hjf (by omega)
  have hr2 := bit_rem (I / 2 ^ jf)
  have hd2 := bit_dec I jf
  have hs3 := shl_one (i := (b.cons.getD i default).to) (j := jt) hjt (by omega)
  have h2t : 2 ^ jt < 2 ^ 20 := Nat.pow_lt_pow_right (by omega) (by omega)
  rw [hjf, hjt, Int.toNat_natCast, Int.toNat_natCast] at hBs
  repeat (first | refine awp_seq ?_ | refine awp_block ?_ | refine awp_region_lit rfl ?_ | refine awp_skip ?_ | refine then_n ?_ | refine awp_cond_t rfl (by first | rfl | assumption | exact dT (by omega)) ?_ | ((first | (show AWL _ _ _ (⟨_, .move _, _, _, _, _⟩ :: _) _ _ _; refine awl_pw ?w (pv_move rfl rfl) rfl rfl ?_) | (show AWL _ _ _ (⟨_, .load _ _, _, _, _, _⟩ :: _) _ _ _; refine awl_lw ?w (lv_cl1 T0 rfl rfl rfl (by solve | repeat' constructor) (by first | rfl | assumption)) rfl rfl rfl ?_) | (show AWL _ _ _ (⟨_, .load _ _, _, _, _, _⟩ :: _) _ _ _; refine awl_lw ?w (lv_elt_ag T0 rfl rfl rfl rfl (by solve | repeat' constructor)) rfl rfl rfl ?_) | (show AWL _ _ _ (⟨_, .fieldAddr _ _ _, _, _, _, _⟩ :: _) _ _ _; refine awl_pw ?w (pv_fa T0 rfl rfl rfl (by simp; rfl)) rfl rfl ?_) | (show AWL _ _ _ (⟨_, .indexAddr _ _ _, _, _, _, _⟩ :: _) _ _ _; refine awl_pw ?w (pv_ix_t T0 rfl rfl rfl rfl (by omega) (by first | exact Int.toNat_natCast _ | rfl)) rfl rfl ?_) | (show AWL _ _ _ (⟨_, .binOp .lss _ _ _ _, _, _, _, _⟩ :: _) _ _ _; refine awl_pw ?w (pv_lss rfl rfl rfl) rfl rfl ?_) | (show AWL _ _ _ (⟨_, .call ⟨.builtin .len, _, _⟩, _, _, _, _⟩ :: _) _ _ _; refine awl_pw ?w (pv_len_t T0 rfl rfl rfl) rfl rfl ?_)); case w => first | exact wt_none rfl | exact wt_some' rfl rfl rfl rfl (by first | rfl | assumption | exact dT (by omega) | exact dF (by omega))) | refine awl_nil ?_)
  refine awl_hw (by first | exact wt_none rfl | exact wt_some' rfl rfl rfl rfl (by first | rfl | assumption | exact dT (by omega) | exact dF (by omega))) (st_alloc T0 rfl rfl rfl rfl (by simp only [Value.cells, List.toList_toArray, List.map_cons, List.map_nil]; rfl) ?_)
  intro g9
  repeat (first | refine awp_seq ?_ | refine awp_region_lit rfl ?_ | ((first | (show AWL _ _ _ (⟨_, .move _, _, _, _, _⟩ :: _) _ _ _; refine awl_pw ?w (pv_move rfl rfl) rfl rfl ?_)); case w => first | exact wt_none rfl | exact wt_some' rfl rfl rfl rfl (by first | rfl | assumption | exact dT (by omega) | exact dF (by omega))) | (show AWL _ _ _ (⟨_, .store _ _ _, _, _, _, _⟩ :: _) _ _ _; refine awl_hw (by first | exact wt_none rfl | exact wt_some' rfl rfl rfl rfl (by first | rfl | assumption | exact dT (by omega) | exact dF (by omega))) (st_store T0 rfl rfl rfl rfl rfl (by first | assumption | (simp only [cellsA]; rfl)) rfl rfl rfl (by solve | repeat' constructor) (by solve | repeat' constructor) trivial ?_)) | refine awl_nil ?_)
  refine awl_pw (wt_none rfl) (pv_convert rfl rfl Try.underlying3 Try.underlying84 (wu64 (by omega))) rfl rfl ?_
  refine awl_pw (wt_none rfl) (pv_shr rfl rfl rfl (by omega) hs1) rfl rfl ?_
  repeat (first | ((first | (show AWL _ _ _ (⟨_, .move _, _, _, _, _⟩ :: _) _ _ _; refine awl_pw ?w (pv_move rfl rfl) rfl rfl ?_) | (show AWL _ _ _ (⟨_, .binOp .rem _ _ _ _, _, _, _, _⟩ :: _) _ _ _; refine awl_pw ?w (pv_rem rfl rfl rfl (by omega) (by first | assumption | rfl)) rfl rfl ?_) | (show AWL _ _ _ (⟨_, .binOp .eql _ _ _ _, _, _, _, _⟩ :: _) _ _ _; refine awl_pw ?w (pv_eql rfl rfl rfl) rfl rfl ?_)); case w => first | exact wt_none rfl | exact wt_some' rfl rfl rfl rfl (by first | rfl | assumption | exact dT (by omega) | exact dF (by omega))))
  rw [hd1]
  cases e1 : S.testBit i
  · have hB1 : bghI b S I (i + 1) = bghI b S I i := by rw [hBs, e1]; rfl
    repeat (first | refine awp_region_lit rfl ?_ | refine awp_skip ?_ | refine then_n ?_ | refine awp_cond_f rfl (by first | rfl | assumption | exact dF (by omega)) ?_ | ((first | (show AWL _ _ _ (⟨_, .move _, _, _, _, _⟩ :: _) _ _ _; refine awl_pw ?w (pv_move rfl rfl) rfl rfl ?_) | (show AWL _ _ _ (⟨_, .assign _, _, _, _, _⟩ :: _) _ _ _; refine awl_pw ?w (pv_assign rfl rfl) rfl rfl ?_) | (show AWL _ _ _ (⟨_, .fieldAddr _ _ _, _, _, _, _⟩ :: _) _ _ _; refine awl_pw ?w (pv_fa T0 rfl rfl rfl (by simp; rfl)) rfl rfl ?_) | (show AWL _ _ _ (⟨_, .binOp .add _ _ _ _, _, _, _, _⟩ :: _) _ _ _; refine awl_pw ?w (pv_add rfl rfl rfl (by first | assumption | exact wr64 (by omega))) rfl rfl ?_) | (show AWL _ _ _ (⟨_, .pick _ _ _, _, _, _, _⟩ :: _) _ _ _; refine awl_pw ?w (pv_pick_f rfl rfl (by first | rfl | assumption | exact dT (by omega) | exact dF (by omega)) rfl) rfl rfl ?_)); case w => first | exact wt_none rfl | exact wt_some' rfl rfl rfl rfl (by first | rfl | assumption | exact dT (by omega) | exact dF (by omega))) | refine awl_sk (wf_some rfl rfl rfl rfl (by first | rfl | assumption | exact dT (by omega) | exact dF (by omega))) rfl rfl ?_ | refine awl_nil ?_)
    refine rnd_n _ _ _ ?_ ⟨i + 1, hlt2, rfl, by rw [hB1], rfl⟩ (by first | ((repeat' (first | exact True.intro | refine ⟨rfl, ?_⟩)); all_goals fail) | fail) (by solve | repeat' constructor)
    omega
  repeat (first | ((first | (show AWL _ _ _ (⟨_, .move _, _, _, _, _⟩ :: _) _ _ _; refine awl_pw ?w (pv_move rfl rfl) rfl rfl ?_) | (show AWL _ _ _ (⟨_, .load _ _, _, _, _, _⟩ :: _) _ _ _; refine awl_lw ?w (lv_cl1 T0 rfl rfl rfl (by solve | repeat' constructor) (by first | rfl | assumption)) rfl rfl rfl ?_) | (show AWL _ _ _ (⟨_, .fieldAddr _ _ _, _, _, _, _⟩ :: _) _ _ _; refine awl_pw ?w (pv_fa T0 rfl rfl rfl (by simp; rfl)) rfl rfl ?_)); case w => first | exact wt_none rfl | exact wt_some' rfl rfl rfl rfl (by first | rfl | assumption | exact dT (by omega) | exact dF (by omega))))
  refine awl_pw (wt_some' rfl rfl rfl rfl rfl) (pv_convert rfl rfl Try.underlying3 Try.underlying84 (wu64 (by omega))) rfl rfl ?_
  refine awl_pw (wt_some' rfl rfl rfl rfl rfl) (pv_shr rfl rfl rfl (by omega) hs2) rfl rfl ?_
  repeat (first | refine then_n ?_ | ((first | (show AWL _ _ _ (⟨_, .binOp .rem _ _ _ _, _, _, _, _⟩ :: _) _ _ _; refine awl_pw ?w (pv_rem rfl rfl rfl (by omega) (by first | assumption | rfl)) rfl rfl ?_) | (show AWL _ _ _ (⟨_, .binOp .eql _ _ _ _, _, _, _, _⟩ :: _) _ _ _; refine awl_pw ?w (pv_eql rfl rfl rfl) rfl rfl ?_) | (show AWL _ _ _ (⟨_, .pick _ _ _, _, _, _, _⟩ :: _) _ _ _; refine awl_pw ?w (pv_pick_t rfl rfl (by first | rfl | assumption | exact dT (by omega) | exact dF (by omega)) rfl) rfl rfl ?_)); case w => first | exact wt_none rfl | exact wt_some' rfl rfl rfl rfl (by first | rfl | assumption | exact dT (by omega) | exact dF (by omega))) | refine awl_nil ?_)
  rw [hd2]
  cases e2 : I.testBit jf
  · have hB1 : bghI b S I (i + 1) = bghI b S I i := by rw [hBs, e1, e2]; rfl
    repeat (first | refine awp_region_lit rfl ?_ | refine awp_skip ?_ | refine awp_cond_f rfl (by first | rfl | assumption | exact dF (by omega)) ?_ | ((first | (show AWL _ _ _ (⟨_, .move _, _, _, _, _⟩ :: _) _ _ _; refine awl_pw ?w (pv_move rfl rfl) rfl rfl ?_) | (show AWL _ _ _ (⟨_, .assign _, _, _, _, _⟩ :: _) _ _ _; refine awl_pw ?w (pv_assign rfl rfl) rfl rfl ?_) | (show AWL _ _ _ (⟨_, .binOp .add _ _ _ _, _, _, _, _⟩ :: _) _ _ _; refine awl_pw ?w (pv_add rfl rfl rfl (by first | assumption | exact wr64 (by omega))) rfl rfl ?_)); case w => first | exact wt_none rfl | exact wt_some' rfl rfl rfl rfl (by first | rfl | assumption | exact dT (by omega) | exact dF (by omega))) | refine awl_nil ?_)
    refine rnd_n _ _ _ ?_ ⟨i + 1, hlt2, rfl, by rw [hB1], rfl⟩ (by first | ((repeat' (first | exact True.intro | refine ⟨rfl, ?_⟩)); all_goals fail) | fail) (by solve | repeat' constructor)
    omega
  have hB1 : bghI b S I (i + 1) = bghI b S I i ||| 2 ^ jt := by rw [hBs, e1, e2]; rfl
  repeat (first | refine awp_region_lit rfl ?_ | refine awp_cond_t rfl (by first | rfl | assumption | exact dT (by omega)) ?_ | ((first | (show AWL _ _ _ (⟨_, .move _, _, _, _, _⟩ :: _) _ _ _; refine awl_pw ?w (pv_move rfl rfl) rfl rfl ?_) | (show AWL _ _ _ (⟨_, .load _ _, _, _, _, _⟩ :: _) _ _ _; refine awl_lw ?w (lv_cl1 T0 rfl rfl rfl (by solve | repeat' constructor) (by first | rfl | assumption)) rfl rfl rfl ?_) | (show AWL _ _ _ (⟨_, .fieldAddr _ _ _, _, _, _, _⟩ :: _) _ _ _; refine awl_pw ?w (pv_fa T0 rfl rfl rfl (by simp; rfl)) rfl rfl ?_)); case w => first | exact wt_none rfl | exact wt_some' rfl rfl rfl rfl (by first | rfl | assumption | exact dT (by omega) | exact dF (by omega))))
  refine awl_pw (wt_none rfl) (pv_convert rfl rfl Try.underlying3 Try.underlying84 (wu64 (by omega))) rfl rfl ?_
  refine awl_pw (wt_none rfl) (pv_shl rfl rfl rfl (by omega) hs3) rfl rfl ?_
  refine awl_pw (wt_none rfl) (pv_or rfl rfl rfl (by omega) h2t) rfl rfl ?_
  repeat (first | refine awp_region_lit rfl ?_ | ((first | (show AWL _ _ _ (⟨_, .move _, _, _, _, _⟩ :: _) _ _ _; refine awl_pw ?w (pv_move rfl rfl) rfl rfl ?_) | (show AWL _ _ _ (⟨_, .assign _, _, _, _, _⟩ :: _) _ _ _; refine awl_pw ?w (pv_assign rfl rfl) rfl rfl ?_) | (show AWL _ _ _ (⟨_, .binOp .add _ _ _ _, _, _, _, _⟩ :: _) _ _ _; refine awl_pw ?w (pv_add rfl rfl rfl (by first | assumption | exact wr64 (by omega))) rfl rfl ?_)); case w => first | exact wt_none rfl | exact wt_some' rfl rfl rfl rfl (by first | rfl | assumption | exact dT (by omega) | exact dF (by omega))) | refine awl_nil ?_)
  refine rnd_n _ _ _ ?_ ⟨i + 1, hlt2, rfl, by rw [hB1], rfl⟩ (by first | ((repeat' (first | exact True.intro | refine ⟨rfl, ?_⟩)); all_goals fail) | fail) (by solve | repeat' constructor)
  omega
end Go.Proofs.Ytilhflfbbfeakaa
end
section
namespace Go.Proofs.Ytilhflfbbfeakaa
open Go Go.RowKit Go.Tl
set_option linter.unusedVariables false
set_option linter.unusedSimpArgs false
/-- houses that are sold to by houses that are still in, one behind the other -/
theorem chain_ex {b : BookD} {S : Nat} : ∀ (k v : Nat), (plI b S k).testBit v = true → ∃ (c : Nat → Nat) (arc : Nat → Arc), c 0 = v ∧ (∀ m, m ≤ k → c m < b.houses.toNat) ∧
    ∀ m, m < k → (arc m).2 = false ∧ (arc m).1 < b.cons.length ∧ S.testBit (arc m).1 = true ∧ aT b (arc m) = c m ∧ aF b (arc m) = c (m + 1)
  | 0, v, h => by
    have h' : (2 ^ b.houses.toNat - 1).testBit v = true := h
    rw [Nat.testBit_two_pow_sub_one] at h'
    have := of_decide_eq_true h'
    exact ⟨fun _ => v, fun _ => (0, false), rfl, fun m _ => this, fun m hm => absurd hm (Nat.not_lt_zero _)⟩
  | k + 1, v, h => by
    have h2 : (plI b S k &&& bghI b S (plI b S k) b.cons.length).testBit v = true := h
    rw [Nat.testBit_and, Bool.and_eq_true] at h2
    obtain ⟨j, hj, hS, hI, hto⟩ := bgh_bit h2.2
    obtain ⟨c0, _, h0, h1, _⟩ := chain_ex k v h2.1
    obtain ⟨c, arc, e0, hc, ha⟩ := chain_ex k _ hI
    refine ⟨fun m => match m with | 0 => v | m + 1 => c m, fun m => match m with | 0 => (j, false) | m + 1 => arc m, rfl, fun m hm => ?_, fun m hm => ?_⟩
    · cases m with
      | zero => have := h1 0 (Nat.zero_le _); rw [h0] at this; exact this
      | succ m => exact hc m (by omega)
    · cases m with
      | zero => exact ⟨rfl, hj, hS, hto, e0.symm⟩
      | succ m => exact ha m (by omega)
theorem eff_nn {arc : Nat → Arc} {x : Int} (hx : 0 ≤ x) {a : Arc} : ∀ m, 0 ≤ eff arc x a m
  | 0 => Int.le_refl _
  | m + 1 => by have := eff_nn (arc := arc) hx (a := a) m; simp only [eff]; split <;> omega
theorem eff_hit {arc : Nat → Arc} {x : Int} (hx : 0 ≤ x) {a : Arc} : ∀ {m j : Nat}, j < m → arc j = a → x ≤ eff arc x a m
  | 0, _, h, _ => absurd h (Nat.not_lt_zero _)
  | m + 1, j, h, e => by
    have := eff_nn (arc := arc) hx (a := a) m
    simp only [eff]
    by_cases c : j = m
    · subst c; rw [if_pos e]; omega
    · have := eff_hit (arc := arc) hx (m := m) (show j < m by omega) e
      split <;> omega
theorem sumR_neg (q : Nat) : sumR q (fun _ => (-1 : Int)) = -(q : Int) := by
  induction q with
  | zero => rfl
  | succ q ih => rw [sumR_succ, ih]; omega
theorem min_ex {g : Nat → Int} : ∀ {q : Nat}, 1 ≤ q → ∃ m, m < q ∧ ∀ j, j < q → g m ≤ g j
  | 0, h => absurd h (by omega)
  | 1, _ => ⟨0, by omega, fun j hj => by
    have e : j = 0 := by omega
    rw [e]
    exact Int.le_refl _⟩
  | q + 2, _ => by
    obtain ⟨m, hm, h⟩ := min_ex (g := g) (q := q + 1) (by omega)
    by_cases c : g m ≤ g (q + 1)
    · exact ⟨m, by omega, fun j hj => by by_cases e : j = q + 1; subst e; exact c; exact h j (by omega)⟩
    · refine ⟨q + 1, by omega, fun j hj => ?_⟩
      by_cases e : j = q + 1
      · subst e; exact Int.le_refl _
      · have := h j (by omega); omega
theorem acc_sub' {cs : List ConD} {f g : Nat → Int} (h : Nat) : ∀ k, accN cs (fun i => f i - g i) k h = accN cs f k h - accN cs g k h
  | 0 => rfl
  | k + 1 => by
    simp only [accN]
    rw [acc_sub' h k]
    split <;> split <;> omega
theorem few_noring {b : BookD} (hv : VBook b) {s : List Int} {f : Nat → Int} (h : FewOk b s f) : plI b (maskL s s.length) b.houses.toNat = 0 := by
  have hh := hv.houses
  refine Nat.eq_of_testBit_eq fun v => ?_
  rw [Nat.zero_testBit]
  cases hv0 : (plI b (maskL s s.length) b.houses.toNat).testBit v
  · rfl
  exfalso
  obtain ⟨c, arc, _, hc, ha⟩ := chain_ex _ _ hv0
  generalize hH : b.houses.toNat = H at *
  obtain ⟨i, j, hj, hij, eij⟩ : ∃ i j, j ≤ H ∧ i < j ∧ c i = c j := by
    refine Classical.byContradiction fun hno => ?_
    have := pigeon H (H + 1) c (fun t ht => hc t (by omega)) (fun t u ht hu e => hno ⟨u, t, by omega, hu, e⟩)
    omega
  obtain ⟨q, hqle, ⟨hq1, i, hiq, eq⟩, hqm⟩ := least (P := fun d => 1 ≤ d ∧ ∃ i, i + d ≤ H ∧ c i = c (i + d)) (j - i) ⟨by omega, i, by omega, by rw [show i + (j - i) = j by omega]; exact eij⟩
  have hpos : ∀ m, m < q → 1 ≤ f (arc (i + m)).1 := fun m hm => by
    have := ha (i + m) (by omega)
    exact few_pos hv h this.2.1 (by rw [← mask_in h.min.ext]; exact this.2.2.1)
  have hcyc : CycA b (arcsL (fL f (fun _ => 0)) b.cons.length) (fun m => arc (i + m)) (fun m => c (i + m)) q := by
    refine ⟨hq1, fun m hm => mem_arcs.2 ⟨(ha (i + m) (by omega)).2.1, ?_⟩, fun m hm => (ha (i + m) (by omega)).2.2.2.1, fun m hm => (ha (i + m) (by omega)).2.2.2.2, eq.symm, fun m k hm hk e => ?_, ?_⟩
    · have h1 := (ha (i + m) (by omega)).1
      have h2 := hpos m hm
      unfold fL
      rw [h1]
      show 0 < f _ - 0
      omega
    · refine hqm (m - k) (by omega) ⟨by omega, i + k, by omega, ?_⟩
      rw [show i + k + (m - k) = i + m by omega]
      exact e
    · have : sumR q (fun m => aC (arc (i + m))) = sumR q (fun _ => (-1 : Int)) := sumR_congr fun m hm => by
        unfold aC; rw [(ha (i + m) (by omega)).1]; rfl
      rw [this, sumR_neg]
      omega
  obtain ⟨m0, hm0, hmin⟩ := min_ex (g := fun m => f (arc (i + m)).1) hq1
  have ho : OffF b f (fun _ => 0) := ⟨fun i hi => ⟨Int.le_refl _, (h.del.bd i hi).1⟩, fun v => acc_zero v _⟩
  have hx := hpos m0 hm0
  obtain ⟨hg, _⟩ := cyc_off hv (x := f (arc (i + m0)).1) ho hcyc hx (fun m hm => by
    have h1 := (ha (i + m) (by omega)).1
    have h2 := hmin m hm
    show _ ≤ fL f (fun _ => 0) (arc (i + m))
    unfold fL
    rw [h1]
    show _ ≤ f _ - 0
    omega)
  generalize hgd : pshR (fun _ => 0) (fun m => arc (i + m)) (f (arc (i + m0)).1) q = g at *
  have hi0 := ha (i + m0) (by omega)
  have hgi : g (arc (i + m0)).1 = f (arc (i + m0)).1 := by
    have h1 := (hg.bd _ hi0.2.1).2
    have h2 := pshR_eff (fun _ => 0) (fun m => arc (i + m)) (f (arc (i + m0)).1) (arc (i + m0)).1 q
    rw [hgd] at h2
    have h3 := eff_hit (arc := fun m => arc (i + m)) (x := f (arc (i + m0)).1) (by omega) (a := ((arc (i + m0)).1, false)) hm0 (by
      show arc (i + m0) = _
      rw [← hi0.1])
    have h4 : eff (fun m => arc (i + m)) (f (arc (i + m0)).1) ((arc (i + m0)).1, true) q = 0 := by
      have hne : ∀ j k, j < q → k < j → (fun m => arc (i + m)) k ≠ (fun m => arc (i + m)) j := fun j k hj hk e => hcyc.ne j k hj hk (by
        have e1 := hcyc.to j hj
        have e2 := hcyc.to k (by omega)
        rw [← e1, ← e2]
        exact (congrArg (aT b) e).symm ▸ rfl)
      rcases eff_one (x := f (arc (i + m0)).1) (a := ((arc (i + m0)).1, true)) q hne with h5 | ⟨_, j, hj, e⟩
      · exact h5
      · have h6 := (ha (i + j) (by omega)).1
        have e' : arc (i + j) = ((arc (i + m0)).1, true) := e
        rw [e'] at h6; cases h6
    omega
  refine few_less hv (f := fun i => f i - g i) h.min ⟨fun k hk => ?_, fun v => ?_⟩ (i := (arc (i + m0)).1) (by rw [← mask_in h.min.ext]; exact hi0.2.2.1) (by show f _ - g _ = 0; omega)
  · have h1 := hg.bd k hk
    have h2 := h.del.bd k hk
    show 0 ≤ f k - g k ∧ f k - g k ≤ _
    omega
  · rw [acc_sub', hg.net, ← h.del.net]; omega
end Go.Proofs.Ytilhflfbbfeakaa
end
