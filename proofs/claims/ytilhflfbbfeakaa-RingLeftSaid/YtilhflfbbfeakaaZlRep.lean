/- Joined texts: Lf, Rep. -/
import Derived.Test.YtilhflfbbfeakaaZlSl
import Derived.Test.YtilhflfbbfeakaaZlSm
import Derived.Test.YtilhflfbbfeakaaZlGs
import Derived.Test.YtilhflfbbfeakaaRdp
section
namespace Go.Proofs.Ytilhflfbbfeakaa
open Go Go.RowKit Go.Tl
set_option linter.unusedVariables false
set_option linter.unusedSimpArgs false
/-- heights that rise along each contract of which something is left -/
theorem gr_rise {b : BookD} (hv : VBook b) {off hs : List Int} (h : isGr b off hs) : ∃ F : Nat → Int, (∀ v, v < b.houses.toNat → 0 ≤ F v ∧ F v ≤ b.houses - 1) ∧
    ∀ i, i < b.cons.length → off.getD i 0 < (b.cons.getD i default).num → F (b.cons.getD i default).frm.toNat + 1 ≤ F (b.cons.getD i default).to.toNat := by
  obtain ⟨f, ho, hst, rfl, rfl⟩ := h
  have hh := hv.houses
  refine ⟨fun v => -((bfR b (arcsL (fL (numF b) f) b.cons.length) b.houses.toNat).1 v), fun v hv' => ?_, fun i hi hlt => ?_⟩
  · have h1 := bf_neg (b := b) (L := arcsL (fL (numF b) f) b.cons.length) b.houses.toNat v
    have h2 := bf_height (fun a ha => arc_ends hv ha) hst hv'
    show 0 ≤ -_ ∧ -_ ≤ _
    omega
  · rw [rng_at hi] at hlt
    have h1 := hst (i, false) (mem_arcs.2 ⟨hi, by show 0 < numF b i - f i; unfold numF; omega⟩)
    have h2 : (bfR b (arcsL (fL (numF b) f) b.cons.length) b.houses.toNat).1 (b.cons.getD i default).to.toNat ≤ (bfR b (arcsL (fL (numF b) f) b.cons.length) b.houses.toNat).1 (b.cons.getD i default).frm.toNat + (-1) := h1
    show -_ + 1 ≤ -_
    omega
theorem left_mem {b : BookD} {f : Nat → Int} {i : Nat} (hi : i < (leastB b f).cons.length) : ∃ j, j < b.cons.length ∧ 0 < (b.cons.getD j default).num - f j ∧ (leastB b f).cons.getD i default = ⟨(b.cons.getD j default).frm, (b.cons.getD j default).to, (b.cons.getD j default).num - f j, (b.cons.getD j default).price⟩ :=
  lst_mem (getD_mem (d := default) hi)
theorem left_valid {b : BookD} (hv : VBook b) {f : Nat → Int} (h0 : ∀ i, i < b.cons.length → 0 ≤ f i) : VBook (leastB b f) := by
  have hl := lst_len b.cons f b.cons.length
  have hlen := hv.len
  refine ⟨hv.houses, by show (lstC b.cons f b.cons.length).length ≤ 8; omega, fun i hi => ?_, fun i hi => ?_, fun i hi => ?_, fun i hi => ?_, fun i hi => ?_⟩ <;> obtain ⟨j, hj, hp, e⟩ := left_mem hi <;> rw [e]
  · exact hv.frm j hj
  · exact hv.to j hj
  · exact hv.ne j hj
  · have h1 := hv.num j hj
    have h2 := h0 j hj
    exact ⟨by show (1 : Int) ≤ _ - _; omega, by show _ - _ ≤ (100 : Int); omega⟩
  · exact hv.price j hj
theorem acc_congr2 {cs ds : List ConD} {f g : Nat → Int} {h : Nat} : ∀ {k : Nat}, (∀ i, i < k → cs.getD i default = ds.getD i default ∧ f i = g i) → accN cs f k h = accN ds g k h
  | 0, _ => rfl
  | k + 1, hk => by
    simp only [accN]
    rw [acc_congr2 (k := k) (fun i hi => hk i (by omega)), (hk k (Nat.lt_succ_self _)).1, (hk k (Nat.lt_succ_self _)).2]
theorem left_acc {cs : List ConD} {f : Nat → Int} (h : Nat) : ∀ k, (∀ i, i < k → f i ≤ (cs.getD i default).num) → accN (lstC cs f k) (fun i => ((lstC cs f k).getD i default).num) (lstC cs f k).length h = accN cs (fun i => (cs.getD i default).num - f i) k h
  | 0, _ => rfl
  | k + 1, hk => by
    have ih := left_acc (cs := cs) (f := f) h k (fun i hi => hk i (by omega))
    have h1 := hk k (Nat.lt_succ_self _)
    by_cases c : 0 < (cs.getD k default).num - f k
    · have e : lstC cs f (k + 1) = lstC cs f k ++ [⟨(cs.getD k default).frm, (cs.getD k default).to, (cs.getD k default).num - f k, (cs.getD k default).price⟩] := by simp only [lstC]; rw [if_pos c]
      rw [e]
      have hl : (lstC cs f k ++ [(⟨(cs.getD k default).frm, (cs.getD k default).to, (cs.getD k default).num - f k, (cs.getD k default).price⟩ : ConD)]).length = (lstC cs f k).length + 1 := by simp
      rw [hl]
      have hat : ∀ i, i < (lstC cs f k).length → (lstC cs f k ++ [(⟨(cs.getD k default).frm, (cs.getD k default).to, (cs.getD k default).num - f k, (cs.getD k default).price⟩ : ConD)]).getD i default = (lstC cs f k).getD i default := fun i hi => by simp [List.getD_eq_getElem?_getD, List.getElem?_append, hi]
      have hlast : (lstC cs f k ++ [(⟨(cs.getD k default).frm, (cs.getD k default).to, (cs.getD k default).num - f k, (cs.getD k default).price⟩ : ConD)]).getD (lstC cs f k).length default = ⟨(cs.getD k default).frm, (cs.getD k default).to, (cs.getD k default).num - f k, (cs.getD k default).price⟩ := by simp [List.getD_eq_getElem?_getD]
      simp only [accN]
      rw [acc_congr2 (cs := lstC cs f k ++ [(⟨(cs.getD k default).frm, (cs.getD k default).to, (cs.getD k default).num - f k, (cs.getD k default).price⟩ : ConD)]) (ds := lstC cs f k) (g := fun i => ((lstC cs f k).getD i default).num) (fun i hi => ⟨hat i hi, by show ConD.num _ = ConD.num _; rw [hat i hi]⟩), ih, hlast]
    · have e : lstC cs f (k + 1) = lstC cs f k := by simp only [lstC]; rw [if_neg c, List.append_nil]
      rw [e, ih]
      simp only [accN]
      have : (cs.getD k default).num - f k = 0 := by omega
      rw [this]
      simp
theorem acc_sub {cs : List ConD} {f g : Nat → Int} (h : Nat) : ∀ k, accN cs (fun i => f i - g i) k h = accN cs f k h - accN cs g k h
  | 0 => rfl
  | k + 1 => by
    simp only [accN]
    rw [acc_sub h k]
    split <;> split <;> omega
/-- what is left makes the same differences -/
theorem left_net {b : BookD} {f : Nat → Int} (ho : OffF b (numF b) f) : netL (leastB b f) (numF (leastB b f)) = netL b (numF b) := by
  refine List.map_congr_left fun h _ => ?_
  have h1 := left_acc (cs := b.cons) (f := f) h b.cons.length (fun i hi => (ho.bd i hi).2)
  have h2 := acc_sub (cs := b.cons) (f := numF b) (g := f) h b.cons.length
  rw [ho.net h] at h2
  show accN (lstC b.cons f b.cons.length) (fun i => ((lstC b.cons f b.cons.length).getD i default).num) (lstC b.cons f b.cons.length).length h = _
  rw [h1]
  have h3 : accN b.cons (fun i => (b.cons.getD i default).num - f i) b.cons.length h = accN b.cons (fun i => numF b i - f i) b.cons.length h := rfl
  rw [h3, h2]
  omega
theorem rise_zero {b : BookD} {F : Nat → Int} : ∀ k, (∀ i, i < k → F (b.cons.getD i default).frm.toNat + 1 ≤ F (b.cons.getD i default).to.toNat) → provF b F k = 0
  | 0, _ => rfl
  | k + 1, h => by
    have h1 := h k (Nat.lt_succ_self _)
    simp only [provF]
    rw [rise_zero k (fun i hi => h i (by omega)), show max 0 (1 + F (b.cons.getD k default).frm.toNat - F (b.cons.getD k default).to.toNat) = 0 by omega, Int.mul_zero]
    rfl
theorem ringN_nn {r : RingD} (ha : 0 ≤ r.amount) (h : Nat) : ∀ k, 0 ≤ ringN r k h
  | 0 => Int.le_refl _
  | k + 1 => by
    have := ringN_nn ha h k
    simp only [ringN]; split <;> omega
theorem made_ge {rs : List RingD} {j h : Nat} (ha : ∀ i, i < rs.length → 0 ≤ (rs.getD i default).amount) : ∀ i, i ≤ rs.length → j < i → ringN (rs.getD j default) (rs.getD j default).cons.length h ≤ madeN rs i h ∧ 0 ≤ madeN rs i h
  | 0, _, hj => absurd hj (Nat.not_lt_zero _)
  | i + 1, hi, hj => by
    have hnn : ∀ i, i ≤ rs.length → 0 ≤ madeN rs i h := fun i => by
      induction i with
      | zero => intro _; exact Int.le_refl _
      | succ i ih => intro hi; have := ih (by omega); have := ringN_nn (ha i (by omega)) h (rs.getD i default).cons.length; simp only [madeN]; omega
    have h1 := ringN_nn (ha i (by omega)) h (rs.getD i default).cons.length
    refine ⟨?_, hnn _ hi⟩
    simp only [madeN]
    by_cases e : j = i
    · subst e; have := hnn j (by omega); omega
    · have := (made_ge (h := h) ha i (by omega) (show j < i by omega)).1
      omega
theorem sumR_ge {n j : Nat} {F : Nat → Int} (h0 : ∀ i, i < n → 0 ≤ F i) (hj : j < n) : F j ≤ sumR n F := by
  induction n with
  | zero => exact absurd hj (Nat.not_lt_zero _)
  | succ n ih =>
    have hnn : 0 ≤ sumR n F := by have := sumR_le (n := n) (F := fun _ => 0) (G := F) (fun i hi => h0 i (by omega)); rw [sumR_zero] at this; exact this
    rw [sumR_succ]
    by_cases e : j = n
    · subst e; omega
    · have := ih (fun i hi => h0 i (by omega)) (by omega); have := h0 n (by omega); omega
/-- where nothing can be set off there are no rings -/
theorem no_rings {b : BookD} {rs : List RingD} {hs : List Int} (h : RingsF b rs hs) (h0 : sumI (madeL b rs) ≤ 0) : rs = [] := by
  have hring : ∀ j, j < rs.length → _ := fun j hj => ringB_iff.1 ((all_getD (d := default)).1 h.all j hj)
  rcases Nat.eq_zero_or_pos rs.length with e | e
  · exact List.length_eq_zero_iff.1 e
  exfalso
  have hr := hring 0 e
  have hok := okAt_lt (hr.2.2.1 0 (by have := hr.1; omega))
  have ha : ∀ i, i < rs.length → 0 ≤ (rs.getD i default).amount := fun i hi => by have := (hring i hi).2.1; omega
  have h1 := ringN_hit (r := rs.getD 0 default) (h := ((rs.getD 0 default).cons.getD 0 0).toNat) (ha 0 e) (rs.getD 0 default).cons.length 0 (by have := hr.1; omega) hok.2
  have h2 := made_ge (h := ((rs.getD 0 default).cons.getD 0 0).toNat) ha rs.length (Nat.le_refl _) e
  have h3 : sumI (madeL b rs) = sumR b.cons.length (madeN rs rs.length) := rfl
  have h4 := sumR_ge (n := b.cons.length) (F := madeN rs rs.length) (fun i hi => (made_ge (h := i) ha rs.length (Nat.le_refl _) e).2) hok.1
  have h5 := hr.2.1
  omega
end Go.Proofs.Ytilhflfbbfeakaa
end
section
namespace Go.Proofs.Ytilhflfbbfeakaa
open Go Go.RowKit Go.Tl
set_option linter.unusedVariables false
set_option linter.unusedSimpArgs false
set_option maxRecDepth 100000
set_option maxHeartbeats 4000000
attribute [local irreducible] AWP AWL AOp PV LV AWT AWE
theorem diff1_p (cp : Bool) (b : BookD) (g i : Nat) (hi : i < b.cons.length) (hl : b.cons.length ≤ 1000) : ACall Try.prog 90 [intA i, .v (ptrV g)] [.cl g 33 [intA b.houses, .t (consT cp b.cons)]] (fun r h' => r = intA (numF b i) ∧ h' = [.cl g 33 [intA b.houses, .t (consT cp b.cons)]]) := by
  refine acall_of_awp T0 Try.func90 rfl rfl rfl ?_
  repeat (first | refine awp_seq ?_ | refine awp_region_lit rfl ?_ | refine awp_ret ?_ | (show AWL _ _ _ (⟨_, .move _, _, _, _, _⟩ :: _) _ _ _; refine awl_pw (wt_none rfl) (pv_move rfl rfl) rfl rfl ?_) | (show AWL _ _ _ (⟨_, .assign _, _, _, _, _⟩ :: _) _ _ _; refine awl_pw (wt_none rfl) (pv_assign rfl rfl) rfl rfl ?_) | (show AWL _ _ _ (⟨_, .load _ _, _, _, _, _⟩ :: _) _ _ _; refine awl_lw (wt_none rfl) (lv_cl1 T0 rfl rfl rfl (by solve | repeat' constructor) (by first | rfl | assumption)) rfl rfl rfl ?_) | (show AWL _ _ _ (⟨_, .load _ _, _, _, _, _⟩ :: _) _ _ _; refine awl_lw (wt_none rfl) (lv_elt_sc T0 rfl rfl rfl rfl) rfl rfl rfl ?_) | (show AWL _ _ _ (⟨_, .fieldAddr _ _ _, _, _, _, _⟩ :: _) _ _ _; refine awl_pw (wt_none rfl) (pv_fa T0 rfl rfl rfl (by simp; rfl)) rfl rfl ?_) | (show AWL _ _ _ (⟨_, .fieldAddr _ _ _, _, _, _, _⟩ :: _) _ _ _; refine awl_pw (wt_none rfl) (pv_fa_elt T0 rfl rfl rfl (by simp; rfl)) rfl rfl ?_) | (show AWL _ _ _ (⟨_, .indexAddr _ _ _, _, _, _, _⟩ :: _) _ _ _; refine awl_pw (wt_none rfl) (pv_ix_t T0 rfl rfl rfl rfl (by omega) (by first | exact Int.toNat_natCast _ | rfl)) rfl rfl ?_) | refine awl_nil ?_)
  exact body_r (h' := [.cl g 33 [intA b.houses, .t (consT cp b.cons)]]) (.cons rfl .nil) (by solve | repeat' constructor) ⟨rfl, rfl⟩
theorem difs_p (cp : Bool) (b : BookD) (hv : VBook b) : PCall Try.prog 55 [bookA cp b] (fun r => r = .t (intsT true (netL b (numF b)))) := by
  have hlen := hv.len
  refine acall_of_awp T0 Try.func55 rfl rfl rfl ?_
  repeat (first | refine awp_seq ?_ | refine awp_region_lit rfl ?_)
  refine awl_hw (wt_none rfl) (st_box rfl rfl (by first | rfl | assumption) (by first | assumption | (simp only [cellsA]; rfl)) rfl rfl ?_)
  intro g1
  repeat (first | refine awp_seq ?_ | refine awp_region_lit rfl ?_ | (show AWL _ _ _ (⟨_, .assign _, _, _, _, _⟩ :: _) _ _ _; refine awl_pw (wt_none rfl) (pv_assign rfl rfl) rfl rfl ?_) | (show AWL _ _ _ (⟨_, .load _ _, _, _, _, _⟩ :: _) _ _ _; refine awl_lw (wt_none rfl) (lv_cla T0 rfl rfl rfl (by solve | repeat' constructor) rfl) rfl rfl rfl ?_) | refine awl_nil ?_)
  refine awl_pw (wt_none rfl) (pv_makeFunc_v (fs := []) (cs := [ptrV g1]) rfl rfl rfl) rfl rfl ?_
  refine awl_hw (wt_none rfl) (st_acall T0 (acall_unpack (sums_p (o := packOb [.cl g1 33 [intA b.houses, .t (consT cp b.cons)]]) (f := numF b) (fsN := []) (csN := [.v (ptrV g1)]) (gN := 90) (fv := .v (.func (.func 90) #[] #[ptrV g1])) cp b hv (callee_v (a := []) (b := [ptrV g1])) rfl (fun i hi => by have := hv.num i hi; unfold numF; omega) (fun i hi => acall_pack (diff1_p cp b g1 i hi (by omega))))) rfl rfl rfl rfl (by first | exact callee_lit | exact callee_v | exact callee_fn | assumption) (by solve | repeat' constructor) (by first | rfl | assumption) rfl (by first | ((repeat' (first | exact SubH.refl _ | apply SubH.cons | exact Pick.here | apply Pick.there)); all_goals fail) | fail) (fun _ _ => trivial) ?_)
  rintro r h ⟨rfl, rfl⟩
  repeat (first | refine awp_ret ?_ | (show AWL _ _ _ (⟨_, .assign _, _, _, _, _⟩ :: _) _ _ _; refine awl_pw (wt_none rfl) (pv_assign rfl rfl) rfl rfl ?_) | refine awl_nil ?_)
  exact body_p (.cons rfl .nil) rfl
/-- what Differences returns -/
def difA (b : BookD) : AV := if faultN b = 0 then .tup [.t (intsT true (netL b (numF b))), intA 0] else .tup [noneA, intA (faultN b)]
theorem differences_p (cp : Bool) (b : BookD) (hl : b.cons.length ≤ 1000) : PCall Try.prog 18 [bookA cp b] (fun r => r = difA b) := by
  refine acall_of_awp T0 Try.func18 rfl rfl rfl ?_
  unfold difA
  repeat (first | refine awp_seq ?_ | refine awp_region_lit rfl ?_)
  refine awl_hw (wt_none rfl) (st_box rfl rfl (by first | rfl | assumption) (by first | assumption | (simp only [cellsA]; rfl)) rfl rfl ?_)
  intro g1
  repeat (first | refine awp_seq ?_ | refine awp_region_lit rfl ?_ | (show AWL _ _ _ (⟨_, .assign _, _, _, _, _⟩ :: _) _ _ _; refine awl_pw (wt_none rfl) (pv_assign rfl rfl) rfl rfl ?_) | (show AWL _ _ _ (⟨_, .load _ _, _, _, _, _⟩ :: _) _ _ _; refine awl_lw (wt_none rfl) (lv_cla T0 rfl rfl rfl (by solve | repeat' constructor) rfl) rfl rfl rfl ?_) | refine awl_nil ?_)
  refine awl_hw (wt_none rfl) (st_call T0 (check_p cp b hl) rfl rfl rfl rfl (by first | exact callee_lit | exact callee_v | exact callee_fn | assumption) (by solve | repeat' constructor) (by first | rfl | assumption) rfl ?_)
  rintro _ rfl
  by_cases hf : faultN b = 0
  case neg =>
    have d1 : decide (faultN b ≠ 0) = true := decide_eq_true hf
    repeat (first | refine awp_seq ?_ | refine awp_region_lit rfl ?_ | refine awp_ret ?_ | refine then_n ?_ | refine then_r ?_ | refine awp_cond_t rfl (by first | rfl | assumption | exact dT (by omega)) ?_ | (show AWL _ _ _ (⟨_, .move _, _, _, _, _⟩ :: _) _ _ _; refine awl_pw (wt_none rfl) (pv_move rfl rfl) rfl rfl ?_) | (show AWL _ _ _ (⟨_, .assign _, _, _, _, _⟩ :: _) _ _ _; refine awl_pw (wt_none rfl) (pv_assign rfl rfl) rfl rfl ?_) | (show AWL _ _ _ (⟨_, .binOp .neq _ _ _ _, _, _, _, _⟩ :: _) _ _ _; refine awl_pw (wt_none rfl) (pv_neq rfl rfl rfl) rfl rfl ?_) | refine awl_nil ?_)
    refine body_p (.cons rfl (.cons rfl .nil)) ?_
    rw [if_neg hf]; rfl
  rw [if_pos hf, hf]
  repeat (first | refine awp_seq ?_ | refine awp_region_lit rfl ?_ | refine awp_skip ?_ | refine then_n ?_ | refine awp_cond_f rfl (by first | rfl | assumption | exact dF (by omega)) ?_ | (show AWL _ _ _ (⟨_, .move _, _, _, _, _⟩ :: _) _ _ _; refine awl_pw (wt_none rfl) (pv_move rfl rfl) rfl rfl ?_) | (show AWL _ _ _ (⟨_, .assign _, _, _, _, _⟩ :: _) _ _ _; refine awl_pw (wt_none rfl) (pv_assign rfl rfl) rfl rfl ?_) | (show AWL _ _ _ (⟨_, .load _ _, _, _, _, _⟩ :: _) _ _ _; refine awl_lw (wt_none rfl) (lv_cla T0 rfl rfl rfl (by solve | repeat' constructor) rfl) rfl rfl rfl ?_) | (show AWL _ _ _ (⟨_, .binOp .neq _ _ _ _, _, _, _, _⟩ :: _) _ _ _; refine awl_pw (wt_none rfl) (pv_neq rfl rfl rfl) rfl rfl ?_) | refine awl_nil ?_)
  refine awl_hw (wt_none rfl) (st_call T0 (difs_p cp b (vbook hf)) rfl rfl rfl rfl (by first | exact callee_lit | exact callee_v | exact callee_fn | assumption) (by solve | repeat' constructor) (by first | rfl | assumption) rfl ?_)
  rintro _ rfl
  repeat (first | refine awp_ret ?_ | (show AWL _ _ _ (⟨_, .assign _, _, _, _, _⟩ :: _) _ _ _; refine awl_pw (wt_none rfl) (pv_assign rfl rfl) rfl rfl ?_) | refine awl_nil ?_)
  exact body_p (.cons rfl (.cons rfl .nil)) rfl
end Go.Proofs.Ytilhflfbbfeakaa
end
