/- Joined texts: Tn, Fx, Cb, Bl. -/
import Derived.Test.YtfiacjdkdjkiiaaZsBn0
import Derived.Test.YtfiacjdkdjkiiaaFr
import Derived.Test.YtfiacjdkdjkiiaaGTx
import Derived.Test.YtfiacjdkdjkiiaaZsWr
import Derived.Test.YtfiacjdkdjkiiaaGRd
import Derived.Test.YtfiacjdkdjkiiaaGCo
import Derived.Test.YtfiacjdkdjkiiaaTy
import Derived.Test.YtfiacjdkdjkiiaaZsPy
import Derived.Test.YtfiacjdkdjkiiaaMc
section
namespace Go.Proofs.Ytfiacjdkdjkiiaa
open Go Go.RowKit Go.Tl
set_option linter.unusedVariables false
set_option linter.unusedSimpArgs false
set_option maxRecDepth 100000
set_option maxHeartbeats 4000000
attribute [local irreducible] AWP AWL AOp PV LV AWT AWE
theorem callsR_at {b : BankD} {t : TruthD} {i n : Nat} (hn : n < b.days.length) : (callsR b t i b.days.length).getD n 0 = (allSt b.loans t.prices t.rates i n).call := by
  simp [callsR, List.getD_eq_getElem?_getD, hn]
end Go.Proofs.Ytfiacjdkdjkiiaa
end
section
namespace Go.Proofs.Ytfiacjdkdjkiiaa
open Go Go.RowKit Go.Tl
set_option linter.unusedVariables false
set_option linter.unusedSimpArgs false
set_option maxRecDepth 100000
set_option maxHeartbeats 4000000
attribute [local irreducible] AWP AWL AOp PV LV AWT AWE
theorem reffault_p (cp : Bool) (b : BankD) (hd : b.days.length ≤ 1000) (hl : b.loans.length ≤ 1000) : PCall Try.prog 58 [bankA cp b] (fun r => r = intA (faultN b)) := pcall_below fun w S vs hvs => by
  obtain ⟨v, us, rfl, h1, hvs⟩ := rels1 hvs
  obtain rfl := rels0 hvs
  obtain ⟨da, dc, la, lc, rfl, hc, hB⟩ := bank_at h1
  exact (fault_any da la dc lc b w hB.1 hB.2 hd hl).mono fun e w' ⟨e1, hb⟩ => ⟨_, _, e1, rfl, hb, .v _⟩
theorem few_p (b : BankD) (n : Int) (hn : n ≤ 10000) (hd1 : b.days.length ≤ 9223372036854775807) (hd2 : b.loans.length ≤ 9223372036854775807) : PCall Try.prog 27 [bankA false b, intA n] (fun r => ∃ v, r = boolA v ∧ (v = true → thinB b ⟨[], []⟩ = true ∧ (faultN b = 0 → dP b.days ≤ n))) := by
  refine acall_of_awp T0 Try.func27 rfl rfl rfl ?_
  repeat (first | refine awp_seq ?_ | refine awp_region_lit rfl ?_)
  refine awl_hw (by first | exact wt_none rfl | exact wt_some' rfl rfl rfl rfl (by first | rfl | assumption | exact dT (by omega) | exact dF (by omega))) (st_box rfl rfl rfl (by simp only [cellsA]; rfl) rfl rfl ?_)
  intro g2
  repeat (first | refine awp_seq ?_ | refine awp_region_lit rfl ?_ | ((first | (show AWL _ _ _ (⟨_, .assign _, _, _, _, _⟩ :: _) _ _ _; refine awl_pw ?w (pv_assign rfl rfl) rfl rfl ?_) | (show AWL _ _ _ (⟨_, .load _ _, _, _, _, _⟩ :: _) _ _ _; refine awl_lw ?w (lv_cla T0 rfl rfl rfl (by solve | repeat' constructor) rfl) rfl rfl rfl ?_) | (show AWL _ _ _ (⟨_, .build _ _, _, _, _, _⟩ :: _) _ _ _; refine awl_pw ?w (pv_build T0 rfl rfl rfl (by simp only [Value.cells, List.toList_toArray, List.map_cons, List.map_nil]; rfl) (by first | ((repeat' (first | exact BParts.nil | apply BParts.cons | rfl)); all_goals fail) | fail) (by first | ((repeat' (first | exact FillA.nil | exact Sp.done | apply FillA.cons | apply Sp.put | apply Sp.skip | (simp only [cellsA]; rfl) | rfl)); all_goals fail) | fail)) rfl rfl ?_)); case w => first | exact wt_none rfl | exact wt_some' rfl rfl rfl rfl (by first | rfl | assumption | exact dT (by omega) | exact dF (by omega))) | refine awl_nil ?_)
  cases ht : thinB b ⟨[], []⟩
  · refine awl_hw (by first | exact wt_none rfl | exact wt_some' rfl rfl rfl rfl (by first | rfl | assumption | exact dT (by omega) | exact dF (by omega))) (st_call T0 (thin0_v hd1 hd2 ht) rfl rfl rfl rfl (by first | exact callee_lit | exact callee_v | exact callee_fn) (by solve | repeat' constructor) rfl rfl ?_)
    rintro _ rfl
    repeat (first | refine awp_ret ?_ | ((first | (show AWL _ _ _ (⟨_, .move _, _, _, _, _⟩ :: _) _ _ _; refine awl_pw ?w (pv_move rfl rfl) rfl rfl ?_) | (show AWL _ _ _ (⟨_, .assign _, _, _, _, _⟩ :: _) _ _ _; refine awl_pw ?w (pv_assign rfl rfl) rfl rfl ?_) | (show AWL _ _ _ (⟨_, .load _ _, _, _, _, _⟩ :: _) _ _ _; refine awl_lw ?w (lv_cla T0 rfl rfl rfl (by solve | repeat' constructor) rfl) rfl rfl rfl ?_) | (show AWL _ _ _ (⟨_, .pick _ _ _, _, _, _, _⟩ :: _) _ _ _; refine awl_pw ?w (pv_pick_f rfl rfl (by first | rfl | assumption | exact dT (by omega) | exact dF (by omega)) rfl) rfl rfl ?_)); case w => first | exact wt_none rfl | exact wt_some' rfl rfl rfl rfl (by first | rfl | assumption | exact dT (by omega) | exact dF (by omega))) | refine awl_sk (wf_some rfl rfl rfl rfl (by first | rfl | assumption | exact dT (by omega) | exact dF (by omega))) rfl rfl ?_ | refine awl_sku (wu_some rfl rfl rfl rfl) rfl rfl ?_ | refine awl_nil ?_)
    exact body_p (.cons rfl .nil) ⟨_, rfl, fun h => by cases h⟩
  have hs := thin_short0 ht
  refine awl_hw (by first | exact wt_none rfl | exact wt_some' rfl rfl rfl rfl (by first | rfl | assumption | exact dT (by omega) | exact dF (by omega))) (st_call T0 (thin0_v hd1 hd2 ht) rfl rfl rfl rfl (by first | exact callee_lit | exact callee_v | exact callee_fn) (by solve | repeat' constructor) rfl rfl ?_)
  rintro _ rfl
  repeat (first | ((first | (show AWL _ _ _ (⟨_, .move _, _, _, _, _⟩ :: _) _ _ _; refine awl_pw ?w (pv_move rfl rfl) rfl rfl ?_) | (show AWL _ _ _ (⟨_, .load _ _, _, _, _, _⟩ :: _) _ _ _; refine awl_lw ?w (lv_cla T0 rfl rfl rfl (by solve | repeat' constructor) rfl) rfl rfl rfl ?_)); case w => first | exact wt_none rfl | exact wt_some' rfl rfl rfl rfl (by first | rfl | assumption | exact dT (by omega) | exact dF (by omega))))
  refine awl_hw (by first | exact wt_none rfl | exact wt_some' rfl rfl rfl rfl (by first | rfl | assumption | exact dT (by omega) | exact dF (by omega))) (st_call T0 (reffault_p false b (by omega) (by omega)) rfl rfl rfl rfl (by first | exact callee_lit | exact callee_v | exact callee_fn) (by solve | repeat' constructor) rfl rfl ?_)
  rintro _ rfl
  by_cases hf : faultN b = 0
  case neg =>
    have e : decide (faultN b ≠ 0) = true := decide_eq_true hf
    repeat (first | refine awp_ret ?_ | ((first | (show AWL _ _ _ (⟨_, .move _, _, _, _, _⟩ :: _) _ _ _; refine awl_pw ?w (pv_move rfl rfl) rfl rfl ?_) | (show AWL _ _ _ (⟨_, .assign _, _, _, _, _⟩ :: _) _ _ _; refine awl_pw ?w (pv_assign rfl rfl) rfl rfl ?_) | (show AWL _ _ _ (⟨_, .load _ _, _, _, _, _⟩ :: _) _ _ _; refine awl_lw ?w (lv_cla T0 rfl rfl rfl (by solve | repeat' constructor) rfl) rfl rfl rfl ?_) | (show AWL _ _ _ (⟨_, .binOp .neq _ _ _ _, _, _, _, _⟩ :: _) _ _ _; refine awl_pw ?w (pv_neq rfl rfl rfl) rfl rfl ?_) | (show AWL _ _ _ (⟨_, .pick _ _ _, _, _, _, _⟩ :: _) _ _ _; refine awl_pw ?w (pv_pick_t rfl rfl (by first | rfl | assumption | exact dT (by omega) | exact dF (by omega)) rfl) rfl rfl ?_)); case w => first | exact wt_none rfl | exact wt_some' rfl rfl rfl rfl (by first | rfl | assumption | exact dT (by omega) | exact dF (by omega))) | refine awl_sk (wf_some rfl rfl rfl rfl (by first | rfl | assumption | exact dT (by omega) | exact dF (by omega))) rfl rfl ?_ | refine awl_nil ?_)
    exact body_p (.cons rfl .nil) ⟨_, rfl, fun _ => ⟨rfl, fun h => absurd h hf⟩⟩
  have e : decide (faultN b ≠ 0) = false := decide_eq_false (fun h => h hf)
  repeat (first | ((first | (show AWL _ _ _ (⟨_, .move _, _, _, _, _⟩ :: _) _ _ _; refine awl_pw ?w (pv_move rfl rfl) rfl rfl ?_) | (show AWL _ _ _ (⟨_, .load _ _, _, _, _, _⟩ :: _) _ _ _; refine awl_lw ?w (lv_cla T0 rfl rfl rfl (by solve | repeat' constructor) rfl) rfl rfl rfl ?_) | (show AWL _ _ _ (⟨_, .binOp .neq _ _ _ _, _, _, _, _⟩ :: _) _ _ _; refine awl_pw ?w (pv_neq rfl rfl rfl) rfl rfl ?_)); case w => first | exact wt_none rfl | exact wt_some' rfl rfl rfl rfl (by first | rfl | assumption | exact dT (by omega) | exact dF (by omega))))
  refine awl_hw (by first | exact wt_none rfl | exact wt_some' rfl rfl rfl rfl (by first | rfl | assumption | exact dT (by omega) | exact dF (by omega))) (st_call T0 (many_p false b (valid_of hf)) rfl rfl rfl rfl (by first | exact callee_lit | exact callee_v | exact callee_fn) (by solve | repeat' constructor) rfl rfl ?_)
  rintro _ ⟨m, rfl, h1, h2, h3⟩
  repeat (first | refine awp_ret ?_ | ((first | (show AWL _ _ _ (⟨_, .move _, _, _, _, _⟩ :: _) _ _ _; refine awl_pw ?w (pv_move rfl rfl) rfl rfl ?_) | (show AWL _ _ _ (⟨_, .assign _, _, _, _, _⟩ :: _) _ _ _; refine awl_pw ?w (pv_assign rfl rfl) rfl rfl ?_) | (show AWL _ _ _ (⟨_, .binOp .leq _ _ _ _, _, _, _, _⟩ :: _) _ _ _; refine awl_pw ?w (pv_leq rfl rfl rfl) rfl rfl ?_) | (show AWL _ _ _ (⟨_, .pick _ _ _, _, _, _, _⟩ :: _) _ _ _; refine awl_pw ?w (pv_pick_t rfl rfl (by first | rfl | assumption | exact dT (by omega) | exact dF (by omega)) rfl) rfl rfl ?_) | (show AWL _ _ _ (⟨_, .pick _ _ _, _, _, _, _⟩ :: _) _ _ _; refine awl_pw ?w (pv_pick_f rfl rfl (by first | rfl | assumption | exact dT (by omega) | exact dF (by omega)) rfl) rfl rfl ?_)); case w => first | exact wt_none rfl | exact wt_some' rfl rfl rfl rfl (by first | rfl | assumption | exact dT (by omega) | exact dF (by omega))) | refine awl_nil ?_)
  exact body_p (.cons rfl .nil) ⟨_, rfl, fun h => ⟨rfl, fun _ => by have := of_decide_eq_true h; rw [← h2 (by omega)]; exact this⟩⟩
end Go.Proofs.Ytfiacjdkdjkiiaa
end
section
namespace Go.Proofs.Ytfiacjdkdjkiiaa
open Go Go.RowKit Go.Tl
set_option linter.unusedVariables false
section
variable {w : World} {S : Nat → Prop}
theorem ints_rel {a : Option Addr} {c : Nat} {xs : List Int} (h : IntsAt w a xs) (hS : ∀ b off sp, a = some ⟨b, off, sp⟩ → S b) : Tl.TRel w S (intsT false xs) (.slice a xs.length c) := by
  refine .sl (fun k _ => .int .i64 (xs.getD k 0)) (fun h => by cases h) (fun _ _ => rfl) (fun k hk => ?_) (fun k j x hk hx => ?_)
  · obtain ⟨b, off, e, hcell⟩ := h k hk
    exact ⟨b, off, e, hS _ _ _ e, fun j hj => by obtain rfl : j = 0 := by omega
                                                 simpa using hcell⟩
  · match j with
    | 0 => simp at hx; subst hx; exact .sc _
    | j + 1 => simp at hx
end
theorem cell_lt {w : World} {p : Addr} {v : Value} (h : w.cell? p = some v) : p.block < w.heap.size := World.block_lt_of_cell? _ _ h
theorem ints_fresh {w w' : World} {S : Nat → Prop} {a : Option Addr} {c : Nat} {xs : List Int} (h : IntsAt w' a xs) (hf : ∀ b off sp, a = some ⟨b, off, sp⟩ → w.heap.size ≤ b) : VRel w' (fun b => S b ∨ (w.heap.size ≤ b ∧ b < w'.heap.size)) (.t (intsT false xs)) (.slice a xs.length c) := by
  refine .t ?_
  rcases Nat.eq_zero_or_pos xs.length with h0 | h0
  · have : xs = [] := List.length_eq_zero_iff.1 h0
    subst this
    exact .sl (fun _ _ => undef) (fun h => by cases h) (fun k hk => absurd hk (by simp)) (fun k hk => absurd hk (by simp)) (fun k j x hk => absurd hk (by simp))
  · obtain ⟨b0, off0, e0, hc0⟩ := h 0 h0
    exact ints_rel h (fun b off sp e => .inr ⟨hf _ _ _ e, by rw [e0] at e; cases e; exact cell_lt hc0⟩)
theorem calls_p (b : BankD) (i n : Nat) (hv : Valid b) (hn : n < b.days.length) (hi : i < b.loans.length) : PCall Try.prog 66 [bankA true b, .ag [intA i, intA n]] (fun r => r = rngA (callsN b i n)) := pcall_below fun w S vs hvs => by
  obtain ⟨v, us, rfl, h1, hvs⟩ := rels1 hvs
  obtain ⟨v2, us, rfl, h2, hvs⟩ := rels1 hvs
  obtain rfl := rels0 hvs
  obtain ⟨da, dc, la, lc, rfl, hc, hB⟩ := bank_at h1
  have e2 : v2 = .agg #[.int .i64 i, .int .i64 n] := by
    obtain ⟨vs, rfl, hv⟩ := ag_inv h2
    obtain ⟨v1, us, rfl, k1, hv⟩ := rels1 hv
    obtain ⟨v2, us, rfl, k2, hv⟩ := rels1 hv
    obtain rfl := rels0 hv
    rw [k1.lit_inv, k2.lit_inv]
  subst e2
  refine (calls_any b da la dc lc i n w hv hB hn hi (hc rfl)).mono fun e w' ⟨e1, hb⟩ => ⟨_, rngA (callsN b i n), e1, rfl, hb, ?_⟩
  exact .ag (vs := [_, _]) rfl (VRels.lits [_, _]).2
end Go.Proofs.Ytfiacjdkdjkiiaa
end
section
namespace Go.Proofs.Ytfiacjdkdjkiiaa
open Go Go.RowKit Go.Tl
set_option linter.unusedVariables false
set_option linter.unusedSimpArgs false
set_option linter.unusedSectionVars false
set_option maxRecDepth 100000
set_option maxHeartbeats 20000000
attribute [local irreducible] AWP AWL AOp PV LV AWT AWE
theorem wdN_eq {f : Nat → List Int} {D : Nat} (h : ∀ n, (f n).length = D) : ∀ M, 0 < M → wdN f M = (List.range D).map fun k => ⟨minF (fun n => (f n).getD k 0) M, maxF (fun n => (f n).getD k 0) M⟩ := fun M => by
  induction M with
  | zero => intro h; omega
  | succ M ih =>
    intro _
    show (List.range (f M).length).map (wdF (wdN f M) (f M) (decide ((M : Int) = 0))) = _
    rw [h]
    by_cases h0 : M = 0
    · subst h0
      refine List.map_congr_left fun k hk => ?_
      simp [wdF, minF, maxF]
    · have hd : decide ((M : Int) = 0) = false := decide_eq_false (by omega)
      rw [hd, ih (by omega)]
      refine List.map_congr_left fun k hk => ?_
      rw [List.mem_range] at hk
      unfold wdF
      rw [if_neg (by decide), range_getD hk]
      simp only [minF, maxF]
      rw [if_neg h0, if_neg h0]
section
variable {b : BankD} (hv : Valid b)
include hv
theorem bnd_eq {g : TruthD → List Int} {r : Nat → Rng} (hl : ∀ t, (g t).length = b.days.length)
    (hin : ∀ t, truthB b t = true → ∀ k, k < b.days.length → (r k).lo ≤ (g t).getD k 0 ∧ (g t).getD k 0 ≤ (r k).hi)
    (hlo : ∀ k, k < b.days.length → ∃ t, truthB b t = true ∧ (g t).getD k 0 = (r k).lo) (hhi : ∀ k, k < b.days.length → ∃ t, truthB b t = true ∧ (g t).getD k 0 = (r k).hi) :
    wdN (fun n => g (nthD b n)) (dP b.days).toNat = (List.range b.days.length).map r := by
  have hp := dP_pos (okD hv)
  rw [wdN_eq (fun n => hl _) _ (by omega)]
  refine List.map_congr_left fun k hk => ?_
  rw [List.mem_range] at hk
  obtain ⟨t1, ht1, e1⟩ := hlo k hk
  obtain ⟨t2, ht2, e2⟩ := hhi k hk
  obtain ⟨n1, b1, q1⟩ := nth_ex hv ht1
  obtain ⟨n2, b2, q2⟩ := nth_ex hv ht2
  have := mm_eq (f := fun n : Nat => (g (nthD b n)).getD k 0) (n := (dP b.days).toNat) (lo := (r k).lo) (hi := (r k).hi) (fun m hm => hin _ (nth_truth hv (by omega)) k hk) (i := n1) (j := n2) (by omega) (by omega)
    (by show (g (nthD b n1)).getD k 0 = _; rw [q1, e1]) (by show (g (nthD b n2)).getD k 0 = _; rw [q2, e2])
  rw [this.1, this.2]
theorem debtsR_at {t : TruthD} {i n : Nat} (hn : n < b.days.length) : (debtsR b t i b.days.length).getD n 0 = (allSt b.loans t.prices t.rates i n).after := by
  simp [debtsR, List.getD_eq_getElem?_getD, hn]
theorem debts_all {i : Nat} (hi : i < b.loans.length) : wdN (fun n => debtsR b (nthD b n) i b.days.length) (dP b.days).toNat = debtsL b i :=
  bnd_eq hv (g := fun t => debtsR b t i b.days.length) (r := debtsN b i) (fun t => by simp [debtsR]) (fun t ht k hk => by rw [debtsR_at hv hk]; exact debt_in hv ht hi hk)
    (fun k hk => ⟨endsD b false false k, ends_truth hv _ _ _, by rw [debtsR_at hv hk, ends_st hv _ _ hk]; rfl⟩) (fun k hk => ⟨endsD b true true k, ends_truth hv _ _ _, by rw [debtsR_at hv hk, ends_st hv _ _ hk]; rfl⟩)
theorem calls_all {i : Nat} (hi : i < b.loans.length) : wdN (fun n => callsR b (nthD b n) i b.days.length) (dP b.days).toNat = callsL b i :=
  bnd_eq hv (g := fun t => callsR b t i b.days.length) (r := callsN b i) (fun t => by simp [callsR]) (fun t ht k hk => by rw [callsR_at hk]; exact call_in hv ht hi hk)
    (fun k hk => ⟨endsD b false true k, ends_truth hv _ _ _, by rw [callsR_at hk, ends_st hv _ _ hk]; rfl⟩) (fun k hk => ⟨endsD b true false k, ends_truth hv _ _ _, by rw [callsR_at hk, ends_st hv _ _ hk]; rfl⟩)
end
theorem in32_p (n lo hi : Int) : PCall Try.prog 32 [intA n, intA lo, intA hi] (fun r => r = boolA (inB n lo hi)) := pcall_below fun w S vs hvs => by
  obtain ⟨v, us, rfl, k1, hvs⟩ := rels1 hvs
  obtain ⟨v2, us, rfl, k2, hvs⟩ := rels1 hvs
  obtain ⟨v3, us, rfl, k3, hvs⟩ := rels1 hvs
  obtain rfl := rels0 hvs
  rw [k1.lit_inv, k2.lit_inv, k3.lit_inv]
  exact (in_any n lo hi w).mono fun e w' ⟨e1, hb⟩ => ⟨_, _, e1, rfl, by subst hb; exact Below.refl _ _, .v _⟩
theorem in32_v {n lo hi : Int} {b : Bool} (h : inB n lo hi = b) : PCall Try.prog 32 [intA n, intA lo, intA hi] (fun r => r = boolA b) := by subst h; exact in32_p n lo hi
theorem manyd_p (cp : Bool) {b : BankD} (hv : Valid b) (h : dP b.days ≤ 10000) : PCall Try.prog 63 [bankA cp b] (fun r => r = intA (dP b.days)) :=
  (many_p cp b hv).mono fun r ⟨m, e, _, h2, h3⟩ => by rw [e, h2 (by omega)]
theorem bounds_t {b : BankD} (hv : Valid b) (h : dP b.days ≤ 10000) {i : Nat} (hi : i < b.loans.length) : PCall Try.prog 33 [bankA false b, intA i] (fun r => r = .tup [.t (rngsT true (debtsL b i)), .t (rngsT true (callsL b i))]) := by
  have := bounds_r b i hv hi h (manyd_p false hv h)
  rw [debts_all hv hi, calls_all hv hi] at this
  exact this
end Go.Proofs.Ytfiacjdkdjkiiaa
end
