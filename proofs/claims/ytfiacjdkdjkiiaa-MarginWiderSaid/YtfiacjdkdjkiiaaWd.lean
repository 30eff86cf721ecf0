/- The law MarginWider: its walk. -/
import Derived.Test.YtfiacjdkdjkiiaaWd0
import Derived.Test.YtfiacjdkdjkiiaaTv
import Derived.Test.YtfiacjdkdjkiiaaTlw
import Derived.Test.YtfiacjdkdjkiiaaCo
import Derived.Test.YtfiacjdkdjkiiaaGRd
import Derived.Test.YtfiacjdkdjkiiaaMc
namespace Go.Proofs.Ytfiacjdkdjkiiaa
open Go Go.RowKit Go.Tl
set_option linter.unusedVariables false
set_option linter.unusedSimpArgs false
set_option maxRecDepth 100000
set_option maxHeartbeats 20000000
attribute [local irreducible] AWP AWL AOp PV LV AWT AWE
def dayF (d : DayD) : List AV := [.t (rngsT false d.prices), intA d.rate.lo, intA d.rate.hi]
def dayRows (ds : List DayD) : List (List AV) := (List.range ds.length).map fun k => dayF (ds.getD k default)
theorem dayRows_len (ds : List DayD) : (dayRows ds).length = ds.length := by simp [dayRows]
theorem dayRows_at {ds : List DayD} {k : Nat} (hk : k < ds.length) : (dayRows ds).getD k [] = dayF (ds.getD k default) := range_getD hk
/-- the days' tree, one of whose rows was written anew -/
def dayQ (ds : List DayD) (n : Nat) (d : DayD) (k : Nat) : List Tr := if k = n then [rngsT true d.prices, .sc (.int .i64 d.rate.lo), .sc (.int .i64 d.rate.hi)] else dayL (ds.getD k default)
theorem dayRows_q {ds : List DayD} {n : Nat} {d : DayD} (hn : n < ds.length) : ∀ k, k < ds.length → ((dayRows ds).set n (spA ((dayRows ds).getD n []) 0 [.t (rngsT true d.prices), intA d.rate.lo, intA d.rate.hi])).getD k [] = (dayQ ds n d k).map AV.ofTr := fun k hk => by
  rw [dayRows_at hn]
  have e : spA (dayF (ds.getD n default)) 0 [.t (rngsT true d.prices), intA d.rate.lo, intA d.rate.hi] = [.t (rngsT true d.prices), intA d.rate.lo, intA d.rate.hi] := by simp [spA, dayF]
  rw [e, getD_set (by rw [dayRows_len]; exact hk)]
  unfold dayQ
  by_cases c : k = n
  · rw [if_pos c, if_pos c]; rfl
  · rw [if_neg c, if_neg c, dayRows_at hk]; rfl
theorem days_q {ds : List DayD} {n : Nat} {d : DayD} (hn : n < ds.length) : TrLe (.sl true 3 ds.length (dayQ ds n d)) (daysT false (ds.set n d)) := by
  have hl : (ds.set n d).length = ds.length := by simp
  unfold daysT
  rw [hl]
  refine ofn_le fun k hk => ?_
  rw [getD_set hk]
  unfold dayQ
  by_cases c : k = n
  · rw [if_pos c, if_pos c]
    refine ⟨rfl, fun j x x' h1 h2 => ?_⟩
    match j with
    | 0 => simp [dayL] at h1 h2; subst h1 h2; exact rngs_le _
    | 1 => simp [dayL] at h1 h2; subst h1 h2; exact .refl _
    | 2 => simp [dayL] at h1 h2; subst h1 h2; exact .refl _
    | j + 3 => simp [dayL] at h1
  · rw [if_neg c, if_neg c]
    exact ⟨rfl, fun j x x' h1 h2 => by rw [h1] at h2; cases h2; exact .refl _⟩
theorem dayOne (ds : List DayD) : ∀ k, k < ds.length → ∀ u ∈ dayL (ds.getD k default), oneA (AV.ofTr u) = true := fun k hk u hu => by
  simp only [dayL, List.mem_cons, List.not_mem_nil, or_false] at hu
  rcases hu with rfl | rfl | rfl <;> rfl
theorem rngOne (rs : List Rng) : ∀ k, k < rs.length → ∀ u ∈ rngL (rs.getD k default), oneA (AV.ofTr u) = true := fun k hk u hu => by
  simp only [rngL, List.mem_cons, List.not_mem_nil, or_false] at hu
  rcases hu with rfl | rfl <;> rfl
theorem rec_row {i n : Nat} {x : Int} {k : Nat} (hk : k < 1) : ([[intA i, intA n, intA x]] : List (List AV)).getD k [] = (recL (([⟨i, n, x⟩] : List RecD).getD k default)).map AV.ofTr := by
  obtain rfl : k = 0 := by omega
  rfl
theorem odd_len {b : BankD} {i n : Nat} {x : Int} : (oddN b [⟨i, n, x⟩] 1).length = if inB x (callsN b i n).lo (callsN b i n).hi then 0 else 1 := by
  cases h : inB x (callsN b i n).lo (callsN b i n).hi <;> simp [oddN, List.range_succ, h]
theorem spots1 {b : BankD} {i n : Nat} {x : Int} (hi : i < b.loans.length) (hn : n < b.days.length) : spotsB b [⟨i, n, x⟩] = true := by
  show ((inB (i : Int) 0 ((b.loans.length : Int) - 1) && inB (n : Int) 0 ((b.days.length : Int) - 1)) && true) = true
  rw [inB_iff.2 (by omega), inB_iff.2 (by omega)]
  rfl
theorem wider_p (hA : PCall Try.prog 18 [] (fun r => r = boolA true)) (b : BankD) (loan on stock by' pence : Int) (hd1 : b.days.length ≤ 9223372036854775807) (hd2 : b.loans.length ≤ 9223372036854775807)
    (p1 : 0 ≤ loan ∧ loan ≤ 255) (p2 : 0 ≤ on ∧ on ≤ 255) (p3 : 0 ≤ stock ∧ stock ≤ 255) (p4 : 0 ≤ by' ∧ by' ≤ 255) (p5 : 0 ≤ pence ∧ pence ≤ 65535) :
    PCall Try.prog 13 [bankA false b, .v (.int .u8 loan), .v (.int .u8 on), .v (.int .u8 stock), .v (.int .u8 by'), .v (.int .u16 pence)] (fun r => r = boolA true) := by
  refine acall_of_awp T0 Try.func13 rfl rfl rfl ?_
  repeat (first | refine awp_seq ?_ | refine awp_region_lit rfl ?_)
  refine awl_hw (by first | exact wt_none rfl | exact wt_some' rfl rfl rfl rfl (by first | rfl | assumption | exact dT (by omega) | exact dF (by omega))) (st_box rfl rfl rfl (by simp only [cellsA]; rfl) rfl rfl ?_)
  intro g6
  repeat (first | refine awp_seq ?_ | refine awp_region_lit rfl ?_ | ((first | (show AWL _ _ _ (⟨_, .assign _, _, _, _, _⟩ :: _) _ _ _; refine awl_pw ?w (pv_assign rfl rfl) rfl rfl ?_) | (show AWL _ _ _ (⟨_, .load _ _, _, _, _, _⟩ :: _) _ _ _; refine awl_lw ?w (lv_cla T0 rfl rfl rfl (by solve | repeat' constructor) rfl) rfl rfl rfl ?_)); case w => first | exact wt_none rfl | exact wt_some' rfl rfl rfl rfl (by first | rfl | assumption | exact dT (by omega) | exact dF (by omega))) | refine awl_nil ?_)
  cases hr : readyB b
  · refine awl_hw (by first | exact wt_none rfl | exact wt_some' rfl rfl rfl rfl (by first | rfl | assumption | exact dT (by omega) | exact dF (by omega))) (st_call T0 (ready_w hd1 hd2 hr) rfl rfl rfl rfl (by first | exact callee_lit | exact callee_v | exact callee_fn) (by solve | repeat' constructor) rfl rfl ?_)
    rintro _ rfl
    repeat (first | refine awp_seq ?_ | refine awp_region_lit rfl ?_ | refine then_n ?_ | refine awp_cond_t rfl (by first | rfl | assumption | exact dT (by omega)) ?_ | ((first | (show AWL _ _ _ (⟨_, .move _, _, _, _, _⟩ :: _) _ _ _; refine awl_pw ?w (pv_move rfl rfl) rfl rfl ?_) | (show AWL _ _ _ (⟨_, .fieldAddr _ _ _, _, _, _, _⟩ :: _) _ _ _; refine awl_pw ?w (pv_fa T0 rfl rfl rfl (by simp; rfl)) rfl rfl ?_) | (show AWL _ _ _ (⟨_, .unOp .not _ _, _, _, _, _⟩ :: _) _ _ _; refine awl_pw ?w (pv_not rfl rfl) rfl rfl ?_) | (show AWL _ _ _ (⟨_, .pick _ _ _, _, _, _, _⟩ :: _) _ _ _; refine awl_pw ?w (pv_pick_t rfl rfl (by first | rfl | assumption | exact dT (by omega) | exact dF (by omega)) rfl) rfl rfl ?_)); case w => first | exact wt_none rfl | exact wt_some' rfl rfl rfl rfl (by first | rfl | assumption | exact dT (by omega) | exact dF (by omega))) | refine awl_sk (wf_some rfl rfl rfl rfl (by first | rfl | assumption | exact dT (by omega) | exact dF (by omega))) rfl rfl ?_ | refine awl_nil ?_)
    refine awl_hw (by first | exact wt_none rfl | exact wt_some' rfl rfl rfl rfl (by first | rfl | assumption | exact dT (by omega) | exact dF (by omega))) (st_call T0 (hA) rfl rfl rfl rfl (by first | exact callee_lit | exact callee_v | exact callee_fn) (by solve | repeat' constructor) rfl rfl ?_)
    rintro _ rfl
    repeat (first | refine awp_ret ?_ | refine then_r ?_ | ((first | (show AWL _ _ _ (⟨_, .assign _, _, _, _, _⟩ :: _) _ _ _; refine awl_pw ?w (pv_assign rfl rfl) rfl rfl ?_)); case w => first | exact wt_none rfl | exact wt_some' rfl rfl rfl rfl (by first | rfl | assumption | exact dT (by omega) | exact dF (by omega))) | refine awl_nil ?_)
    exact body_p (.cons rfl .nil) rfl
  refine awl_hw (by first | exact wt_none rfl | exact wt_some' rfl rfl rfl rfl (by first | rfl | assumption | exact dT (by omega) | exact dF (by omega))) (st_call T0 (ready_w hd1 hd2 hr) rfl rfl rfl rfl (by first | exact callee_lit | exact callee_v | exact callee_fn) (by solve | repeat' constructor) rfl rfl ?_)
  rintro _ rfl
  as_aux_lemma =>
    obtain ⟨hv, hS, hf⟩ := ready_v hr
    by_cases hL0 : b.loans.length = 0
    · repeat (first | refine awp_seq ?_ | refine awp_region_lit rfl ?_ | refine then_n ?_ | refine awp_cond_t rfl (by first | rfl | assumption | exact dT (by omega)) ?_ | ((first | (show AWL _ _ _ (⟨_, .move _, _, _, _, _⟩ :: _) _ _ _; refine awl_pw ?w (pv_move rfl rfl) rfl rfl ?_) | (show AWL _ _ _ (⟨_, .load _ _, _, _, _, _⟩ :: _) _ _ _; refine awl_lw ?w (lv_cl1 T0 rfl rfl rfl (by solve | repeat' constructor) (by first | rfl | assumption)) rfl rfl rfl ?_) | (show AWL _ _ _ (⟨_, .fieldAddr _ _ _, _, _, _, _⟩ :: _) _ _ _; refine awl_pw ?w (pv_fa T0 rfl rfl rfl (by simp; rfl)) rfl rfl ?_) | (show AWL _ _ _ (⟨_, .binOp .eql _ _ _ _, _, _, _, _⟩ :: _) _ _ _; refine awl_pw ?w (pv_eql rfl rfl rfl) rfl rfl ?_) | (show AWL _ _ _ (⟨_, .call ⟨.builtin .len, _, _⟩, _, _, _, _⟩ :: _) _ _ _; refine awl_pw ?w (pv_len_t T0 rfl rfl rfl) rfl rfl ?_) | (show AWL _ _ _ (⟨_, .unOp .not _ _, _, _, _, _⟩ :: _) _ _ _; refine awl_pw ?w (pv_not rfl rfl) rfl rfl ?_) | (show AWL _ _ _ (⟨_, .pick _ _ _, _, _, _, _⟩ :: _) _ _ _; refine awl_pw ?w (pv_pick_f rfl rfl (by first | rfl | assumption | exact dT (by omega) | exact dF (by omega)) rfl) rfl rfl ?_)); case w => first | exact wt_none rfl | exact wt_some' rfl rfl rfl rfl (by first | rfl | assumption | exact dT (by omega) | exact dF (by omega))) | refine awl_nil ?_)
      refine awl_hw (by first | exact wt_none rfl | exact wt_some' rfl rfl rfl rfl (by first | rfl | assumption | exact dT (by omega) | exact dF (by omega))) (st_call T0 (hA) rfl rfl rfl rfl (by first | exact callee_lit | exact callee_v | exact callee_fn) (by solve | repeat' constructor) rfl rfl ?_)
      rintro _ rfl
      repeat (first | refine awp_ret ?_ | refine then_r ?_ | ((first | (show AWL _ _ _ (⟨_, .assign _, _, _, _, _⟩ :: _) _ _ _; refine awl_pw ?w (pv_assign rfl rfl) rfl rfl ?_)); case w => first | exact wt_none rfl | exact wt_some' rfl rfl rfl rfl (by first | rfl | assumption | exact dT (by omega) | exact dF (by omega))) | refine awl_nil ?_)
      exact body_p (.cons rfl .nil) rfl
    have hd := hv.days
    have hlo4 := hv.loans
    have hst := hv.st
    obtain ⟨i, hi⟩ := Int.eq_ofNat_of_zero_le (Int.tmod_nonneg (b.loans.length : Int) p1.1)
    obtain ⟨n, hn⟩ := Int.eq_ofNat_of_zero_le (Int.tmod_nonneg (b.days.length : Int) p2.1)
    obtain ⟨s, hs⟩ := Int.eq_ofNat_of_zero_le (Int.tmod_nonneg b.stocks p3.1)
    have hit : i < b.loans.length := by
      have := Int.tmod_lt_of_pos loan (show (0 : Int) < b.loans.length by omega)
      omega
    have hnt : n < b.days.length := by
      have := Int.tmod_lt_of_pos on (show (0 : Int) < b.days.length by omega)
      omega
    have hst2 : (s : Int) < b.stocks := by
      have := Int.tmod_lt_of_pos stock (show (0 : Int) < b.stocks by omega)
      omega
    repeat (first | refine awp_seq ?_ | refine awp_skip ?_ | refine then_n ?_ | refine awp_cond_f rfl (by first | rfl | assumption | exact dF (by omega)) ?_ | ((first | (show AWL _ _ _ (⟨_, .move _, _, _, _, _⟩ :: _) _ _ _; refine awl_pw ?w (pv_move rfl rfl) rfl rfl ?_) | (show AWL _ _ _ (⟨_, .load _ _, _, _, _, _⟩ :: _) _ _ _; refine awl_lw ?w (lv_cl1 T0 rfl rfl rfl (by solve | repeat' constructor) (by first | rfl | assumption)) rfl rfl rfl ?_) | (show AWL _ _ _ (⟨_, .fieldAddr _ _ _, _, _, _, _⟩ :: _) _ _ _; refine awl_pw ?w (pv_fa T0 rfl rfl rfl (by simp; rfl)) rfl rfl ?_) | (show AWL _ _ _ (⟨_, .binOp .eql _ _ _ _, _, _, _, _⟩ :: _) _ _ _; refine awl_pw ?w (pv_eql rfl rfl rfl) rfl rfl ?_) | (show AWL _ _ _ (⟨_, .call ⟨.builtin .len, _, _⟩, _, _, _, _⟩ :: _) _ _ _; refine awl_pw ?w (pv_len_t T0 rfl rfl rfl) rfl rfl ?_) | (show AWL _ _ _ (⟨_, .unOp .not _ _, _, _, _, _⟩ :: _) _ _ _; refine awl_pw ?w (pv_not rfl rfl) rfl rfl ?_) | (show AWL _ _ _ (⟨_, .pick _ _ _, _, _, _, _⟩ :: _) _ _ _; refine awl_pw ?w (pv_pick_f rfl rfl (by first | rfl | assumption | exact dT (by omega) | exact dF (by omega)) rfl) rfl rfl ?_)); case w => first | exact wt_none rfl | exact wt_some' rfl rfl rfl rfl (by first | rfl | assumption | exact dT (by omega) | exact dF (by omega))) | refine awl_nil ?_)
    refine awp_cut _ (awp_weak (by first | ((repeat' (first | exact True.intro | refine ⟨rfl, ?_⟩)); all_goals fail) | fail) (by solve | repeat' constructor) (wd_3 (b := b) (u := by') (v := pence) p1 p2 p3 (by omega) (by omega) (by omega) hi hn hs rfl)) ?_
    as_aux_lemma =>
      clear hi hn hs p1 p2 p3
      rintro st h ⟨rfl, rfl⟩
      repeat (first | refine awp_seq ?_ | refine awp_region_lit rfl ?_ | ((first | (show AWL _ _ _ (⟨_, .load _ _, _, _, _, _⟩ :: _) _ _ _; refine awl_lw ?w (lv_cla T0 rfl rfl rfl (by solve | repeat' constructor) rfl) rfl rfl rfl ?_)); case w => first | exact wt_none rfl | exact wt_some' rfl rfl rfl rfl (by first | rfl | assumption | exact dT (by omega) | exact dF (by omega))))
      refine awl_hw (by first | exact wt_none rfl | exact wt_some' rfl rfl rfl rfl (by first | rfl | assumption | exact dT (by omega) | exact dF (by omega))) (st_alloc T0 rfl rfl rfl rfl (by simp only [Value.cells, List.toList_toArray, List.map_cons, List.map_nil]; rfl) ?_)
      intro g16
      repeat (first | refine awp_seq ?_ | refine awp_region_lit rfl ?_ | (show AWL _ _ _ (⟨_, .store _ _ _, _, _, _, _⟩ :: _) _ _ _; refine awl_hw (by first | exact wt_none rfl | exact wt_some' rfl rfl rfl rfl (by first | rfl | assumption | exact dT (by omega) | exact dF (by omega))) (st_store T0 rfl rfl rfl rfl rfl (by simp only [cellsA]; rfl) rfl rfl rfl (by solve | repeat' constructor) (by solve | repeat' constructor) trivial ?_)) | refine awl_nil ?_)
      refine awl_hw (by first | exact wt_none rfl | exact wt_some' rfl rfl rfl rfl (by first | rfl | assumption | exact dT (by omega) | exact dF (by omega))) (st_bsl T0 rfl rfl rfl rfl rfl (by solve | repeat' constructor) rfl rfl rfl rfl (by simp only [List.map_cons, List.map_nil, cellsA]; rfl) ?_)
      intro g61
      repeat (first | ((first | (show AWL _ _ _ (⟨_, .load _ _, _, _, _, _⟩ :: _) _ _ _; refine awl_lw ?w (lv_cl1 T0 rfl rfl rfl (by solve | repeat' constructor) (by first | rfl | assumption)) rfl rfl rfl ?_) | (show AWL _ _ _ (⟨_, .fieldAddr _ _ _, _, _, _, _⟩ :: _) _ _ _; refine awl_pw ?w (pv_fa T0 rfl rfl rfl (by simp; rfl)) rfl rfl ?_)); case w => first | exact wt_none rfl | exact wt_some' rfl rfl rfl rfl (by first | rfl | assumption | exact dT (by omega) | exact dF (by omega))))
      refine awl_hw (by first | exact wt_none rfl | exact wt_some' rfl rfl rfl rfl (by first | rfl | assumption | exact dT (by omega) | exact dF (by omega))) (st_appt T0 rfl rfl rfl rfl rfl rfl rfl rfl rfl (by solve | repeat' constructor) (by first | exact dayOne _ | exact rngOne _) (by (try simp only [List.length_nil, List.length_map, List.length_append, List.length_cons]); rfl) (by first | omega | (simp; omega)) (fun _ _ => trivial) rfl ?_)
      intro a64 c64 p64
      obtain ⟨ga, rfl⟩ := p64 (by omega)
      simp only [List.nil_append, Nat.zero_add]
      rw [show ((List.range b.days.length).map fun k => (dayL (b.days.getD k default)).map AV.ofTr) = dayRows b.days from rfl]
      have dl := dayRows_len b.days
      have da : (dayRows b.days).getD n [] = [.t (rngsT false (b.days.getD n default).prices), intA (b.days.getD n default).rate.lo, intA (b.days.getD n default).rate.hi] := dayRows_at hnt
      have hpl := hv.plen n hnt
      have hpr := hv.price n hnt s (by omega)
      have hrt := hv.rate n hnt
      repeat (first | refine awp_seq ?_ | refine awp_region_lit rfl ?_ | ((first | (show AWL _ _ _ (⟨_, .move _, _, _, _, _⟩ :: _) _ _ _; refine awl_pw ?w (pv_move rfl rfl) rfl rfl ?_) | (show AWL _ _ _ (⟨_, .load _ _, _, _, _, _⟩ :: _) _ _ _; refine awl_lw ?w (lv_cl1 T0 rfl rfl rfl (by solve | repeat' constructor) (by first | rfl | assumption)) rfl rfl rfl ?_) | (show AWL _ _ _ (⟨_, .load _ _, _, _, _, _⟩ :: _) _ _ _; refine awl_lw ?w (lv_rpa T0 rfl rfl rfl (by solve | repeat' constructor) (by first | omega | (simp; omega)) (by first | assumption | rfl)) rfl rfl rfl ?_) | (show AWL _ _ _ (⟨_, .fieldAddr _ _ _, _, _, _, _⟩ :: _) _ _ _; refine awl_pw ?w (pv_fa T0 rfl rfl rfl (by simp; rfl)) rfl rfl ?_) | (show AWL _ _ _ (⟨_, .indexAddr _ _ _, _, _, _, _⟩ :: _) _ _ _; refine awl_pw ?w (pv_ix_own T0 rfl rfl rfl rfl (by omega) (by first | exact Int.toNat_natCast _ | rfl)) rfl rfl ?_)); case w => first | exact wt_none rfl | exact wt_some' rfl rfl rfl rfl (by first | rfl | assumption | exact dT (by omega) | exact dF (by omega))) | (show AWL _ _ _ (⟨_, .store _ _ _, _, _, _, _⟩ :: _) _ _ _; refine awl_hw (by first | exact wt_none rfl | exact wt_some' rfl rfl rfl rfl (by first | rfl | assumption | exact dT (by omega) | exact dF (by omega))) (st_store T0 rfl rfl rfl rfl rfl (by simp only [cellsA]; rfl) rfl rfl rfl (by solve | repeat' constructor) (by solve | repeat' constructor) trivial ?_)) | refine awl_nil ?_)
      refine awl_hw (by first | exact wt_none rfl | exact wt_some' rfl rfl rfl rfl (by first | rfl | assumption | exact dT (by omega) | exact dF (by omega))) (st_alloc T0 rfl rfl rfl rfl (by simp only [Value.cells, List.toList_toArray, List.map_cons, List.map_nil]; rfl) ?_)
      intro g17
      repeat (first | refine awp_seq ?_ | refine awp_region_lit rfl ?_ | (show AWL _ _ _ (⟨_, .store _ _ _, _, _, _, _⟩ :: _) _ _ _; refine awl_hw (by first | exact wt_none rfl | exact wt_some' rfl rfl rfl rfl (by first | rfl | assumption | exact dT (by omega) | exact dF (by omega))) (st_store T0 rfl rfl rfl rfl rfl (by simp only [cellsA]; rfl) rfl rfl rfl (by solve | repeat' constructor) (by solve | repeat' constructor) trivial ?_)) | refine awl_nil ?_)
      refine awl_hw (by first | exact wt_none rfl | exact wt_some' rfl rfl rfl rfl (by first | rfl | assumption | exact dT (by omega) | exact dF (by omega))) (st_bsl T0 rfl rfl rfl rfl rfl (by solve | repeat' constructor) rfl rfl rfl rfl (by simp only [List.map_cons, List.map_nil, cellsA]; rfl) ?_)
      intro g71
      repeat (first | ((first | (show AWL _ _ _ (⟨_, .load _ _, _, _, _, _⟩ :: _) _ _ _; refine awl_lw ?w (lv_cl1 T0 rfl rfl rfl (by solve | repeat' constructor) (by first | rfl | assumption)) rfl rfl rfl ?_) | (show AWL _ _ _ (⟨_, .fieldAddr _ _ _, _, _, _, _⟩ :: _) _ _ _; refine awl_pw ?w (pv_fa T0 rfl rfl rfl (by simp; rfl)) rfl rfl ?_)); case w => first | exact wt_none rfl | exact wt_some' rfl rfl rfl rfl (by first | rfl | assumption | exact dT (by omega) | exact dF (by omega))))
      refine awl_hw (by first | exact wt_none rfl | exact wt_some' rfl rfl rfl rfl (by first | rfl | assumption | exact dT (by omega) | exact dF (by omega))) (st_appt T0 rfl rfl rfl rfl rfl rfl rfl rfl rfl (by solve | repeat' constructor) (by first | exact dayOne _ | exact rngOne _) (by (try simp only [List.length_nil, List.length_map, List.length_append, List.length_cons]); rfl) (by first | omega | (simp; omega)) (fun _ _ => trivial) rfl ?_)
      intro a74 c74 p74
      obtain ⟨gb, rfl⟩ := p74 (by omega)
      simp only [List.nil_append, Nat.zero_add]
      rw [show ((List.range (b.days.getD n default).prices.length).map fun k => (rngL ((b.days.getD n default).prices.getD k default)).map AV.ofTr) = rngRows (b.days.getD n default).prices from rfl]
      have h7 : 0 ≤ by'.tdiv 7 ∧ by'.tdiv 7 ≤ by' := ⟨Int.tdiv_nonneg p4.1 (by decide), Int.tdiv_le_self _ p4.1⟩
      have h49 : 0 ≤ by'.tdiv 49 ∧ by'.tdiv 49 ≤ by' := ⟨Int.tdiv_nonneg p4.1 (by decide), Int.tdiv_le_self _ p4.1⟩
      have hq7 : IntKind.i64.wrap (by'.tdiv 7) = by'.tdiv 7 := wr64 (by omega)
      have hq49 : IntKind.i64.wrap (by'.tdiv 49) = by'.tdiv 49 := wr64 (by omega)
      have t1 := tm p4.1 by' 7 p4.1 (by decide)
      have t2 := tm p4.1 (by'.tdiv 7) 7 h7.1 (by decide)
      have t3 := tm p4.1 (by'.tdiv 49) 3 h49.1 (by decide)
      have t4 := tm p4.1 by' 3 p4.1 (by decide)
      as_aux_lemma =>
        repeat (first | refine awp_seq ?_ | ((first | (show AWL _ _ _ (⟨_, .fieldAddr _ _ _, _, _, _, _⟩ :: _) _ _ _; refine awl_pw ?w (pv_fa T0 rfl rfl rfl (by simp; rfl)) rfl rfl ?_)); case w => first | exact wt_none rfl | exact wt_some' rfl rfl rfl rfl (by first | rfl | assumption | exact dT (by omega) | exact dF (by omega))) | (show AWL _ _ _ (⟨_, .store _ _ _, _, _, _, _⟩ :: _) _ _ _; refine awl_hw (by first | exact wt_none rfl | exact wt_some' rfl rfl rfl rfl (by first | rfl | assumption | exact dT (by omega) | exact dF (by omega))) (st_store T0 rfl rfl rfl rfl rfl (by simp only [cellsA]; rfl) rfl rfl rfl (by solve | repeat' constructor) (by solve | repeat' constructor) trivial ?_)) | refine awl_nil ?_)
        refine awp_cut _ (awp_weak (by first | ((repeat' (first | exact True.intro | refine ⟨rfl, ?_⟩)); all_goals fail) | fail) (by solve | repeat' constructor) (wd_8 (x1 := wdH g6 b) (x2 := .cl g16 25 [intA b.stocks, .v (.slice (some ⟨ga, 0, none⟩) b.days.length c64), .t (loansT false b.loans)]) (x3 := .rw (.slice (some ⟨ga, 0, none⟩) b.days.length c64) 88 3 (dayRows b.days)) (P := (b.days.getD n default).prices) (by omega) p4 (by omega) (by omega) hq7 t1 t2 rfl)) ?_
        rintro st h ⟨rfl, rfl⟩
        have hlp : ((b.days.getD n default).prices.set s (widR by' ((b.days.getD n default).prices.getD s default))).length = (b.days.getD n default).prices.length := by simp
        refine awp_seq ?_
        refine awp_cut (fun st h => st = [(5, .v (.int .u16 pence)), (6, .v (.pointer (some ⟨g6, 0, none⟩))), (13, intA i), (14, intA n), (16, .v (.pointer (some ⟨g16, 0, none⟩))), (17, .v (.pointer (some ⟨g17, 0, none⟩)))] ∧
          h = [.cl g17 88 [.v (.slice (some ⟨gb, 0, none⟩) (b.days.getD n default).prices.length c74), intA (widQ by' (b.days.getD n default).rate).lo, intA (widQ by' (b.days.getD n default).rate).hi], wdH g6 b, .cl g16 25 [intA b.stocks, .v (.slice (some ⟨ga, 0, none⟩) b.days.length c64), .t (loansT false b.loans)],
            .rw (.slice (some ⟨ga, 0, none⟩) b.days.length c64) 88 3 (dayRows b.days), .rw (.slice (some ⟨gb, 0, none⟩) (b.days.getD n default).prices.length c74) 69 2 (rngRows ((b.days.getD n default).prices.set s (widR by' ((b.days.getD n default).prices.getD s default))))]) ?_ ?_
        · as_aux_lemma =>
            repeat (first | refine awp_region_lit rfl ?_ | ((first | (show AWL _ _ _ (⟨_, .move _, _, _, _, _⟩ :: _) _ _ _; refine awl_pw ?w (pv_move rfl rfl) rfl rfl ?_) | (show AWL _ _ _ (⟨_, .load _ _, _, _, _, _⟩ :: _) _ _ _; refine awl_lw ?w (lv_cl1 T0 rfl rfl rfl (by solve | repeat' constructor) (by first | rfl | assumption)) rfl rfl rfl ?_) | (show AWL _ _ _ (⟨_, .fieldAddr _ _ _, _, _, _, _⟩ :: _) _ _ _; refine awl_pw ?w (pv_fa T0 rfl rfl rfl (by simp; rfl)) rfl rfl ?_) | (show AWL _ _ _ (⟨_, .build _ _, _, _, _, _⟩ :: _) _ _ _; refine awl_pw ?w (pv_build T0 rfl rfl rfl (by simp only [Value.cells, List.toList_toArray, List.map_cons, List.map_nil]; rfl) (by first | ((repeat' (first | exact BParts.nil | apply BParts.cons | rfl)); all_goals fail) | fail) (by first | ((repeat' (first | exact FillA.nil | exact Sp.done | apply FillA.cons | apply Sp.put | apply Sp.skip | (simp only [cellsA]; rfl) | rfl)); all_goals fail) | fail)) rfl rfl ?_) | (show AWL _ _ _ (⟨_, .binOp .add _ _ _ _, _, _, _, _⟩ :: _) _ _ _; refine awl_pw ?w (pv_add rfl rfl rfl (by first | assumption | exact wr64 (by omega))) rfl rfl ?_) | (show AWL _ _ _ (⟨_, .binOp .sub _ _ _ _, _, _, _, _⟩ :: _) _ _ _; refine awl_pw ?w (pv_sub rfl rfl rfl (by first | assumption | exact wr64 (by omega))) rfl rfl ?_) | (show AWL _ _ _ (⟨_, .binOp .quo _ _ _ _, _, _, _, _⟩ :: _) _ _ _; refine awl_pw ?w (pv_quo rfl rfl rfl (by omega) (by first | assumption | exact wr64 (by omega))) rfl rfl ?_) | (show AWL _ _ _ (⟨_, .binOp .rem _ _ _ _, _, _, _, _⟩ :: _) _ _ _; refine awl_pw ?w (pv_rem rfl rfl rfl (by omega) (by first | assumption | rfl)) rfl rfl ?_) | (show AWL _ _ _ (⟨_, .call ⟨.builtin .max, _, _⟩, _, _, _, _⟩ :: _) _ _ _; refine awl_pw ?w (pv_max2 rfl rfl rfl) rfl rfl ?_) | (show AWL _ _ _ (⟨_, .call ⟨.builtin .min, _, _⟩, _, _, _, _⟩ :: _) _ _ _; refine awl_pw ?w (pv_min2 rfl rfl rfl) rfl rfl ?_) | (show AWL _ _ _ (⟨_, .convert 5 _ _, _, _, _, _⟩ :: _) _ _ _; refine awl_pw ?w (pv_convert rfl rfl Try.underlying5 Try.underlying3 (by first | assumption | exact wr64 (by omega))) rfl rfl ?_)); case w => first | exact wt_none rfl | exact wt_some' rfl rfl rfl rfl (by first | rfl | assumption | exact dT (by omega) | exact dF (by omega))) | (show AWL _ _ _ (⟨_, .store _ _ _, _, _, _, _⟩ :: _) _ _ _; refine awl_hw (by first | exact wt_none rfl | exact wt_some' rfl rfl rfl rfl (by first | rfl | assumption | exact dT (by omega) | exact dF (by omega))) (st_store T0 rfl rfl rfl rfl rfl (by simp only [cellsA]; rfl) rfl rfl rfl (by solve | repeat' constructor) (by solve | repeat' constructor) trivial ?_)) | refine awl_nil ?_)
            exact cut_n ⟨rfl, rfl⟩ (by first | ((repeat' (first | exact True.intro | refine ⟨rfl, ?_⟩)); all_goals fail) | fail) (by solve | repeat' constructor)
        as_aux_lemma =>
          rintro st h ⟨rfl, rfl⟩
          refine awp_ghost (ghost_freeze_cell (g := g17) (j := 0) (v := .slice (some ⟨gb, 0, none⟩) (b.days.getD n default).prices.length c74) (E := 69) (sz := 2) (rows := rngRows ((b.days.getD n default).prices.set s (widR by' ((b.days.getD n default).prices.getD s default)))) (n := (widD by' s (b.days.getD n default)).prices.length) (fun q => rngL ((widD by' s (b.days.getD n default)).prices.getD q default)) (by solve | repeat' constructor) (by solve | repeat' constructor) rfl rfl (by rw [rngRows_len]; rfl) ?_) ?_
          · intro k hk
            exact rngRows_at hk
          repeat (first | refine awp_seq ?_ | refine awp_region_lit rfl ?_ | ((first | (show AWL _ _ _ (⟨_, .move _, _, _, _, _⟩ :: _) _ _ _; refine awl_pw ?w (pv_move rfl rfl) rfl rfl ?_) | (show AWL _ _ _ (⟨_, .load _ _, _, _, _, _⟩ :: _) _ _ _; refine awl_lw ?w (lv_cl1 T0 rfl rfl rfl (by solve | repeat' constructor) (by first | rfl | assumption)) rfl rfl rfl ?_) | (show AWL _ _ _ (⟨_, .load _ _, _, _, _, _⟩ :: _) _ _ _; refine awl_lw ?w (lv_cla T0 rfl rfl rfl (by solve | repeat' constructor) rfl) rfl rfl rfl ?_) | (show AWL _ _ _ (⟨_, .fieldAddr _ _ _, _, _, _, _⟩ :: _) _ _ _; refine awl_pw ?w (pv_fa T0 rfl rfl rfl (by simp; rfl)) rfl rfl ?_) | (show AWL _ _ _ (⟨_, .indexAddr _ _ _, _, _, _, _⟩ :: _) _ _ _; refine awl_pw ?w (pv_ix_own T0 rfl rfl rfl rfl (by omega) (by first | exact Int.toNat_natCast _ | rfl)) rfl rfl ?_)); case w => first | exact wt_none rfl | exact wt_some' rfl rfl rfl rfl (by first | rfl | assumption | exact dT (by omega) | exact dF (by omega))))
          refine awl_hw (by first | exact wt_none rfl | exact wt_some' rfl rfl rfl rfl (by first | rfl | assumption | exact dT (by omega) | exact dF (by omega))) (aop_store_rp T0 rfl rfl rfl rfl rfl rfl rfl rfl (by solve | repeat' constructor) (by first | omega | (simp; omega)) (by omega) rfl trivial ?_)
          repeat (first | refine awp_seq ?_ | refine awp_region_lit rfl ?_ | ((first | (show AWL _ _ _ (⟨_, .load _ _, _, _, _, _⟩ :: _) _ _ _; refine awl_lw ?w (lv_cla T0 rfl rfl rfl (by solve | repeat' constructor) rfl) rfl rfl rfl ?_)); case w => first | exact wt_none rfl | exact wt_some' rfl rfl rfl rfl (by first | rfl | assumption | exact dT (by omega) | exact dF (by omega))) | refine awl_nil ?_)
          simp only [cellsA, List.set_cons_zero]
          refine awl_ghost (ghost_freeze_cell (g := g16) (j := 1) (v := .slice (some ⟨ga, 0, none⟩) b.days.length c64) (E := 88) (sz := 3) (rows := (dayRows b.days).set n (spA ((dayRows b.days).getD n []) 0 [.t (rngsT true (widD by' s (b.days.getD n default)).prices), intA (widQ by' (b.days.getD n default).rate).lo, intA (widQ by' (b.days.getD n default).rate).hi])) (n := b.days.length) (dayQ b.days n (widD by' s (b.days.getD n default))) (by solve | repeat' constructor) (by solve | repeat' constructor) rfl rfl (by rw [List.length_set]; exact dl) (dayRows_q hnt)) ?_
          have hfx := wid_fault (s := s) p4.1 hv hnt hf
          have hvx := valid_of hfx
          have hlx := wid_len (s := s) p4.1 hv hnt
          have hSx : Short (widB by' s n b) := by
            refine ⟨fun k hk => ?_, hS.2.1, by omega, hS.2.2.2⟩
            rw [hlx] at hk
            rw [wid_plen p4.1 hv hnt hk]
            exact hS.1 k hk
          have hle : AVLe (.ag [intA b.stocks, .t (.sl true 3 b.days.length (dayQ b.days n (widD by' s (b.days.getD n default)))), .t (loansT false b.loans)]) (bankA false (widB by' s n b)) := .ag (.cons (.refl _) (.cons (.t (days_q hnt)) (.cons (.refl _) .nil)))
          have w1 : ∀ k, k < (debtsL b i).length → ((debtsL (widB by' s n b) i).getD k default).lo ≤ ((debtsL b i).getD k default).lo ∧ ((debtsL b i).getD k default).hi ≤ ((debtsL (widB by' s n b) i).getD k default).hi := fun k hk => by
            have hk' : k < b.days.length := by simpa [debtsL] using hk
            have hk2 : k < (widB by' s n b).days.length := by omega
            rw [show (debtsL b i).getD k default = debtsN b i k from range_getD hk', show (debtsL (widB by' s n b) i).getD k default = debtsN (widB by' s n b) i k from range_getD hk2]
            exact wid_debts p4.1 hv hnt hf hit hk'
          have w2 : ∀ k, k < (callsL b i).length → ((callsL (widB by' s n b) i).getD k default).lo ≤ ((callsL b i).getD k default).lo ∧ ((callsL b i).getD k default).hi ≤ ((callsL (widB by' s n b) i).getD k default).hi := fun k hk => by
            have hk' : k < b.days.length := by simpa [callsL] using hk
            have hk2 : k < (widB by' s n b).days.length := by omega
            rw [show (callsL b i).getD k default = callsN b i k from range_getD hk', show (callsL (widB by' s n b) i).getD k default = callsN (widB by' s n b) i k from range_getD hk2]
            exact wid_calls p4.1 hv hnt hf hit hk'
          have w3 : ∀ k, k < (totalL b).length → ((totalL (widB by' s n b)).getD k default).lo ≤ ((totalL b).getD k default).lo ∧ ((totalL b).getD k default).hi ≤ ((totalL (widB by' s n b)).getD k default).hi := fun k hk => by
            have hk' : k < b.days.length := by simpa [totalL] using hk
            have hk2 : k < (widB by' s n b).days.length := by omega
            rw [show (totalL b).getD k default = totalN b k from range_getD hk', show (totalL (widB by' s n b)).getD k default = totalN (widB by' s n b) k from range_getD hk2]
            exact wid_sums p4.1 hv hnt hf (Nat.le_refl _) hk'
          have v1 : (debtsL b i).length = (debtsL (widB by' s n b) i).length := by simp [debtsL, hlx]
          have v2 : (callsL b i).length = (callsL (widB by' s n b) i).length := by simp [callsL, hlx]
          have v3 : (totalL b).length = (totalL (widB by' s n b)).length := by simp [totalL, hlx]
          have m1 : (debtsL b i).length ≤ 1000 := by simp [debtsL]; omega
          have m2 : (callsL b i).length ≤ 1000 := by simp [callsL]; omega
          have m3 : (totalL b).length ≤ 1000 := by simp [totalL]; omega
          have ho : (oddN (widB by' s n b) [⟨i, n, pence⟩] 1).length ≤ (oddN b [⟨i, n, pence⟩] 1).length := by
            rw [odd_len, odd_len]
            have hc := wid_calls (s := s) p4.1 hv hnt hf (i := i) (k := n) hit hnt
            cases hb : inB pence (callsN b i n).lo (callsN b i n).hi
            · split <;> simp
            · have := inB_iff.1 hb
              rw [if_pos (inB_iff.2 (by omega))]
              simp
          have hod : ((oddN (widB by' s n b) [⟨i, n, pence⟩] 1).length : Int) ≤ ((oddN b [⟨i, n, pence⟩] 1).length : Int) := by omega
          have hit' : i < (widB by' s n b).loans.length := hit
          have hsp := spots1 (x := pence) hit hnt
          have hspx := spots1 (b := widB by' s n b) (n := n) (x := pence) hit' (by omega)
          generalize widB by' s n b = B at *
          clear dl da hpl hpr hrt h7 h49 hq7 hq49 t1 t2 t3 t4 hlp
          as_aux_lemma =>
            refine awl_hw (by first | exact wt_none rfl | exact wt_some' rfl rfl rfl rfl (by first | rfl | assumption | exact dT (by omega) | exact dF (by omega))) (st_call T0 (bank_p true b hS) rfl rfl rfl rfl (by first | exact callee_lit | exact callee_v | exact callee_fn) (by solve | repeat' constructor) rfl rfl ?_)
            rintro _ rfl
            repeat (first | ((first | (show AWL _ _ _ (⟨_, .move _, _, _, _, _⟩ :: _) _ _ _; refine awl_pw ?w (pv_move rfl rfl) rfl rfl ?_)); case w => first | exact wt_none rfl | exact wt_some' rfl rfl rfl rfl (by first | rfl | assumption | exact dT (by omega) | exact dF (by omega))))
            refine awl_hw (by first | exact wt_none rfl | exact wt_some' rfl rfl rfl rfl (by first | rfl | assumption | exact dT (by omega) | exact dF (by omega))) (st_call T0 (bounds_p b i hS hf hit) rfl rfl rfl rfl (by first | exact callee_lit | exact callee_v | exact callee_fn) (by solve | repeat' constructor) rfl rfl ?_)
            rintro _ rfl
            repeat (first | refine awp_seq ?_ | refine awp_region_lit rfl ?_ | ((first | (show AWL _ _ _ (⟨_, .move _, _, _, _, _⟩ :: _) _ _ _; refine awl_pw ?w (pv_move rfl rfl) rfl rfl ?_) | (show AWL _ _ _ (⟨_, .assign _, _, _, _, _⟩ :: _) _ _ _; refine awl_pw ?w (pv_assign rfl rfl) rfl rfl ?_) | (show AWL _ _ _ (⟨_, .load _ _, _, _, _, _⟩ :: _) _ _ _; refine awl_lw ?w (lv_cla T0 rfl rfl rfl (by solve | repeat' constructor) rfl) rfl rfl rfl ?_) | (show AWL _ _ _ (⟨_, .extract _ _, _, _, _, _⟩ :: _) _ _ _; refine awl_pw ?w (pv_extract rfl rfl rfl) rfl rfl ?_)); case w => first | exact wt_none rfl | exact wt_some' rfl rfl rfl rfl (by first | rfl | assumption | exact dT (by omega) | exact dF (by omega))) | refine awl_nil ?_)
            refine awl_hw (by first | exact wt_none rfl | exact wt_some' rfl rfl rfl rfl (by first | rfl | assumption | exact dT (by omega) | exact dF (by omega))) (st_call T0 (pcall_weak (bank_p true B hSx) (.cons hle .nil)) rfl rfl rfl rfl (by first | exact callee_lit | exact callee_v | exact callee_fn) (by solve | repeat' constructor) rfl rfl ?_)
            rintro _ rfl
            repeat (first | ((first | (show AWL _ _ _ (⟨_, .move _, _, _, _, _⟩ :: _) _ _ _; refine awl_pw ?w (pv_move rfl rfl) rfl rfl ?_)); case w => first | exact wt_none rfl | exact wt_some' rfl rfl rfl rfl (by first | rfl | assumption | exact dT (by omega) | exact dF (by omega))))
            refine awl_hw (by first | exact wt_none rfl | exact wt_some' rfl rfl rfl rfl (by first | rfl | assumption | exact dT (by omega) | exact dF (by omega))) (st_call T0 (bounds_p B i hSx hfx hit') rfl rfl rfl rfl (by first | exact callee_lit | exact callee_v | exact callee_fn) (by solve | repeat' constructor) rfl rfl ?_)
            rintro _ rfl
            as_aux_lemma =>
              generalize debtsL b i = D1 at *
              generalize debtsL B i = D2 at *
              generalize callsL b i = C1 at *
              generalize callsL B i = C2 at *
              repeat (first | refine awp_seq ?_ | refine awp_region_lit rfl ?_ | ((first | (show AWL _ _ _ (⟨_, .move _, _, _, _, _⟩ :: _) _ _ _; refine awl_pw ?w (pv_move rfl rfl) rfl rfl ?_) | (show AWL _ _ _ (⟨_, .assign _, _, _, _, _⟩ :: _) _ _ _; refine awl_pw ?w (pv_assign rfl rfl) rfl rfl ?_) | (show AWL _ _ _ (⟨_, .load _ _, _, _, _, _⟩ :: _) _ _ _; refine awl_lw ?w (lv_cla T0 rfl rfl rfl (by solve | repeat' constructor) rfl) rfl rfl rfl ?_) | (show AWL _ _ _ (⟨_, .extract _ _, _, _, _, _⟩ :: _) _ _ _; refine awl_pw ?w (pv_extract rfl rfl rfl) rfl rfl ?_)); case w => first | exact wt_none rfl | exact wt_some' rfl rfl rfl rfl (by first | rfl | assumption | exact dT (by omega) | exact dF (by omega))) | refine awl_nil ?_)
              refine awl_hw (by first | exact wt_none rfl | exact wt_some' rfl rfl rfl rfl (by first | rfl | assumption | exact dT (by omega) | exact dF (by omega))) (st_call T0 (bank_p true b hS) rfl rfl rfl rfl (by first | exact callee_lit | exact callee_v | exact callee_fn) (by solve | repeat' constructor) rfl rfl ?_)
              rintro _ rfl
              skip
              refine awl_hw (by first | exact wt_none rfl | exact wt_some' rfl rfl rfl rfl (by first | rfl | assumption | exact dT (by omega) | exact dF (by omega))) (st_call T0 (total_p b hS hf) rfl rfl rfl rfl (by first | exact callee_lit | exact callee_v | exact callee_fn) (by solve | repeat' constructor) rfl rfl ?_)
              rintro _ rfl
              repeat (first | refine awp_seq ?_ | refine awp_region_lit rfl ?_ | ((first | (show AWL _ _ _ (⟨_, .move _, _, _, _, _⟩ :: _) _ _ _; refine awl_pw ?w (pv_move rfl rfl) rfl rfl ?_) | (show AWL _ _ _ (⟨_, .assign _, _, _, _, _⟩ :: _) _ _ _; refine awl_pw ?w (pv_assign rfl rfl) rfl rfl ?_) | (show AWL _ _ _ (⟨_, .load _ _, _, _, _, _⟩ :: _) _ _ _; refine awl_lw ?w (lv_cla T0 rfl rfl rfl (by solve | repeat' constructor) rfl) rfl rfl rfl ?_) | (show AWL _ _ _ (⟨_, .extract _ _, _, _, _, _⟩ :: _) _ _ _; refine awl_pw ?w (pv_extract rfl rfl rfl) rfl rfl ?_)); case w => first | exact wt_none rfl | exact wt_some' rfl rfl rfl rfl (by first | rfl | assumption | exact dT (by omega) | exact dF (by omega))) | refine awl_nil ?_)
              refine awl_hw (by first | exact wt_none rfl | exact wt_some' rfl rfl rfl rfl (by first | rfl | assumption | exact dT (by omega) | exact dF (by omega))) (st_call T0 (pcall_weak (bank_p true B hSx) (.cons hle .nil)) rfl rfl rfl rfl (by first | exact callee_lit | exact callee_v | exact callee_fn) (by solve | repeat' constructor) rfl rfl ?_)
              rintro _ rfl
              skip
              refine awl_hw (by first | exact wt_none rfl | exact wt_some' rfl rfl rfl rfl (by first | rfl | assumption | exact dT (by omega) | exact dF (by omega))) (st_call T0 (total_p B hSx hfx) rfl rfl rfl rfl (by first | exact callee_lit | exact callee_v | exact callee_fn) (by solve | repeat' constructor) rfl rfl ?_)
              rintro _ rfl
              as_aux_lemma =>
                generalize totalL b = T1 at *
                generalize totalL B = T2 at *
                repeat (first | refine awp_seq ?_ | refine awp_region_lit rfl ?_ | ((first | (show AWL _ _ _ (⟨_, .move _, _, _, _, _⟩ :: _) _ _ _; refine awl_pw ?w (pv_move rfl rfl) rfl rfl ?_) | (show AWL _ _ _ (⟨_, .assign _, _, _, _, _⟩ :: _) _ _ _; refine awl_pw ?w (pv_assign rfl rfl) rfl rfl ?_) | (show AWL _ _ _ (⟨_, .build _ _, _, _, _, _⟩ :: _) _ _ _; refine awl_pw ?w (pv_build T0 rfl rfl rfl (by simp only [Value.cells, List.toList_toArray, List.map_cons, List.map_nil]; rfl) (by first | ((repeat' (first | exact BParts.nil | apply BParts.cons | rfl)); all_goals fail) | fail) (by first | ((repeat' (first | exact FillA.nil | exact Sp.done | apply FillA.cons | apply Sp.put | apply Sp.skip | (simp only [cellsA]; rfl) | rfl)); all_goals fail) | fail)) rfl rfl ?_) | (show AWL _ _ _ (⟨_, .extract _ _, _, _, _, _⟩ :: _) _ _ _; refine awl_pw ?w (pv_extract rfl rfl rfl) rfl rfl ?_) | (show AWL _ _ _ (⟨_, .convert 96 _ _, _, _, _, _⟩ :: _) _ _ _; refine awl_pw ?w (pv_convert rfl rfl Try.underlying96 Try.underlying3 (by first | assumption | exact wr64 (by omega))) rfl rfl ?_)); case w => first | exact wt_none rfl | exact wt_some' rfl rfl rfl rfl (by first | rfl | assumption | exact dT (by omega) | exact dF (by omega))) | refine awl_nil ?_)
                refine awl_hw (by first | exact wt_none rfl | exact wt_some' rfl rfl rfl rfl (by first | rfl | assumption | exact dT (by omega) | exact dF (by omega))) (st_bsl T0 rfl rfl rfl rfl rfl (by solve | repeat' constructor) rfl rfl rfl rfl (by simp only [List.map_cons, List.map_nil, cellsA]; rfl) ?_)
                intro g161
                repeat (first | refine awp_seq ?_ | refine awp_region_lit rfl ?_ | ((first | (show AWL _ _ _ (⟨_, .assign _, _, _, _, _⟩ :: _) _ _ _; refine awl_pw ?w (pv_assign rfl rfl) rfl rfl ?_) | (show AWL _ _ _ (⟨_, .load _ _, _, _, _, _⟩ :: _) _ _ _; refine awl_lw ?w (lv_cla T0 rfl rfl rfl (by solve | repeat' constructor) rfl) rfl rfl rfl ?_)); case w => first | exact wt_none rfl | exact wt_some' rfl rfl rfl rfl (by first | rfl | assumption | exact dT (by omega) | exact dF (by omega))) | refine awl_nil ?_)
                refine awl_ghost (ghost_freeze (E := 63) (sz := 3) (n := 1) (rows := [[intA i, intA n, intA pence]]) (d := 28) (fun q => recL (([⟨i, n, pence⟩] : List RecD).getD q default)) (by solve | repeat' constructor) rfl rfl (fun k hk => rec_row hk)) ?_
                refine awl_hw (by first | exact wt_none rfl | exact wt_some' rfl rfl rfl rfl (by first | rfl | assumption | exact dT (by omega) | exact dF (by omega))) (st_call T0 (bank_p true b hS) rfl rfl rfl rfl (by first | exact callee_lit | exact callee_v | exact callee_fn) (by solve | repeat' constructor) rfl rfl ?_)
                rintro _ rfl
                repeat (first | ((first | (show AWL _ _ _ (⟨_, .move _, _, _, _, _⟩ :: _) _ _ _; refine awl_pw ?w (pv_move rfl rfl) rfl rfl ?_)); case w => first | exact wt_none rfl | exact wt_some' rfl rfl rfl rfl (by first | rfl | assumption | exact dT (by omega) | exact dF (by omega))))
                refine awl_hw (by first | exact wt_none rfl | exact wt_some' rfl rfl rfl rfl (by first | rfl | assumption | exact dT (by omega) | exact dF (by omega))) (st_call T0 (odd_p b true [⟨i, n, pence⟩] hS hf (by simp) hsp) rfl rfl rfl rfl (by first | exact callee_lit | exact callee_v | exact callee_fn) (by solve | repeat' constructor) rfl rfl ?_)
                rintro _ rfl
                repeat (first | refine awp_seq ?_ | refine awp_region_lit rfl ?_ | ((first | (show AWL _ _ _ (⟨_, .move _, _, _, _, _⟩ :: _) _ _ _; refine awl_pw ?w (pv_move rfl rfl) rfl rfl ?_) | (show AWL _ _ _ (⟨_, .assign _, _, _, _, _⟩ :: _) _ _ _; refine awl_pw ?w (pv_assign rfl rfl) rfl rfl ?_) | (show AWL _ _ _ (⟨_, .load _ _, _, _, _, _⟩ :: _) _ _ _; refine awl_lw ?w (lv_cla T0 rfl rfl rfl (by solve | repeat' constructor) rfl) rfl rfl rfl ?_) | (show AWL _ _ _ (⟨_, .extract _ _, _, _, _, _⟩ :: _) _ _ _; refine awl_pw ?w (pv_extract rfl rfl rfl) rfl rfl ?_)); case w => first | exact wt_none rfl | exact wt_some' rfl rfl rfl rfl (by first | rfl | assumption | exact dT (by omega) | exact dF (by omega))) | refine awl_nil ?_)
                refine awl_hw (by first | exact wt_none rfl | exact wt_some' rfl rfl rfl rfl (by first | rfl | assumption | exact dT (by omega) | exact dF (by omega))) (st_call T0 (pcall_weak (bank_p true B hSx) (.cons hle .nil)) rfl rfl rfl rfl (by first | exact callee_lit | exact callee_v | exact callee_fn) (by solve | repeat' constructor) rfl rfl ?_)
                rintro _ rfl
                repeat (first | ((first | (show AWL _ _ _ (⟨_, .move _, _, _, _, _⟩ :: _) _ _ _; refine awl_pw ?w (pv_move rfl rfl) rfl rfl ?_)); case w => first | exact wt_none rfl | exact wt_some' rfl rfl rfl rfl (by first | rfl | assumption | exact dT (by omega) | exact dF (by omega))))
                refine awl_hw (by first | exact wt_none rfl | exact wt_some' rfl rfl rfl rfl (by first | rfl | assumption | exact dT (by omega) | exact dF (by omega))) (st_call T0 (odd_p B true [⟨i, n, pence⟩] hSx hfx (by simp) hspx) rfl rfl rfl rfl (by first | exact callee_lit | exact callee_v | exact callee_fn) (by solve | repeat' constructor) rfl rfl ?_)
                rintro _ rfl
                as_aux_lemma =>
                  simp only [List.length_singleton]
                  generalize oddN b [⟨i, n, pence⟩] 1 = O1 at *
                  generalize oddN B [⟨i, n, pence⟩] 1 = O2 at *
                  repeat (first | refine awp_seq ?_ | refine awp_region_lit rfl ?_ | ((first | (show AWL _ _ _ (⟨_, .move _, _, _, _, _⟩ :: _) _ _ _; refine awl_pw ?w (pv_move rfl rfl) rfl rfl ?_) | (show AWL _ _ _ (⟨_, .assign _, _, _, _, _⟩ :: _) _ _ _; refine awl_pw ?w (pv_assign rfl rfl) rfl rfl ?_) | (show AWL _ _ _ (⟨_, .binOp .eql _ _ _ _, _, _, _, _⟩ :: _) _ _ _; refine awl_pw ?w (pv_eql rfl rfl rfl) rfl rfl ?_) | (show AWL _ _ _ (⟨_, .extract _ _, _, _, _, _⟩ :: _) _ _ _; refine awl_pw ?w (pv_extract rfl rfl rfl) rfl rfl ?_) | (show AWL _ _ _ (⟨_, .pick _ _ _, _, _, _, _⟩ :: _) _ _ _; refine awl_pw ?w (pv_pick_t rfl rfl (by first | rfl | assumption | exact dT (by omega) | exact dF (by omega)) rfl) rfl rfl ?_)); case w => first | exact wt_none rfl | exact wt_some' rfl rfl rfl rfl (by first | rfl | assumption | exact dT (by omega) | exact dF (by omega))) | refine awl_nil ?_)
                  refine awl_hw (by first | exact wt_none rfl | exact wt_some' rfl rfl rfl rfl (by first | rfl | assumption | exact dT (by omega) | exact dF (by omega))) (st_call T0 (within_q false false D1 D2 v1 m1 w1) rfl rfl rfl rfl (by first | exact callee_lit | exact callee_v | exact callee_fn) (by solve | repeat' constructor) rfl rfl ?_)
                  rintro _ rfl
                  repeat (first | ((first | (show AWL _ _ _ (⟨_, .move _, _, _, _, _⟩ :: _) _ _ _; refine awl_pw ?w (pv_move rfl rfl) rfl rfl ?_) | (show AWL _ _ _ (⟨_, .pick _ _ _, _, _, _, _⟩ :: _) _ _ _; refine awl_pw ?w (pv_pick_t rfl rfl (by first | rfl | assumption | exact dT (by omega) | exact dF (by omega)) rfl) rfl rfl ?_)); case w => first | exact wt_none rfl | exact wt_some' rfl rfl rfl rfl (by first | rfl | assumption | exact dT (by omega) | exact dF (by omega))))
                  refine awl_hw (by first | exact wt_none rfl | exact wt_some' rfl rfl rfl rfl (by first | rfl | assumption | exact dT (by omega) | exact dF (by omega))) (st_call T0 (within_q false false C1 C2 v2 m2 w2) rfl rfl rfl rfl (by first | exact callee_lit | exact callee_v | exact callee_fn) (by solve | repeat' constructor) rfl rfl ?_)
                  rintro _ rfl
                  repeat (first | ((first | (show AWL _ _ _ (⟨_, .move _, _, _, _, _⟩ :: _) _ _ _; refine awl_pw ?w (pv_move rfl rfl) rfl rfl ?_) | (show AWL _ _ _ (⟨_, .pick _ _ _, _, _, _, _⟩ :: _) _ _ _; refine awl_pw ?w (pv_pick_t rfl rfl (by first | rfl | assumption | exact dT (by omega) | exact dF (by omega)) rfl) rfl rfl ?_)); case w => first | exact wt_none rfl | exact wt_some' rfl rfl rfl rfl (by first | rfl | assumption | exact dT (by omega) | exact dF (by omega))))
                  refine awl_hw (by first | exact wt_none rfl | exact wt_some' rfl rfl rfl rfl (by first | rfl | assumption | exact dT (by omega) | exact dF (by omega))) (st_call T0 (within_q false false T1 T2 v3 m3 w3) rfl rfl rfl rfl (by first | exact callee_lit | exact callee_v | exact callee_fn) (by solve | repeat' constructor) rfl rfl ?_)
                  rintro _ rfl
                  repeat (first | ((first | (show AWL _ _ _ (⟨_, .move _, _, _, _, _⟩ :: _) _ _ _; refine awl_pw ?w (pv_move rfl rfl) rfl rfl ?_) | (show AWL _ _ _ (⟨_, .binOp .leq _ _ _ _, _, _, _, _⟩ :: _) _ _ _; refine awl_pw ?w (pv_leq rfl rfl rfl) rfl rfl ?_) | (show AWL _ _ _ (⟨_, .call ⟨.builtin .len, _, _⟩, _, _, _, _⟩ :: _) _ _ _; refine awl_pw ?w (pv_len_t T0 rfl rfl rfl) rfl rfl ?_) | (show AWL _ _ _ (⟨_, .pick _ _ _, _, _, _, _⟩ :: _) _ _ _; refine awl_pw ?w (pv_pick_t rfl rfl (by first | rfl | assumption | exact dT (by omega) | exact dF (by omega)) rfl) rfl rfl ?_)); case w => first | exact wt_none rfl | exact wt_some' rfl rfl rfl rfl (by first | rfl | assumption | exact dT (by omega) | exact dF (by omega))))
                  refine awl_hw (by first | exact wt_none rfl | exact wt_some' rfl rfl rfl rfl (by first | rfl | assumption | exact dT (by omega) | exact dF (by omega))) (st_call T0 (hA) rfl rfl rfl rfl (by first | exact callee_lit | exact callee_v | exact callee_fn) (by solve | repeat' constructor) rfl rfl ?_)
                  rintro _ rfl
                  repeat (first | refine awp_ret ?_ | ((first | (show AWL _ _ _ (⟨_, .assign _, _, _, _, _⟩ :: _) _ _ _; refine awl_pw ?w (pv_assign rfl rfl) rfl rfl ?_) | (show AWL _ _ _ (⟨_, .pick _ _ _, _, _, _, _⟩ :: _) _ _ _; refine awl_pw ?w (pv_pick_t rfl rfl (by first | rfl | assumption | exact dT (by omega) | exact dF (by omega)) rfl) rfl rfl ?_)); case w => first | exact wt_none rfl | exact wt_some' rfl rfl rfl rfl (by first | rfl | assumption | exact dT (by omega) | exact dF (by omega))) | refine awl_nil ?_)
                  exact body_p (.cons rfl .nil) rfl
end Go.Proofs.Ytfiacjdkdjkiiaa
