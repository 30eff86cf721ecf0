/- Nth of the reference: its walk. -/
import Derived.Test.YtfiacjdkdjkiiaaZsNx
import Derived.Test.YtfiacjdkdjkiiaaZsTlw
import Derived.Test.YtfiacjdkdjkiiaaTy
import Derived.Test.YtfiacjdkdjkiiaaGCo
import Derived.Test.YtfiacjdkdjkiiaaGMa
namespace Go.Proofs.Ytfiacjdkdjkiiaa
open Go Go.RowKit Go.Tl
set_option linter.unusedVariables false
set_option linter.unusedSimpArgs false
set_option maxRecDepth 100000
set_option maxHeartbeats 4000000
attribute [local irreducible] AWP AWL AOp PV LV AWT AWE
theorem wrn {x y : Int} (h : x = y) (h' : -9223372036854775808 ≤ y ∧ y ≤ 9223372036854775807) : IntKind.i64.wrap x = y := by subst h; exact wr64 h'
abbrev ntC (g7 : Nat) (d : DayD) : Ent := .cl g7 88 [.t (rngsT false d.prices), intA d.rate.lo, intA d.rate.hi]
section
variable {x1 x2 x3 : Ent} {u2 u4 u6 : AV} {d : DayD} {g5 g7 i j c c' : Nat} {a a' : Option Addr} {rows : List (List AV)} {n w x : Int}
theorem nt_7 (hi : i ≤ 1000) (hn2 : rows.length = i) (hw : w ≠ 0) (e1 : n.tmod w = x) (b1 : 0 ≤ d.rate.lo ∧ d.rate.lo ≤ 1000) (b2 : 0 ≤ x ∧ x ≤ 100000) {ops : Array Oper} (h : regF Try.f67 7 = some ops) :
    AWP Try.prog Try.f67.ntmps none (.region 7 ops true) (cutQ (fun s h => ∃ a2 c2, s = [(1, intA n), (2, u2), (4, u4), (5, .v (.pointer (some ⟨g5, 0, none⟩))), (6, u6), (7, .v (.pointer (some ⟨g7, 0, none⟩))), (8, intA w)] ∧ h = [x1, x2, ntC g7 d, .cl g5 29 [.v (.slice a i c), .v (.slice a2 (i + 1) c2)], x3, .rw (.slice a2 (i + 1) c2) 3 1 (rows ++ [[intA (d.rate.lo + x)]])]))
      [(1, intA n), (2, u2), (4, u4), (5, .v (.pointer (some ⟨g5, 0, none⟩))), (6, u6), (7, .v (.pointer (some ⟨g7, 0, none⟩))), (8, intA w)] [x1, x2, ntC g7 d, .cl g5 29 [.v (.slice a i c), .v (.slice a' i c')], x3, .rw (.slice a' i c') 3 1 rows] := by
  cases h
  refine awp_tree T0 [(0, 0), (1, 1), (2, 0), (3, 0), (4, 1), (5, 0), (6, 0), (7, 0), (8, 0), (9, 2), (10, 3), (11, 0), (12, 3)] (.op 0 0 (.op 1 1 (.op 2 0 (.op 3 0 (.op 4 1 (.op 5 0 (.op 6 0 (.op 7 0 (.op 8 0 (.op 9 2 (.op 10 3 (.op 11 0 (.op 12 3 .stop))))))))))))) _ rfl (by kernel_rfl) (SubH.refl _) ?_
  refine awt_po rfl (wt_none rfl) (pv_fa T0 rfl rfl rfl (by simp; rfl)) rfl rfl ?_
  refine awt_lo rfl (wt_none rfl) (lv_cl1 T0 rfl rfl rfl (by solve | repeat' constructor) (by first | rfl | assumption)) rfl rfl rfl ?_
  refine awt_po rfl (wt_none rfl) (pv_fa T0 rfl rfl rfl (by simp; rfl)) rfl rfl ?_
  refine awt_po rfl (wt_none rfl) (pv_fa T0 rfl rfl rfl (by simp; rfl)) rfl rfl ?_
  refine awt_lo rfl (wt_none rfl) (lv_cl1 T0 rfl rfl rfl (by solve | repeat' constructor) (by first | rfl | assumption)) rfl rfl rfl ?_
  refine awt_po rfl (wt_none rfl) (pv_move rfl rfl) rfl rfl ?_
  refine awt_po rfl (wt_none rfl) (pv_move rfl rfl) rfl rfl ?_
  refine awt_po rfl (wt_none rfl) (pv_rem rfl rfl rfl (by omega) (by first | assumption | rfl)) rfl rfl ?_
  refine awt_po rfl (wt_none rfl) (pv_add rfl rfl rfl (by first | assumption | exact wr64 (by omega))) rfl rfl ?_
  refine awt_h (hm := []) rfl (wt_none rfl) (by solve | repeat' constructor) rfl (st_bsl T0 rfl rfl rfl rfl rfl (by solve | repeat' constructor) rfl rfl rfl rfl (by simp only [List.map_cons, List.map_nil, cellsA]; rfl) ?_)
  intro g40
  refine awt_s (md := fun _ => True) rfl (wt_none rfl) (st_app T0 rfl rfl rfl rfl rfl rfl rfl rfl rfl (by solve | repeat' constructor) (by solve | repeat' constructor) rfl rfl hn2 (by omega) (fun _ _ => trivial) ?_)
  intro a41 c41 p41
  first
    | refine awe_p rfl (wt_none rfl) (pv_fa T0 rfl rfl rfl (by simp; rfl)) rfl rfl ?_
    | refine awe_p rfl (wt_none rfl) (pv_fa_elt T0 rfl rfl rfl (by simp; rfl)) rfl rfl ?_
    | refine awe_p rfl (wt_none rfl) (pv_fa_rp T0 rfl rfl rfl (by simp; rfl)) rfl rfl ?_
  refine awe_s (md := fun _ => True) rfl (wt_none rfl) (st_store T0 rfl rfl rfl rfl rfl (by simp only [cellsA]; rfl) rfl rfl rfl (by solve | repeat' constructor) (by solve | repeat' constructor) trivial ?_)
  refine awe_end ?_
  exact cut_n ⟨_, _, rfl, rfl⟩ (by first | ((repeat' (first | exact True.intro | refine ⟨rfl, ?_⟩)); all_goals fail) | fail) (by solve | repeat' constructor)
variable {x4 x5 : Ent} {u5 u8 : AV}
theorem nt_13 (hj : j < d.prices.length) (b1 : 0 ≤ (d.prices.getD j default).lo ∧ (d.prices.getD j default).lo ≤ 1000 ∧ 0 ≤ (d.prices.getD j default).hi ∧ (d.prices.getD j default).hi ≤ 1000) {ops : Array Oper} (h : regF Try.f67 13 = some ops) :
    AWP Try.prog Try.f67.ntmps none (.region 13 ops true) (cutQ (fun s h => s = [(1, intA n), (2, u2), (4, u4), (5, u5), (6, u6), (7, .v (.pointer (some ⟨g7, 0, none⟩))), (8, intA ((d.prices.getD j default).hi - (d.prices.getD j default).lo + 1)), (9, .v (.slice a j c)), (10, intA j)] ∧ h = [x1, x2, ntC g7 d, x3, x4, x5, .rw (.slice a j c) 3 1 rows]))
      [(1, intA n), (2, u2), (4, u4), (5, u5), (6, u6), (7, .v (.pointer (some ⟨g7, 0, none⟩))), (9, .v (.slice a j c)), (10, intA j)] [x1, x2, ntC g7 d, x3, x4, x5, .rw (.slice a j c) 3 1 rows] := by
  cases h
  refine awp_tree T0 [(0, 0), (1, 1), (2, 0), (3, 0), (4, 0), (5, 1), (6, 0), (7, 1), (8, 0), (9, 0), (10, 0), (11, 1), (12, 0), (13, 0), (14, 0)] (.op 0 0 (.op 1 1 (.op 2 0 (.op 3 0 (.op 4 0 (.op 5 1 (.op 6 0 (.op 7 1 (.op 8 0 (.op 9 0 (.op 10 0 (.op 11 1 (.op 12 0 (.op 13 0 (.op 14 0 .stop))))))))))))))) _ rfl (by kernel_rfl) (SubH.refl _) ?_
  refine awt_po rfl (wt_none rfl) (pv_fa T0 rfl rfl rfl (by simp; rfl)) rfl rfl ?_
  refine awt_lo rfl (wt_none rfl) (lv_cl1 T0 rfl rfl rfl (by solve | repeat' constructor) (by first | rfl | assumption)) rfl rfl rfl ?_
  refine awt_po rfl (wt_none rfl) (pv_move rfl rfl) rfl rfl ?_
  refine awt_po rfl (wt_none rfl) (pv_ix_t T0 rfl rfl rfl rfl (by omega) (by first | exact Int.toNat_natCast _ | rfl)) rfl rfl ?_
  refine awt_po rfl (wt_none rfl) (pv_fa_elt T0 rfl rfl rfl (by simp; rfl)) rfl rfl ?_
  refine awt_lo rfl (wt_none rfl) (lv_elt_sc T0 rfl rfl rfl rfl) rfl rfl rfl ?_
  refine awt_po rfl (wt_none rfl) (pv_fa T0 rfl rfl rfl (by simp; rfl)) rfl rfl ?_
  refine awt_lo rfl (wt_none rfl) (lv_cl1 T0 rfl rfl rfl (by solve | repeat' constructor) (by first | rfl | assumption)) rfl rfl rfl ?_
  refine awt_po rfl (wt_none rfl) (pv_move rfl rfl) rfl rfl ?_
  refine awt_po rfl (wt_none rfl) (pv_ix_t T0 rfl rfl rfl rfl (by omega) (by first | exact Int.toNat_natCast _ | rfl)) rfl rfl ?_
  refine awt_po rfl (wt_none rfl) (pv_fa_elt T0 rfl rfl rfl (by simp; rfl)) rfl rfl ?_
  refine awt_lo rfl (wt_none rfl) (lv_elt_sc T0 rfl rfl rfl rfl) rfl rfl rfl ?_
  refine awt_po rfl (wt_none rfl) (pv_sub rfl rfl rfl (by first | assumption | exact wr64 (by omega))) rfl rfl ?_
  refine awt_po rfl (wt_none rfl) (pv_add rfl rfl rfl (by first | assumption | exact wr64 (by omega))) rfl rfl ?_
  refine awt_po rfl (wt_none rfl) (pv_assign rfl rfl) rfl rfl ?_
  refine awt_end ?_
  exact cut_n ⟨rfl, rfl⟩ (by first | ((repeat' (first | exact True.intro | refine ⟨rfl, ?_⟩)); all_goals fail) | fail) (by solve | repeat' constructor)
theorem nt_14 (hj : j < d.prices.length) (hm : j ≤ 1000) (hn : rows.length = j) (hw : w ≠ 0) (e1 : n.tmod w = x) (b1 : 0 ≤ (d.prices.getD j default).lo ∧ (d.prices.getD j default).lo ≤ 1000) (b2 : 0 ≤ x ∧ x ≤ 100000) {ops : Array Oper} (h : regF Try.f67 14 = some ops) :
    AWP Try.prog Try.f67.ntmps none (.region 14 ops true) (cutQ (fun s h => ∃ a2 c2, s = [(1, intA n), (2, u2), (4, u4), (5, u5), (6, u6), (7, .v (.pointer (some ⟨g7, 0, none⟩))), (8, intA w), (9, .v (.slice a2 (j + 1) c2)), (10, intA j)] ∧ h = [x1, x2, ntC g7 d, x3, x4, x5, .rw (.slice a2 (j + 1) c2) 3 1 (rows ++ [[intA ((d.prices.getD j default).lo + x)]])]))
      [(1, intA n), (2, u2), (4, u4), (5, u5), (6, u6), (7, .v (.pointer (some ⟨g7, 0, none⟩))), (8, intA w), (9, .v (.slice a j c)), (10, intA j)] [x1, x2, ntC g7 d, x3, x4, x5, .rw (.slice a j c) 3 1 rows] := by
  cases h
  refine awp_tree T0 [(0, 0), (1, 0), (2, 1), (3, 0), (4, 0), (5, 0), (6, 1), (7, 0), (8, 0), (9, 0), (10, 0), (11, 3), (12, 3), (13, 0)] (.op 0 0 (.op 1 0 (.op 2 1 (.op 3 0 (.op 4 0 (.op 5 0 (.op 6 1 (.op 7 0 (.op 8 0 (.op 9 0 (.op 10 0 (.op 11 3 (.op 12 3 (.op 13 0 .stop)))))))))))))) _ rfl (by kernel_rfl) (SubH.refl _) ?_
  refine awt_po rfl (wt_none rfl) (pv_move rfl rfl) rfl rfl ?_
  refine awt_po rfl (wt_none rfl) (pv_fa T0 rfl rfl rfl (by simp; rfl)) rfl rfl ?_
  refine awt_lo rfl (wt_none rfl) (lv_cl1 T0 rfl rfl rfl (by solve | repeat' constructor) (by first | rfl | assumption)) rfl rfl rfl ?_
  refine awt_po rfl (wt_none rfl) (pv_move rfl rfl) rfl rfl ?_
  refine awt_po rfl (wt_none rfl) (pv_ix_t T0 rfl rfl rfl rfl (by omega) (by first | exact Int.toNat_natCast _ | rfl)) rfl rfl ?_
  refine awt_po rfl (wt_none rfl) (pv_fa_elt T0 rfl rfl rfl (by simp; rfl)) rfl rfl ?_
  refine awt_lo rfl (wt_none rfl) (lv_elt_sc T0 rfl rfl rfl rfl) rfl rfl rfl ?_
  refine awt_po rfl (wt_none rfl) (pv_move rfl rfl) rfl rfl ?_
  refine awt_po rfl (wt_none rfl) (pv_move rfl rfl) rfl rfl ?_
  refine awt_po rfl (wt_none rfl) (pv_rem rfl rfl rfl (by omega) (by first | assumption | rfl)) rfl rfl ?_
  refine awt_po rfl (wt_none rfl) (pv_add rfl rfl rfl (by first | assumption | exact wr64 (by omega))) rfl rfl ?_
  refine awt_s (md := fun _ => True) rfl (wt_none rfl) (st_bsl T0 rfl rfl rfl rfl rfl (by solve | repeat' constructor) rfl rfl rfl rfl (by simp only [List.map_cons, List.map_nil, cellsA]; rfl) ?_)
  intro g78
  refine awe_s (md := fun _ => True) rfl (wt_none rfl) (st_app T0 rfl rfl rfl rfl rfl rfl rfl rfl rfl (by solve | repeat' constructor) (by solve | repeat' constructor) rfl rfl hn (by omega) (fun _ _ => trivial) ?_)
  intro a79 c79 p79
  refine awe_p rfl (wt_none rfl) (pv_assign rfl rfl) rfl rfl ?_
  refine awe_end ?_
  exact cut_n ⟨_, _, rfl, rfl⟩ (by first | ((repeat' (first | exact True.intro | refine ⟨rfl, ?_⟩)); all_goals fail) | fail) (by solve | repeat' constructor)
end
theorem divs {n w : Int} (hn : 0 ≤ n ∧ n ≤ 10000) (hw : 1 ≤ w) : n.tmod w = n % w ∧ IntKind.i64.wrap (n.tdiv w) = n / w ∧ 0 ≤ n % w ∧ n % w ≤ 10000 ∧ 0 ≤ n / w ∧ n / w ≤ 10000 := by
  have h1 := Int.ediv_nonneg hn.1 (show 0 ≤ w by omega)
  have h2 := Int.ediv_le_self w hn.1
  have h3 := Int.emod_nonneg n (show w ≠ 0 by omega)
  have h4 := Int.mul_nonneg (show 0 ≤ w by omega) h1
  have h5 := Int.mul_ediv_add_emod n w
  exact ⟨Int.tmod_eq_emod_of_nonneg hn.1, wrn (Int.tdiv_eq_ediv_of_nonneg hn.1) (by omega), h3, by omega, h1, by omega⟩
theorem nth_p (cp : Bool) (b : BankD) (n : Int) (hv : Valid b) (hn : 0 ≤ n ∧ n ≤ 10000) : PCall Try.prog 67 [bankA cp b, intA n] (fun r => r = truthA (nthD b n)) := by
  have hst := hv.st
  have hd := hv.days
  refine pcall_le (y := .ag [.t (.sl true 1 (nthD b n).prices.length (fun k => [intsT true ((nthD b n).prices.getD k [])])), .t (intsT true (nthD b n).rates)]) ?_ (.ag (.cons (.t (ofn_le fun k hk => ⟨rfl, one_le (ints_le _)⟩)) (.cons (.t (ints_le _)) .nil)))
  refine acall_of_awp T0 Try.func67 rfl rfl rfl ?_
  repeat (first | refine awp_seq ?_ | refine awp_region_lit rfl ?_)
  refine awl_hw (wt_none rfl) (st_box rfl rfl rfl (by simp only [cellsA]; rfl) rfl rfl ?_)
  intro g2
  skip
  refine awl_hw (wt_none rfl) (st_alloc T0 rfl rfl rfl rfl (by simp only [Value.cells, List.toList_toArray, List.map_cons, List.map_nil]; rfl) ?_)
  intro g4
  repeat (first | refine awp_seq ?_ | refine awp_region_lit rfl ?_ | refine awl_nil ?_)
  refine awl_hw (wt_none rfl) (st_alloc T0 rfl rfl rfl rfl (by simp only [Value.cells, List.toList_toArray, List.map_cons, List.map_nil]; rfl) ?_)
  intro g5
  repeat (first | refine awp_seq ?_ | refine awp_block ?_ | refine awp_region_lit rfl ?_ | (show AWL _ _ _ (⟨_, .assign _, _, _, _, _⟩ :: _) _ _ _; refine awl_pw (wt_none rfl) (pv_assign rfl rfl) rfl rfl ?_) | refine awl_nil ?_)
  refine awp_ghost (ghost_nilrow 27 1) ?_
  refine awp_ghost (ghost_nilrow 3 1) ?_
  refine awp_loop (fun m s h => ∃ (i : Nat) (q : (List (List Int) × List Int) × Int) (a : Option Addr) (c : Nat) (a' : Option Addr) (c' : Nat) (r1 r2 : List (List AV)), i ≤ b.days.length ∧ m = b.days.length - i ∧ dN (b.days.take i) n = q ∧ 0 ≤ q.2 ∧ q.2 ≤ 10000 ∧ r1 = q.1.1.map lstRow ∧ r2 = q.1.2.map intRow ∧
    s = [(1, intA q.2), (2, .v (.pointer (some ⟨g2, 0, none⟩))), (4, .v (.pointer (some ⟨g4, 0, none⟩))), (5, .v (.pointer (some ⟨g5, 0, none⟩))), (6, intA i)] ∧
    h = [.cl g2 25 [intA b.stocks, .t (daysT cp b.days), .t (loansT false b.loans)], .cl g4 29 [noneA, noneA], .cl g5 29 [.v (.slice a i c), .v (.slice a' i c')], .rw (.slice a i c) 27 1 r1, .rw (.slice a' i c') 3 1 r2]) ?_ ⟨0, _, _, _, _, _, _, _, Nat.zero_le _, rfl, rfl, hn.1, hn.2, rfl, rfl, rfl, rfl⟩ (by first | ((repeat' (first | exact True.intro | refine ⟨rfl, ?_⟩)); all_goals fail) | fail) (by solve | repeat' constructor)
  as_aux_lemma =>
    rintro m s h ⟨i, q, a, c, a', c', r1, r2, hi, rfl, hq, q0, q1, hr1, hr2, rfl, rfl⟩
    have hql := dN_len (b.days.take i) n
    rw [hq, List.length_take, Nat.min_eq_left hi] at hql
    have hn1 : r1.length = i := by rw [hr1]; simp; exact hql.1
    have hn2 : r2.length = i := by rw [hr2]; simp; exact hql.2
    by_cases hit : i < b.days.length
    case neg =>
      have ei : i = b.days.length := by omega
      have hqe : nthD b n = ⟨q.1.1, q.1.2⟩ := by unfold nthD; rw [← hq, ei, List.take_length]
      have hl1 : (nthD b n).prices.length = i := by rw [hqe]; exact hql.1
      have hl2 : (nthD b n).rates.length = i := by rw [hqe]; exact hql.2
      refine awp_ghost (ghost_freeze_cell (g := g5) (j := 0) (v := .slice a i c) (E := 27) (sz := 1) (rows := r1) (n := (nthD b n).prices.length) (fun q => [intsT true ((nthD b n).prices.getD q [])]) (by solve | repeat' constructor) (by solve | repeat' constructor) rfl rfl (by rw [hn1, hl1]) ?_) ?_
      · rw [hr1, hqe]
        exact lstRows_tree q.1.1
      refine awp_ghost (ghost_freeze_cell (g := g5) (j := 1) (v := .slice a' i c') (E := 3) (sz := 1) (rows := r2) (n := (nthD b n).rates.length) (fun q => [.sc (.int .i64 ((nthD b n).rates.getD q 0))]) (by solve | repeat' constructor) (by solve | repeat' constructor) rfl rfl (by rw [hn2, hl2]) ?_) ?_
      · rw [hr2, hqe]
        exact intRows_tree q.1.2
      repeat (first | refine awp_seq ?_ | refine awp_region_lit rfl ?_ | refine awp_exit ?_ | refine awp_ret ?_ | refine then_n ?_ | refine awp_cond_f rfl (by first | rfl | assumption | exact dF (by omega)) ?_ | (show AWL _ _ _ (⟨_, .move _, _, _, _, _⟩ :: _) _ _ _; refine awl_pw (wt_none rfl) (pv_move rfl rfl) rfl rfl ?_) | (show AWL _ _ _ (⟨_, .load _ _, _, _, _, _⟩ :: _) _ _ _; refine awl_lw (wt_none rfl) (lv_cl1 T0 rfl rfl rfl (by solve | repeat' constructor) (by first | rfl | assumption)) rfl rfl rfl ?_) | (show AWL _ _ _ (⟨_, .load _ _, _, _, _, _⟩ :: _) _ _ _; refine awl_lw (wt_none rfl) (lv_cla T0 rfl rfl rfl (by solve | repeat' constructor) rfl) rfl rfl rfl ?_) | (show AWL _ _ _ (⟨_, .fieldAddr _ _ _, _, _, _, _⟩ :: _) _ _ _; refine awl_pw (wt_none rfl) (pv_fa T0 rfl rfl rfl (by simp; rfl)) rfl rfl ?_) | (show AWL _ _ _ (⟨_, .binOp .lss _ _ _ _, _, _, _, _⟩ :: _) _ _ _; refine awl_pw (wt_none rfl) (pv_lss rfl rfl rfl) rfl rfl ?_) | (show AWL _ _ _ (⟨_, .call ⟨.builtin .len, _, _⟩, _, _, _, _⟩ :: _) _ _ _; refine awl_pw (wt_none rfl) (pv_len_t T0 rfl rfl rfl) rfl rfl ?_) | (show AWL _ _ _ (⟨_, .store _ _ _, _, _, _, _⟩ :: _) _ _ _; refine awl_hw (wt_none rfl) (st_store T0 rfl rfl rfl rfl rfl (by simp only [cellsA]; rfl) rfl rfl rfl (by solve | repeat' constructor) (by solve | repeat' constructor) trivial ?_)) | refine awl_nil ?_)
      refine body_p (.cons ⟨g4, _, _, _, _, rfl, rfl, (by solve | repeat' constructor), ?_, .inl rfl, rfl⟩ .nil) ?_
      · simp
      · rfl
    have hrt := hv.rate i hit
    have hpl := hv.plen i hit
    have hpr := hv.price i hit
    have hstep := dN_snoc (b.days.take i) (b.days.getD i default) n
    rw [← take_succ_getD default hit, hq] at hstep
    have hD := divs ⟨q0, q1⟩ (w := wid (b.days.getD i default).rate) (by unfold wid; omega)
    obtain ⟨d1, d2, d3, d4, d5, d6⟩ := hD
    have hwe : (b.days.getD i default).rate.hi - (b.days.getD i default).rate.lo + 1 = wid (b.days.getD i default).rate := rfl
    have hw1 := wid_pos hrt.2.1
    as_aux_lemma =>
      repeat (first | refine awp_seq ?_ | refine awp_block ?_ | refine awp_region_lit rfl ?_ | refine awp_skip ?_ | refine then_n ?_ | refine awp_cond_t rfl (by first | rfl | assumption | exact dT (by omega)) ?_ | (show AWL _ _ _ (⟨_, .move _, _, _, _, _⟩ :: _) _ _ _; refine awl_pw (wt_none rfl) (pv_move rfl rfl) rfl rfl ?_) | (show AWL _ _ _ (⟨_, .load _ _, _, _, _, _⟩ :: _) _ _ _; refine awl_lw (wt_none rfl) (lv_cl1 T0 rfl rfl rfl (by solve | repeat' constructor) (by first | rfl | assumption)) rfl rfl rfl ?_) | (show AWL _ _ _ (⟨_, .load _ _, _, _, _, _⟩ :: _) _ _ _; refine awl_lw (wt_none rfl) (lv_elt_ag T0 rfl rfl rfl rfl (by solve | repeat' constructor)) rfl rfl rfl ?_) | (show AWL _ _ _ (⟨_, .fieldAddr _ _ _, _, _, _, _⟩ :: _) _ _ _; refine awl_pw (wt_none rfl) (pv_fa T0 rfl rfl rfl (by simp; rfl)) rfl rfl ?_) | (show AWL _ _ _ (⟨_, .indexAddr _ _ _, _, _, _, _⟩ :: _) _ _ _; refine awl_pw (wt_none rfl) (pv_ix_t T0 rfl rfl rfl rfl (by omega) (by first | exact Int.toNat_natCast _ | rfl)) rfl rfl ?_) | (show AWL _ _ _ (⟨_, .binOp .lss _ _ _ _, _, _, _, _⟩ :: _) _ _ _; refine awl_pw (wt_none rfl) (pv_lss rfl rfl rfl) rfl rfl ?_) | (show AWL _ _ _ (⟨_, .call ⟨.builtin .len, _, _⟩, _, _, _, _⟩ :: _) _ _ _; refine awl_pw (wt_none rfl) (pv_len_t T0 rfl rfl rfl) rfl rfl ?_) | refine awl_nil ?_)
      refine awl_hw (wt_none rfl) (st_alloc T0 rfl rfl rfl rfl (by simp only [Value.cells, List.toList_toArray, List.map_cons, List.map_nil]; rfl) ?_)
      intro g7
      generalize b.days.getD i default = d at *
      repeat (first | refine awp_seq ?_ | refine awp_region_lit rfl ?_ | (show AWL _ _ _ (⟨_, .assign _, _, _, _, _⟩ :: _) _ _ _; refine awl_pw (wt_none rfl) (pv_assign rfl rfl) rfl rfl ?_) | (show AWL _ _ _ (⟨_, .load _ _, _, _, _, _⟩ :: _) _ _ _; refine awl_lw (wt_none rfl) (lv_cl1 T0 rfl rfl rfl (by solve | repeat' constructor) (by first | rfl | assumption)) rfl rfl rfl ?_) | (show AWL _ _ _ (⟨_, .fieldAddr _ _ _, _, _, _, _⟩ :: _) _ _ _; refine awl_pw (wt_none rfl) (pv_fa T0 rfl rfl rfl (by simp; rfl)) rfl rfl ?_) | (show AWL _ _ _ (⟨_, .binOp .add _ _ _ _, _, _, _, _⟩ :: _) _ _ _; refine awl_pw (wt_none rfl) (pv_add rfl rfl rfl (by first | assumption | exact wr64 (by omega))) rfl rfl ?_) | (show AWL _ _ _ (⟨_, .binOp .sub _ _ _ _, _, _, _, _⟩ :: _) _ _ _; refine awl_pw (wt_none rfl) (pv_sub rfl rfl rfl (by first | assumption | exact wr64 (by omega))) rfl rfl ?_) | (show AWL _ _ _ (⟨_, .store _ _ _, _, _, _, _⟩ :: _) _ _ _; refine awl_hw (wt_none rfl) (st_store T0 rfl rfl rfl rfl rfl (by simp only [cellsA]; rfl) rfl rfl rfl (by solve | repeat' constructor) (by solve | repeat' constructor) trivial ?_)) | refine awl_nil ?_)
      rw [hwe]
      refine awp_cut _ (awp_weak (by first | ((repeat' (first | exact True.intro | refine ⟨rfl, ?_⟩)); all_goals fail) | fail) (by solve | repeat' constructor) (nt_7 (d := d) (x1 := .cl g2 25 [intA b.stocks, .t (daysT cp b.days), .t (loansT false b.loans)]) (x2 := .cl g4 29 [noneA, noneA]) (x3 := .rw (.slice a i c) 27 1 r1) (by omega) hn2 (by omega) d1 (by omega) (by omega) rfl)) ?_
      as_aux_lemma =>
        rintro s h ⟨a2, c2, rfl, rfl⟩
        repeat (first | refine awp_seq ?_ | refine awp_block ?_ | refine awp_region_lit rfl ?_ | (show AWL _ _ _ (⟨_, .move _, _, _, _, _⟩ :: _) _ _ _; refine awl_pw (wt_none rfl) (pv_move rfl rfl) rfl rfl ?_) | (show AWL _ _ _ (⟨_, .assign _, _, _, _, _⟩ :: _) _ _ _; refine awl_pw (wt_none rfl) (pv_assign rfl rfl) rfl rfl ?_) | (show AWL _ _ _ (⟨_, .binOp .quo _ _ _ _, _, _, _, _⟩ :: _) _ _ _; refine awl_pw (wt_none rfl) (pv_quo rfl rfl rfl (by omega) (by first | assumption | exact wr64 (by omega))) rfl rfl ?_) | refine awl_nil ?_)
        generalize hy : q.2 / wid d.rate = y at *
        refine awp_ghost (ghost_nilrow 3 1) ?_
        refine awp_loop (fun m s h => ∃ (j : Nat) (p : List Int × Int) (e : Option Addr) (f : Nat) (w : AV) (r3 : List (List AV)), j ≤ d.prices.length ∧ m = d.prices.length - j ∧ pN (d.prices.take j) y = p ∧ 0 ≤ p.2 ∧ p.2 ≤ 10000 ∧ r3 = p.1.map intRow ∧
          s = [(1, intA p.2), (2, .v (.pointer (some ⟨g2, 0, none⟩))), (4, .v (.pointer (some ⟨g4, 0, none⟩))), (5, .v (.pointer (some ⟨g5, 0, none⟩))), (6, intA i), (7, .v (.pointer (some ⟨g7, 0, none⟩))), (9, .v (.slice e j f)), (10, intA j)] ∧
          h = [.cl g2 25 [intA b.stocks, .t (daysT cp b.days), .t (loansT false b.loans)], .cl g4 29 [noneA, noneA], ntC g7 d, .cl g5 29 [.v (.slice a i c), .v (.slice a2 (i + 1) c2)], .rw (.slice a i c) 27 1 r1, .rw (.slice a2 (i + 1) c2) 3 1 (r2 ++ [[intA (d.rate.lo + q.2 % wid d.rate)]]), .rw (.slice e j f) 3 1 r3]) ?_ ⟨0, _, _, _, intA 0, _, Nat.zero_le _, rfl, rfl, d5, d6, rfl, rfl, rfl⟩ (by first | ((repeat' (first | exact True.intro | refine ⟨rfl, ?_⟩)); all_goals fail) | fail) (by solve | repeat' constructor)
        as_aux_lemma =>
          rintro m s h ⟨j, p, e, f, w, r3, hj, rfl, hp, p0, p1, hr3, rfl, rfl⟩
          have hpl2 := pN_len (d.prices.take j) y
          rw [hp, List.length_take, Nat.min_eq_left hj] at hpl2
          have hn3 : r3.length = j := by rw [hr3]; simp; exact hpl2
          by_cases hjt : j < d.prices.length
          · have hp2 := hpr j hjt
            have hps := pN_snoc (d.prices.take j) (d.prices.getD j default) y
            rw [← take_succ_getD default hjt, hp] at hps
            have hww : (d.prices.getD j default).hi - (d.prices.getD j default).lo + 1 = wid (d.prices.getD j default) := rfl
            have hw2 := wid_pos hp2.2.1
            obtain ⟨f1, f2, f3, f4, f5, f6⟩ := divs ⟨p0, p1⟩ hw2
            repeat (first | refine awp_seq ?_ | refine awp_block ?_ | refine awp_region_lit rfl ?_ | refine awp_skip ?_ | refine then_n ?_ | refine awp_cond_t rfl (by first | rfl | assumption | exact dT (by omega)) ?_ | (show AWL _ _ _ (⟨_, .move _, _, _, _, _⟩ :: _) _ _ _; refine awl_pw (wt_none rfl) (pv_move rfl rfl) rfl rfl ?_) | (show AWL _ _ _ (⟨_, .load _ _, _, _, _, _⟩ :: _) _ _ _; refine awl_lw (wt_none rfl) (lv_cl1 T0 rfl rfl rfl (by solve | repeat' constructor) (by first | rfl | assumption)) rfl rfl rfl ?_) | (show AWL _ _ _ (⟨_, .fieldAddr _ _ _, _, _, _, _⟩ :: _) _ _ _; refine awl_pw (wt_none rfl) (pv_fa T0 rfl rfl rfl (by simp; rfl)) rfl rfl ?_) | (show AWL _ _ _ (⟨_, .binOp .lss _ _ _ _, _, _, _, _⟩ :: _) _ _ _; refine awl_pw (wt_none rfl) (pv_lss rfl rfl rfl) rfl rfl ?_) | (show AWL _ _ _ (⟨_, .call ⟨.builtin .len, _, _⟩, _, _, _, _⟩ :: _) _ _ _; refine awl_pw (wt_none rfl) (pv_len_t T0 rfl rfl rfl) rfl rfl ?_) | refine awl_nil ?_)
            refine awp_cut _ (awp_weak (by first | ((repeat' (first | exact True.intro | refine ⟨rfl, ?_⟩)); all_goals fail) | fail) (by solve | repeat' constructor) (nt_13 (d := d) (n := p.2) (x1 := .cl g2 25 [intA b.stocks, .t (daysT cp b.days), .t (loansT false b.loans)]) (x2 := .cl g4 29 [noneA, noneA]) (x3 := .cl g5 29 [.v (.slice a i c), .v (.slice a2 (i + 1) c2)]) (x4 := .rw (.slice a i c) 27 1 r1) (x5 := .rw (.slice a2 (i + 1) c2) 3 1 (r2 ++ [[intA (d.rate.lo + q.2 % wid d.rate)]])) hjt (by omega) rfl)) ?_
            rintro s h ⟨rfl, rfl⟩
            rw [hww]
            repeat (first | refine awp_seq ?_)
            refine awp_cut _ (awp_weak (by first | ((repeat' (first | exact True.intro | refine ⟨rfl, ?_⟩)); all_goals fail) | fail) (by solve | repeat' constructor) (nt_14 (d := d) (n := p.2) (w := wid (d.prices.getD j default)) (x1 := .cl g2 25 [intA b.stocks, .t (daysT cp b.days), .t (loansT false b.loans)]) (x2 := .cl g4 29 [noneA, noneA]) (x3 := .cl g5 29 [.v (.slice a i c), .v (.slice a2 (i + 1) c2)]) (x4 := .rw (.slice a i c) 27 1 r1) (x5 := .rw (.slice a2 (i + 1) c2) 3 1 (r2 ++ [[intA (d.rate.lo + q.2 % wid d.rate)]])) hjt (by omega) hn3 (by omega) f1 (by omega) (by omega) rfl)) ?_
            rintro s h ⟨a3, c3, rfl, rfl⟩
            repeat (first | refine awp_region_lit rfl ?_ | (show AWL _ _ _ (⟨_, .move _, _, _, _, _⟩ :: _) _ _ _; refine awl_pw (wt_none rfl) (pv_move rfl rfl) rfl rfl ?_) | (show AWL _ _ _ (⟨_, .assign _, _, _, _, _⟩ :: _) _ _ _; refine awl_pw (wt_none rfl) (pv_assign rfl rfl) rfl rfl ?_) | (show AWL _ _ _ (⟨_, .binOp .add _ _ _ _, _, _, _, _⟩ :: _) _ _ _; refine awl_pw (wt_none rfl) (pv_add rfl rfl rfl (by first | assumption | exact wr64 (by omega))) rfl rfl ?_) | (show AWL _ _ _ (⟨_, .binOp .quo _ _ _ _, _, _, _, _⟩ :: _) _ _ _; refine awl_pw (wt_none rfl) (pv_quo rfl rfl rfl (by omega) (by first | assumption | exact wr64 (by omega))) rfl rfl ?_) | refine awl_nil ?_)
            refine rnd_n _ _ _ ?_ ⟨j + 1, _, _, _, intA 0, _, hjt, rfl, hps, f5, f6, ?_, rfl, rfl⟩ (by first | ((repeat' (first | exact True.intro | refine ⟨rfl, ?_⟩)); all_goals fail) | fail) (by solve | repeat' constructor)
            · omega
            · rw [hr3, List.map_append]; rfl
          have ej : j = d.prices.length := by omega
          rw [ej, List.take_length] at hp
          refine awp_ghost (ghost_freeze (E := 3) (sz := 1) (n := p.1.length) (rows := r3) (d := 9) (fun q => [.sc (.int .i64 (p.1.getD q 0))]) (by solve | repeat' constructor) rfl (by rw [hn3, hpl2]) (by rw [hr3]; exact intRows_tree _)) ?_
          rw [hp] at hstep
          repeat (first | refine awp_seq ?_ | refine awp_region_lit rfl ?_ | refine awp_exit ?_ | refine then_n ?_ | refine awp_cond_f rfl (by first | rfl | assumption | exact dF (by omega)) ?_ | (show AWL _ _ _ (⟨_, .move _, _, _, _, _⟩ :: _) _ _ _; refine awl_pw (wt_none rfl) (pv_move rfl rfl) rfl rfl ?_) | (show AWL _ _ _ (⟨_, .load _ _, _, _, _, _⟩ :: _) _ _ _; refine awl_lw (wt_none rfl) (lv_cl1 T0 rfl rfl rfl (by solve | repeat' constructor) (by first | rfl | assumption)) rfl rfl rfl ?_) | (show AWL _ _ _ (⟨_, .fieldAddr _ _ _, _, _, _, _⟩ :: _) _ _ _; refine awl_pw (wt_none rfl) (pv_fa T0 rfl rfl rfl (by simp; rfl)) rfl rfl ?_) | (show AWL _ _ _ (⟨_, .binOp .lss _ _ _ _, _, _, _, _⟩ :: _) _ _ _; refine awl_pw (wt_none rfl) (pv_lss rfl rfl rfl) rfl rfl ?_) | (show AWL _ _ _ (⟨_, .call ⟨.builtin .len, _, _⟩, _, _, _, _⟩ :: _) _ _ _; refine awl_pw (wt_none rfl) (pv_len_t T0 rfl rfl rfl) rfl rfl ?_) | refine awl_nil ?_)
          refine awl_hw (wt_none rfl) (st_bsl T0 rfl rfl rfl rfl rfl (by solve | repeat' constructor) rfl rfl rfl rfl (by simp only [List.map_cons, List.map_nil, cellsA]; rfl) ?_)
          intro g86
          skip
          refine awl_hw (wt_none rfl) (st_app T0 rfl rfl rfl rfl rfl rfl rfl rfl rfl (by solve | repeat' constructor) (by solve | repeat' constructor) rfl rfl hn1 (by omega) (fun _ _ => trivial) ?_)
          intro a87 c87 p87
          repeat (first | refine awp_region_lit rfl ?_ | (show AWL _ _ _ (⟨_, .move _, _, _, _, _⟩ :: _) _ _ _; refine awl_pw (wt_none rfl) (pv_move rfl rfl) rfl rfl ?_) | (show AWL _ _ _ (⟨_, .assign _, _, _, _, _⟩ :: _) _ _ _; refine awl_pw (wt_none rfl) (pv_assign rfl rfl) rfl rfl ?_) | (show AWL _ _ _ (⟨_, .fieldAddr _ _ _, _, _, _, _⟩ :: _) _ _ _; refine awl_pw (wt_none rfl) (pv_fa T0 rfl rfl rfl (by simp; rfl)) rfl rfl ?_) | (show AWL _ _ _ (⟨_, .binOp .add _ _ _ _, _, _, _, _⟩ :: _) _ _ _; refine awl_pw (wt_none rfl) (pv_add rfl rfl rfl (by first | assumption | exact wr64 (by omega))) rfl rfl ?_) | (show AWL _ _ _ (⟨_, .store _ _ _, _, _, _, _⟩ :: _) _ _ _; refine awl_hw (wt_none rfl) (st_store T0 rfl rfl rfl rfl rfl (by simp only [cellsA]; rfl) rfl rfl rfl (by solve | repeat' constructor) (by solve | repeat' constructor) trivial ?_)) | refine awl_nil ?_)
          refine rnd_n _ _ _ ?_ ⟨i + 1, _, _, _, _, _, _, _, hit, rfl, hstep, p0, p1, ?_, ?_, rfl, rfl⟩ (by first | ((repeat' (first | exact True.intro | refine ⟨rfl, ?_⟩)); all_goals fail) | fail) (by solve | repeat' constructor)
          · omega
          · rw [hr1, List.map_append]; rfl
          · rw [hr2, List.map_append]; rfl
end Go.Proofs.Ytfiacjdkdjkiiaa
