/- Total of the reference: its drawn regions. -/
import Derived.Test.YtfiacjdkdjkiiaaBn0
import Derived.Test.YtfiacjdkdjkiiaaFr
import Derived.Test.YtfiacjdkdjkiiaaGTx
namespace Go.Proofs.Ytfiacjdkdjkiiaa
open Go Go.RowKit Go.Tl
set_option linter.unusedVariables false
set_option linter.unusedSimpArgs false
set_option maxRecDepth 100000
set_option maxHeartbeats 4000000
attribute [local irreducible] AWP AWL AOp PV LV AWT AWE
abbrev tnS (g1 g5 D n i : Nat) (u3 : AV) : Slots := [(1, .v (.pointer (some ⟨g1, 0, none⟩))), (3, u3), (4, intA n), (5, .v (.slice (some ⟨g5, 0, none⟩) D D)), (6, intA i)]
theorem tn_9 {b : BankD} {i n g1 g5 D : Nat} {u3 : AV} {rows : List (List AV)} (hv : Valid b) (hi : i < b.loans.length) (hn : 0 ≤ (n : Int) ∧ (n : Int) ≤ 10000) {ops : Array Oper} (h : regF Try.f31 9 = some ops) :
    AWP Try.prog Try.f31.ntmps none (.region 9 ops true) (cutQ (fun s h => s = (8, .t (intsT true (callsR b (nthD b n) i b.days.length))) :: tnS g1 g5 D n i u3 ∧ h = [bnB g1 b, .rw (.slice (some ⟨g5, 0, none⟩) D D) 3 1 rows]))
      (tnS g1 g5 D n i u3) [bnB g1 b, .rw (.slice (some ⟨g5, 0, none⟩) D D) 3 1 rows] := by
  cases h
  refine awp_tree T0 [(0, 1), (1, 1), (2, 0), (4, 0), (3, 2), (5, 3), (6, 0), (7, 0), (8, 0), (9, 0), (10, 0), (11, 0), (12, 0)] (.op 0 1 (.op 1 1 (.op 2 0 (.op 4 0 (.op 3 2 (.op 5 3 (.op 6 0 (.op 7 0 (.op 8 0 (.op 9 0 (.op 10 0 (.op 11 0 (.op 12 0 .stop))))))))))))) _ rfl (by kernel_rfl) (SubH.refl _) ?_
  refine awt_lo rfl (wt_none rfl) (lv_cla T0 rfl rfl rfl (by solve | repeat' constructor) rfl) rfl rfl rfl ?_
  refine awt_lo rfl (wt_none rfl) (lv_cla T0 rfl rfl rfl (by solve | repeat' constructor) rfl) rfl rfl rfl ?_
  refine awt_po rfl (wt_none rfl) (pv_move rfl rfl) rfl rfl ?_
  refine awt_po rfl (wt_none rfl) (pv_move rfl rfl) rfl rfl ?_
  refine awt_h (hm := []) rfl (wt_none rfl) (by solve | repeat' constructor) rfl (st_call T0 (nth_p false b n hv hn) rfl rfl rfl rfl (by first | exact callee_lit | exact callee_v | exact callee_fn) (by solve | repeat' constructor) rfl rfl ?_)
  rintro _ rfl
  refine awt_s (md := fun _ => True) rfl (wt_none rfl) (st_call T0 (run_p b (nthD b n) i hv (nth_truth hv hn.1) hi) rfl rfl rfl rfl (by first | exact callee_lit | exact callee_v | exact callee_fn) (by solve | repeat' constructor) rfl rfl ?_)
  rintro _ rfl
  refine awe_p rfl (wt_none rfl) (pv_move rfl rfl) rfl rfl ?_
  refine awe_p rfl (wt_none rfl) (pv_extract rfl rfl rfl) rfl rfl ?_
  refine awe_p rfl (wt_none rfl) (pv_extract rfl rfl rfl) rfl rfl ?_
  refine awe_p rfl (wt_none rfl) (pv_extract rfl rfl rfl) rfl rfl ?_
  refine awe_p rfl (wt_none rfl) (pv_assign rfl rfl) rfl rfl ?_
  refine awe_p rfl (wt_none rfl) (pv_assign rfl rfl) rfl rfl ?_
  refine awe_p rfl (wt_none rfl) (pv_assign rfl rfl) rfl rfl ?_
  refine awe_end ?_
  exact cut_n ⟨rfl, rfl⟩ (by first | ((repeat' (first | exact True.intro | refine ⟨rfl, ?_⟩)); all_goals fail) | fail) (by solve | repeat' constructor)
theorem tn_13 {g1 g5 D n i j : Nat} {u3 : AV} {e : Ent} {cs : List Int} {f f' : Nat → Int} (hj : j < cs.length) (hjD : j < D) (hD : D ≤ 1000) (b1 : 0 ≤ f j ∧ f j ≤ 1000000000000) (b2 : 0 ≤ cs.getD j 0 ∧ cs.getD j 0 ≤ 1000000000000) (hf' : ∀ k, k < D → f' k = if k = j then f j + cs.getD j 0 else f k) {ops : Array Oper} (h : regF Try.f31 13 = some ops) :
    AWP Try.prog Try.f31.ntmps none (.region 13 ops true) (cutQ (fun s h => s = [(8, .t (intsT true cs)), (10, intA j)] ++ tnS g1 g5 D n i u3 ∧ h = [e, .rw (.slice (some ⟨g5, 0, none⟩) D D) 3 1 (fRows f' D)]))
      ([(8, .t (intsT true cs)), (10, intA j)] ++ tnS g1 g5 D n i u3) [e, .rw (.slice (some ⟨g5, 0, none⟩) D D) 3 1 (fRows f D)] := by
  cases h
  simp only [List.cons_append, List.nil_append]
  have r1 : ((fRows f D).getD j [])[0]? = some (intA (f j)) := fRows_at hjD
  have r2 := fRows_len f D
  refine awp_tree T0 [(0, 0), (1, 0), (2, 0), (3, 1), (4, 0), (5, 0), (6, 0), (7, 1), (8, 0), (9, 0), (10, 3)] (.op 0 0 (.op 1 0 (.op 2 0 (.op 3 1 (.op 4 0 (.op 5 0 (.op 6 0 (.op 7 1 (.op 8 0 (.op 9 0 (.op 10 3 .stop))))))))))) [.rw _ _ _ _] rfl (by kernel_rfl) (by solve | repeat' constructor) ?_
  refine awt_po rfl (wt_none rfl) (pv_move rfl rfl) rfl rfl ?_
  refine awt_po rfl (wt_none rfl) (pv_move rfl rfl) rfl rfl ?_
  refine awt_po rfl (wt_none rfl) (pv_ix_own T0 rfl rfl rfl rfl (by omega) (by first | exact Int.toNat_natCast _ | rfl)) rfl rfl ?_
  refine awt_lo rfl (wt_none rfl) (lv_rp T0 rfl rfl rfl (by solve | repeat' constructor) (by first | omega | (simp; omega)) (by omega) (by first | assumption | rfl)) rfl rfl rfl ?_
  refine awt_po rfl (wt_none rfl) (pv_move rfl rfl) rfl rfl ?_
  refine awt_po rfl (wt_none rfl) (pv_move rfl rfl) rfl rfl ?_
  refine awt_po rfl (wt_none rfl) (pv_ix_t T0 rfl rfl rfl rfl (by omega) (by first | exact Int.toNat_natCast _ | rfl)) rfl rfl ?_
  refine awt_lo rfl (wt_none rfl) (lv_elt_sc T0 rfl rfl rfl rfl) rfl rfl rfl ?_
  refine awt_po rfl (wt_none rfl) (pv_add rfl rfl rfl (by first | assumption | exact wr64 (by omega))) rfl rfl ?_
  refine awt_po rfl (wt_none rfl) (pv_ix_own T0 rfl rfl rfl rfl (by omega) (by first | exact Int.toNat_natCast _ | rfl)) rfl rfl ?_
  refine awt_s (md := fun _ => True) rfl (wt_none rfl) (aop_store_rp T0 rfl rfl rfl rfl rfl rfl rfl rfl (by solve | repeat' constructor) (by first | omega | (simp; omega)) (by omega) rfl trivial ?_)
  refine awe_end ?_
  simp only [cellsA]
  rw [fRows_set hjD hf']
  exact cut_n ⟨rfl, rfl⟩ (by first | ((repeat' (first | exact True.intro | refine ⟨rfl, ?_⟩)); all_goals fail) | fail) (by solve | repeat' constructor)
end Go.Proofs.Ytfiacjdkdjkiiaa
