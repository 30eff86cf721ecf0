/- The truth at the ends of all ranges: its drawn region. -/
import Derived.Test.YtfiacjdkdjkiiaaTy
import Derived.Test.YtfiacjdkdjkiiaaGCo
namespace Go.Proofs.Ytfiacjdkdjkiiaa
open Go Go.RowKit Go.Tl
set_option linter.unusedVariables false
set_option linter.unusedSimpArgs false
set_option maxRecDepth 100000
set_option maxHeartbeats 2000000
attribute [local irreducible] AWP AWL AOp PV LV AWT AWE
abbrev enS (g4 g8 g9 n i : Nat) (hi last : Bool) : Slots := [(1, boolA hi), (2, boolA last), (3, intA n), (4, .v (.pointer (some ⟨g4, 0, none⟩))), (8, .v (.pointer (some ⟨g8, 0, none⟩))), (9, .v (.pointer (some ⟨g9, 0, none⟩))), (10, intA i)]
abbrev enH (cp : Bool) (b : BankD) (g4 g8 g9 i : Nat) (a : Option Addr) (c : Nat) (a' : Option Addr) (c' : Nat) (r1 r2 : List (List AV)) : List Ent :=
  [.cl g4 25 [intA b.stocks, .t (daysT cp b.days), .t (loansT false b.loans)], .cl g8 29 [noneA, noneA], .cl g9 29 [.v (.slice a i c), .v (.slice a' i c')], .rw (.slice a i c) 27 1 r1, .rw (.slice a' i c') 3 1 r2]
theorem en_16 {cp : Bool} {b : BankD} {g4 g8 g9 n i : Nat} {hi last : Bool} {a a' : Option Addr} {c c' : Nat} {r1 r2 : List (List AV)} {M : List Int} {x : Int} (hi' : i ≤ 1000) (hn1 : r1.length = i) (hn2 : r2.length = i) {ops : Array Oper} (h : regF Try.f43 16 = some ops) :
    AWP Try.prog Try.f43.ntmps none (.region 16 ops true) (cutQ (fun s h => ∃ b1 d1 b2 d2, s = enS g4 g8 g9 n i hi last ∧ h = enH cp b g4 g8 g9 (i + 1) b1 d1 b2 d2 (r1 ++ [lstRow M]) (r2 ++ [intRow x])))
      (enS g4 g8 g9 n i hi last ++ [(11, intA x), (12, .t (intsT true M))]) (enH cp b g4 g8 g9 i a c a' c' r1 r2) := by
  cases h
  simp only [List.cons_append, List.nil_append]
  refine awp_tree T0 [(0, 0), (1, 1), (2, 0), (5, 0), (6, 1), (7, 0), (3, 2), (4, 2), (10, 0), (8, 2), (9, 3), (11, 3), (12, 0), (13, 3)] (.op 0 0 (.op 1 1 (.op 2 0 (.op 5 0 (.op 6 1 (.op 7 0 (.fork 3 (.fork 4 (.op 10 0 (.op 8 2 (.op 9 3 (.op 11 3 (.op 12 0 (.op 13 3 .stop)))))) 8 (.op 4 2 (.op 10 0 (.op 9 3 (.op 11 3 (.op 12 0 (.op 13 3 .stop))))))) 8 (.op 3 2 (.op 4 2 (.op 10 0 (.op 9 3 (.op 11 3 (.op 12 0 (.op 13 3 .stop)))))))))))))) [.cl g9 _ _] rfl (by kernel_rfl) (by solve | repeat' constructor) ?_
  refine awt_po rfl (wt_none rfl) (pv_fa T0 rfl rfl rfl (by simp; rfl)) rfl rfl ?_
  refine awt_lo rfl (wt_none rfl) (lv_cl1 T0 rfl rfl rfl (by solve | repeat' constructor) (by first | rfl | assumption)) rfl rfl rfl ?_
  refine awt_po rfl (wt_none rfl) (pv_move rfl rfl) rfl rfl ?_
  refine awt_po rfl (wt_none rfl) (pv_fa T0 rfl rfl rfl (by simp; rfl)) rfl rfl ?_
  refine awt_lo rfl (wt_none rfl) (lv_cl1 T0 rfl rfl rfl (by solve | repeat' constructor) (by first | rfl | assumption)) rfl rfl rfl ?_
  refine awt_po rfl (wt_none rfl) (pv_move rfl rfl) rfl rfl ?_
  refine awt_fork ?_ ?_
  · skip
    refine awt_h (hm := []) rfl (wt_none rfl) (by solve | repeat' constructor) rfl (st_bsl T0 rfl rfl rfl rfl rfl (by solve | repeat' constructor) rfl rfl rfl rfl (by simp only [List.map_cons, List.map_nil, cellsA]; rfl) ?_)
    intro g84
    refine awt_fork ?_ ?_
    · skip
      refine awt_h (hm := _) rfl (wt_none rfl) ?sub rfl (st_app_o T0 rfl rfl rfl rfl rfl rfl rfl rfl rfl (by solve | repeat' constructor) (by solve | repeat' constructor) rfl rfl hn1 (by omega) ?_)
      case sub => exact (by solve | repeat' constructor)
      intro a85 c85 p85
      refine awt_po rfl (wt_none rfl) (pv_fa T0 rfl rfl rfl (by simp; rfl)) rfl rfl ?_
      refine awt_h (hm := []) rfl (wt_none rfl) (by solve | repeat' constructor) rfl (st_bsl T0 rfl rfl rfl rfl rfl (by solve | repeat' constructor) rfl rfl rfl rfl (by simp only [List.map_cons, List.map_nil, cellsA]; rfl) ?_)
      intro g89
      refine awt_s (md := fun _ => True) rfl (wt_none rfl) (st_app T0 rfl rfl rfl rfl rfl rfl rfl rfl rfl (by solve | repeat' constructor) (by solve | repeat' constructor) rfl rfl hn2 (by omega) (fun _ _ => trivial) ?_)
      intro a90 c90 p90
      refine awe_s (md := fun _ => True) rfl (wt_none rfl) (st_store T0 rfl rfl rfl rfl rfl (by simp only [cellsA]; rfl) rfl rfl rfl (by solve | repeat' constructor) (by solve | repeat' constructor) trivial ?_)
      first
        | refine awe_p rfl (wt_none rfl) (pv_fa T0 rfl rfl rfl (by simp; rfl)) rfl rfl ?_
        | refine awe_p rfl (wt_none rfl) (pv_fa_elt T0 rfl rfl rfl (by simp; rfl)) rfl rfl ?_
        | refine awe_p rfl (wt_none rfl) (pv_fa_rp T0 rfl rfl rfl (by simp; rfl)) rfl rfl ?_
      refine awe_s (md := fun _ => True) rfl (wt_none rfl) (st_store T0 rfl rfl rfl rfl rfl (by simp only [cellsA]; rfl) rfl rfl rfl (by solve | repeat' constructor) (by solve | repeat' constructor) trivial ?_)
      refine awe_end ?_
      exact cut_n ⟨_, _, _, _, rfl, rfl⟩ (by first | ((repeat' (first | exact True.intro | refine ⟨rfl, ?_⟩)); all_goals fail) | fail) (by solve | repeat' constructor)
    · skip
      refine awt_h (hm := []) rfl (wt_none rfl) (by solve | repeat' constructor) rfl (st_bsl T0 rfl rfl rfl rfl rfl (by solve | repeat' constructor) rfl rfl rfl rfl (by simp only [List.map_cons, List.map_nil, cellsA]; rfl) ?_)
      intro g89
      refine awt_h (hm := _) rfl (wt_none rfl) ?sub rfl (st_app_o T0 rfl rfl rfl rfl rfl rfl rfl rfl rfl (by solve | repeat' constructor) (by solve | repeat' constructor) rfl rfl hn1 (by omega) ?_)
      case sub => exact (by solve | repeat' constructor)
      intro a85 c85 p85
      refine awt_po rfl (wt_none rfl) (pv_fa T0 rfl rfl rfl (by simp; rfl)) rfl rfl ?_
      refine awt_s (md := fun _ => True) rfl (wt_none rfl) (st_app T0 rfl rfl rfl rfl rfl rfl rfl rfl rfl (by solve | repeat' constructor) (by solve | repeat' constructor) rfl rfl hn2 (by omega) (fun _ _ => trivial) ?_)
      intro a90 c90 p90
      refine awe_s (md := fun _ => True) rfl (wt_none rfl) (st_store T0 rfl rfl rfl rfl rfl (by simp only [cellsA]; rfl) rfl rfl rfl (by solve | repeat' constructor) (by solve | repeat' constructor) trivial ?_)
      first
        | refine awe_p rfl (wt_none rfl) (pv_fa T0 rfl rfl rfl (by simp; rfl)) rfl rfl ?_
        | refine awe_p rfl (wt_none rfl) (pv_fa_elt T0 rfl rfl rfl (by simp; rfl)) rfl rfl ?_
        | refine awe_p rfl (wt_none rfl) (pv_fa_rp T0 rfl rfl rfl (by simp; rfl)) rfl rfl ?_
      refine awe_s (md := fun _ => True) rfl (wt_none rfl) (st_store T0 rfl rfl rfl rfl rfl (by simp only [cellsA]; rfl) rfl rfl rfl (by solve | repeat' constructor) (by solve | repeat' constructor) trivial ?_)
      refine awe_end ?_
      exact cut_n ⟨_, _, _, _, rfl, rfl⟩ (by first | ((repeat' (first | exact True.intro | refine ⟨rfl, ?_⟩)); all_goals fail) | fail) (by solve | repeat' constructor)
  · skip
    refine awt_h (hm := []) rfl (wt_none rfl) (by solve | repeat' constructor) rfl (st_bsl T0 rfl rfl rfl rfl rfl (by solve | repeat' constructor) rfl rfl rfl rfl (by simp only [List.map_cons, List.map_nil, cellsA]; rfl) ?_)
    intro g89
    refine awt_h (hm := []) rfl (wt_none rfl) (by solve | repeat' constructor) rfl (st_bsl T0 rfl rfl rfl rfl rfl (by solve | repeat' constructor) rfl rfl rfl rfl (by simp only [List.map_cons, List.map_nil, cellsA]; rfl) ?_)
    intro g84
    refine awt_h (hm := _) rfl (wt_none rfl) ?sub rfl (st_app_o T0 rfl rfl rfl rfl rfl rfl rfl rfl rfl (by solve | repeat' constructor) (by solve | repeat' constructor) rfl rfl hn1 (by omega) ?_)
    case sub => exact (by solve | repeat' constructor)
    intro a85 c85 p85
    refine awt_po rfl (wt_none rfl) (pv_fa T0 rfl rfl rfl (by simp; rfl)) rfl rfl ?_
    refine awt_s (md := fun _ => True) rfl (wt_none rfl) (st_app T0 rfl rfl rfl rfl rfl rfl rfl rfl rfl (by solve | repeat' constructor) (by solve | repeat' constructor) rfl rfl hn2 (by omega) (fun _ _ => trivial) ?_)
    intro a90 c90 p90
    refine awe_s (md := fun _ => True) rfl (wt_none rfl) (st_store T0 rfl rfl rfl rfl rfl (by simp only [cellsA]; rfl) rfl rfl rfl (by solve | repeat' constructor) (by solve | repeat' constructor) trivial ?_)
    first
      | refine awe_p rfl (wt_none rfl) (pv_fa T0 rfl rfl rfl (by simp; rfl)) rfl rfl ?_
      | refine awe_p rfl (wt_none rfl) (pv_fa_elt T0 rfl rfl rfl (by simp; rfl)) rfl rfl ?_
      | refine awe_p rfl (wt_none rfl) (pv_fa_rp T0 rfl rfl rfl (by simp; rfl)) rfl rfl ?_
    refine awe_s (md := fun _ => True) rfl (wt_none rfl) (st_store T0 rfl rfl rfl rfl rfl (by simp only [cellsA]; rfl) rfl rfl rfl (by solve | repeat' constructor) (by solve | repeat' constructor) trivial ?_)
    refine awe_end ?_
    exact cut_n ⟨_, _, _, _, rfl, rfl⟩ (by first | ((repeat' (first | exact True.intro | refine ⟨rfl, ?_⟩)); all_goals fail) | fail) (by solve | repeat' constructor)
end Go.Proofs.Ytfiacjdkdjkiiaa
