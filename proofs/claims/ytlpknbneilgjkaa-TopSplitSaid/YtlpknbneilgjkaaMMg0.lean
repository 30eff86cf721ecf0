/- Play: its drawn region. -/
import Derived.Test.YtlpknbneilgjkaaMMf
import Derived.Test.YtlpknbneilgjkaaGTx
import Derived.Test.YtlpknbneilgjkaaTt
import Derived.Test.YtlpknbneilgjkaaGOb
import Derived.Test.YtlpknbneilgjkaaGPa
import Derived.Test.YtlpknbneilgjkaaGTs
import Derived.Test.YtlpknbneilgjkaaGTy
namespace Go.Proofs.Ytlpknbneilgjkaa.M
open Go Go.RowKit Go.Tl
set_option linter.unusedVariables false
set_option maxRecDepth 100000
set_option linter.unusedSimpArgs false
set_option maxHeartbeats 2000000
attribute [local irreducible] AWP AWL AOp PV LV AWT AWE
abbrev mgS (u2 u3 u4 u5 u8 u30 u31 u10 u36 u37 : AV) (e : Option Addr) (j f : Nat) (e' : Option Addr) (f' : Nat) : Slots := [(2, u2), (3, u3), (4, u4), (5, u5), (8, u8), (30, u30), (31, u31), (10, u10), (36, u36), (37, u37), (11, .v (.slice e j f)), (12, .v (.slice e' j f'))]
theorem mg_15 {u2 u3 u4 u5 u8 u30 u31 u10 u36 u37 : AV} {x1 x2 x3 x4 x5 x6 : Ent} {e e' : Option Addr} {j f f' g14 : Nat} {rs rs' : List (List AV)} {s : St} (b1 : -1000000000 ≤ s.before ∧ s.before ≤ 1000000000) (b2 : -1000000000 ≤ s.call ∧ s.call ≤ 1000000000) (hj : j ≤ 1000) (hm : rs.length = j) (hm' : rs'.length = j) {ops : Array Oper} (h : regF Try.f15 15 = some ops) :
    AWP Try.prog Try.f15.ntmps none (.region 15 ops true) (cutQ (fun st h => ∃ d1 c1 d2 c2, st = mgS u2 u3 u4 u5 u8 u30 u31 u10 u36 u37 d1 (j + 1) c1 d2 c2 ∧ h = [x1, x2, x3, x4, x5, x6, .rw (.slice d1 (j + 1) c1) 3 1 (rs ++ [[intA s.after]]), .rw (.slice d2 (j + 1) c2) 3 1 (rs' ++ [[intA s.call]])]))
      ((14, .v (.pointer (some ⟨g14, 0, none⟩))) :: mgS u2 u3 u4 u5 u8 u30 u31 u10 u36 u37 e j f e' f') [.cl g14 157 [intA s.before, intA s.value, intA s.call], x1, x2, x3, x4, x5, x6, .rw (.slice e j f) 3 1 rs, .rw (.slice e' j f') 3 1 rs'] := by
  cases h
  refine awp_tree T0 [(0, 0), (1, 1), (5, 0), (6, 0), (7, 1), (2, 2), (3, 2), (4, 2), (8, 2), (9, 3), (10, 0), (11, 0)] (.op 0 0 (.op 1 1 (.op 5 0 (.op 6 0 (.op 7 1 (.fork 2 (.fork 3 (.fork 4 (.op 8 2 (.op 9 3 (.op 10 0 (.op 11 0 .stop)))) 8 (.op 4 2 (.op 9 3 (.op 10 0 (.op 11 0 .stop))))) 8 (.op 3 2 (.op 4 2 (.op 9 3 (.op 10 0 (.op 11 0 .stop)))))) 8 (.op 2 2 (.op 3 2 (.op 4 2 (.op 9 3 (.op 10 0 (.op 11 0 .stop)))))))))))) [.cl g14 _ _] rfl (by kernel_rfl) (by solve | repeat' constructor) ?_
  refine awt_po rfl (wt_none rfl) (pv_move rfl rfl) rfl rfl ?_
  refine awt_lo rfl (wt_none rfl) (lv_cla T0 rfl rfl rfl (by solve | repeat' constructor) rfl) rfl rfl rfl ?_
  refine awt_po rfl (wt_none rfl) (pv_move rfl rfl) rfl rfl ?_
  refine awt_po rfl (wt_none rfl) (pv_fa T0 rfl rfl rfl (by simp; rfl)) rfl rfl ?_
  refine awt_lo rfl (wt_none rfl) (lv_cl1 T0 rfl rfl rfl (by solve | repeat' constructor) (by first | rfl | assumption)) rfl rfl rfl ?_
  refine awt_fork ?_ ?_
  · skip
    refine awt_h (hm := []) rfl (wt_none rfl) (by solve | repeat' constructor) rfl (st_call T0 (after_p s b1 b2) rfl rfl rfl rfl (by first | exact callee_lit | exact callee_v | exact callee_fn) (by solve | repeat' constructor) rfl rfl ?_)
    rintro _ rfl
    refine awt_fork ?_ ?_
    · skip
      refine awt_h (hm := []) rfl (wt_none rfl) (by solve | repeat' constructor) rfl (st_bsl T0 rfl rfl rfl rfl rfl (by solve | repeat' constructor) rfl rfl rfl rfl (by simp only [List.map_cons, List.map_nil, cellsA]; rfl) ?_)
      intro g48
      refine awt_fork ?_ ?_
      · skip
        refine awt_h (hm := _) rfl (wt_none rfl) ?sub rfl (st_app_o T0 rfl rfl rfl rfl rfl rfl rfl rfl rfl (by solve | repeat' constructor) (by solve | repeat' constructor) rfl rfl hm (by omega) ?_)
        case sub => exact (by solve | repeat' constructor)
        intro a49 c49 p49
        refine awt_h (hm := []) rfl (wt_none rfl) (by solve | repeat' constructor) rfl (st_bsl T0 rfl rfl rfl rfl rfl (by solve | repeat' constructor) rfl rfl rfl rfl (by simp only [List.map_cons, List.map_nil, cellsA]; rfl) ?_)
        intro g53
        refine awt_s (md := fun _ => True) rfl (wt_none rfl) (st_app T0 rfl rfl rfl rfl rfl rfl rfl rfl rfl (by solve | repeat' constructor) (by solve | repeat' constructor) rfl rfl hm' (by omega) (fun _ _ => trivial) ?_)
        intro a54 c54 p54
        refine awe_p rfl (wt_none rfl) (pv_assign rfl rfl) rfl rfl ?_
        refine awe_p rfl (wt_none rfl) (pv_assign rfl rfl) rfl rfl ?_
        refine awe_end ?_
        exact cut_n ⟨_, _, _, _, rfl, rfl⟩ (by first | ((repeat' (first | exact True.intro | refine ⟨rfl, ?_⟩)); all_goals fail) | fail) (by solve | repeat' constructor)
      · skip
        refine awt_h (hm := []) rfl (wt_none rfl) (by solve | repeat' constructor) rfl (st_bsl T0 rfl rfl rfl rfl rfl (by solve | repeat' constructor) rfl rfl rfl rfl (by simp only [List.map_cons, List.map_nil, cellsA]; rfl) ?_)
        intro g53
        refine awt_h (hm := _) rfl (wt_none rfl) ?sub rfl (st_app_o T0 rfl rfl rfl rfl rfl rfl rfl rfl rfl (by solve | repeat' constructor) (by solve | repeat' constructor) rfl rfl hm (by omega) ?_)
        case sub => exact (by solve | repeat' constructor)
        intro a49 c49 p49
        refine awt_s (md := fun _ => True) rfl (wt_none rfl) (st_app T0 rfl rfl rfl rfl rfl rfl rfl rfl rfl (by solve | repeat' constructor) (by solve | repeat' constructor) rfl rfl hm' (by omega) (fun _ _ => trivial) ?_)
        intro a54 c54 p54
        refine awe_p rfl (wt_none rfl) (pv_assign rfl rfl) rfl rfl ?_
        refine awe_p rfl (wt_none rfl) (pv_assign rfl rfl) rfl rfl ?_
        refine awe_end ?_
        exact cut_n ⟨_, _, _, _, rfl, rfl⟩ (by first | ((repeat' (first | exact True.intro | refine ⟨rfl, ?_⟩)); all_goals fail) | fail) (by solve | repeat' constructor)
    · skip
      refine awt_h (hm := []) rfl (wt_none rfl) (by solve | repeat' constructor) rfl (st_bsl T0 rfl rfl rfl rfl rfl (by solve | repeat' constructor) rfl rfl rfl rfl (by simp only [List.map_cons, List.map_nil, cellsA]; rfl) ?_)
      intro g53
      refine awt_h (hm := []) rfl (wt_none rfl) (by solve | repeat' constructor) rfl (st_bsl T0 rfl rfl rfl rfl rfl (by solve | repeat' constructor) rfl rfl rfl rfl (by simp only [List.map_cons, List.map_nil, cellsA]; rfl) ?_)
      intro g48
      refine awt_h (hm := _) rfl (wt_none rfl) ?sub rfl (st_app_o T0 rfl rfl rfl rfl rfl rfl rfl rfl rfl (by solve | repeat' constructor) (by solve | repeat' constructor) rfl rfl hm (by omega) ?_)
      case sub => exact (by solve | repeat' constructor)
      intro a49 c49 p49
      refine awt_s (md := fun _ => True) rfl (wt_none rfl) (st_app T0 rfl rfl rfl rfl rfl rfl rfl rfl rfl (by solve | repeat' constructor) (by solve | repeat' constructor) rfl rfl hm' (by omega) (fun _ _ => trivial) ?_)
      intro a54 c54 p54
      refine awe_p rfl (wt_none rfl) (pv_assign rfl rfl) rfl rfl ?_
      refine awe_p rfl (wt_none rfl) (pv_assign rfl rfl) rfl rfl ?_
      refine awe_end ?_
      exact cut_n ⟨_, _, _, _, rfl, rfl⟩ (by first | ((repeat' (first | exact True.intro | refine ⟨rfl, ?_⟩)); all_goals fail) | fail) (by solve | repeat' constructor)
  · skip
    refine awt_h (hm := []) rfl (wt_none rfl) (by solve | repeat' constructor) rfl (st_bsl T0 rfl rfl rfl rfl rfl (by solve | repeat' constructor) rfl rfl rfl rfl (by simp only [List.map_cons, List.map_nil, cellsA]; rfl) ?_)
    intro g53
    refine awt_h (hm := []) rfl (wt_none rfl) (by solve | repeat' constructor) rfl (st_call T0 (after_p s b1 b2) rfl rfl rfl rfl (by first | exact callee_lit | exact callee_v | exact callee_fn) (by solve | repeat' constructor) rfl rfl ?_)
    rintro _ rfl
    refine awt_h (hm := []) rfl (wt_none rfl) (by solve | repeat' constructor) rfl (st_bsl T0 rfl rfl rfl rfl rfl (by solve | repeat' constructor) rfl rfl rfl rfl (by simp only [List.map_cons, List.map_nil, cellsA]; rfl) ?_)
    intro g48
    refine awt_h (hm := _) rfl (wt_none rfl) ?sub rfl (st_app_o T0 rfl rfl rfl rfl rfl rfl rfl rfl rfl (by solve | repeat' constructor) (by solve | repeat' constructor) rfl rfl hm (by omega) ?_)
    case sub => exact (by solve | repeat' constructor)
    intro a49 c49 p49
    refine awt_s (md := fun _ => True) rfl (wt_none rfl) (st_app T0 rfl rfl rfl rfl rfl rfl rfl rfl rfl (by solve | repeat' constructor) (by solve | repeat' constructor) rfl rfl hm' (by omega) (fun _ _ => trivial) ?_)
    intro a54 c54 p54
    refine awe_p rfl (wt_none rfl) (pv_assign rfl rfl) rfl rfl ?_
    refine awe_p rfl (wt_none rfl) (pv_assign rfl rfl) rfl rfl ?_
    refine awe_end ?_
    exact cut_n ⟨_, _, _, _, rfl, rfl⟩ (by first | ((repeat' (first | exact True.intro | refine ⟨rfl, ?_⟩)); all_goals fail) | fail) (by solve | repeat' constructor)
end Go.Proofs.Ytlpknbneilgjkaa.M
