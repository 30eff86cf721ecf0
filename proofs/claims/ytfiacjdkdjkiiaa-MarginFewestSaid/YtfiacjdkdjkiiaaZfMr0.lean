/- Joined texts: Mn, Mr0. -/
import Derived.Test.YtfiacjdkdjkiiaaGBs
import Derived.Test.YtfiacjdkdjkiiaaGPl
import Derived.Test.YtfiacjdkdjkiiaaGRd
import Derived.Deep.DrawnRows
import Derived.Test.YtfiacjdkdjkiiaaMe0
import Derived.Test.YtfiacjdkdjkiiaaGTx
section
namespace Go.Proofs.Ytfiacjdkdjkiiaa
open Go Go.RowKit Go.Tl
set_option linter.unusedVariables false
theorem value_p (cp cp' : Bool) (xs ys : List Int) (hl : xs.length ≤ 1000) (hle : xs.length ≤ ys.length) (hm : ys.length ≤ 1000) (hbx : ∀ x ∈ xs, 0 ≤ x ∧ x ≤ 1000000) (hby : ∀ x ∈ ys, 0 ≤ x ∧ x ≤ 1000000) : PCall Try.prog 42 [.t (intsT cp xs), .t (intsT cp' ys)] (fun r => r = intA (dot xs ys)) := pcall_below fun w S vs hvs => by
  obtain ⟨v, us, rfl, k1, hvs⟩ := rels1 hvs
  obtain ⟨v2, us, rfl, k2, hvs⟩ := rels1 hvs
  obtain rfl := rels0 hvs
  obtain ⟨a, c, rfl, _, hx⟩ := ints_at (t_inv k1)
  obtain ⟨a', c', rfl, _, hy⟩ := ints_at (t_inv k2)
  refine (value_any a a' xs ys c c' w hl hle hm hbx hby hx hy).mono fun e w' ⟨e1, n, hb⟩ => ⟨_, _, e1, rfl, ?_, .v _⟩
  subst hb
  exact below_drewN' (Below.refl _ _) n
end Go.Proofs.Ytfiacjdkdjkiiaa
end
section
namespace Go.Proofs.Ytfiacjdkdjkiiaa
open Go Go.RowKit Go.Tl
set_option linter.unusedVariables false
set_option linter.unusedSimpArgs false
set_option maxHeartbeats 2000000
attribute [local irreducible] AWP AWL AOp PV LV AWT AWE
theorem mr_8 {g3 g4 g12 : Nat} {u9 u10 u11 u13 : AV} {x1 x4 x5 x6 : Ent} {xs : List Int} {mo ma lim : Int} {ps : List (List Int)} {ra : List Int} {j : Nat} (hj : j < ps.length) (hjm : j ≤ 1000) (h1 : xs.length ≤ 1000) (h2 : xs.length ≤ (ps.getD j []).length) (h3 : (ps.getD j []).length ≤ 1000) (h4 : ∀ x ∈ xs, 0 ≤ x ∧ x ≤ 1000000) (h5 : ∀ x ∈ ps.getD j [], 0 ≤ x ∧ x ≤ 1000000) (hq0 : 0 ≤ dot xs (ps.getD j []) ∧ dot xs (ps.getD j []) ≤ 1000000000000000) (hma : 0 ≤ ma ∧ ma ≤ 1000000) (hq2 : IntKind.i64.wrap ((100 * dot xs (ps.getD j [])).tdiv (100 + ma)) = lim) {ops : Array Oper} (h : regF Try.f25 8 = some ops) :
    AWP Try.prog Try.f25.ntmps none (.region 8 ops true) (cutQ (fun s h => s = [(3, .v (.pointer (some ⟨g3, 0, none⟩))), (4, .v (.pointer (some ⟨g4, 0, none⟩))), (12, .v (.pointer (some ⟨g12, 0, none⟩))), (9, u9), (10, u10), (11, u11), (13, u13), (14, intA j), (15, intA lim)] ∧ h = [x1, .cl g4 29 [.t (rowsT false ps), .t (intsT false ra)], .cl g12 80 [intA mo, intA ma, .t (intsT false xs)], x4, x5, x6]))
      [(3, .v (.pointer (some ⟨g3, 0, none⟩))), (4, .v (.pointer (some ⟨g4, 0, none⟩))), (12, .v (.pointer (some ⟨g12, 0, none⟩))), (9, u9), (10, u10), (11, u11), (13, u13), (14, intA j)] [x1, .cl g4 29 [.t (rowsT false ps), .t (intsT false ra)], .cl g12 80 [intA mo, intA ma, .t (intsT false xs)], x4, x5, x6] := by
  cases h
  refine awp_tree T0 [(0, 0), (1, 1), (2, 0), (3, 1), (4, 0), (5, 0), (6, 1), (9, 0), (10, 1), (11, 0), (7, 2), (8, 0), (12, 0), (13, 0)] (.op 0 0 (.op 1 1 (.op 2 0 (.op 3 1 (.op 4 0 (.op 5 0 (.op 6 1 (.op 9 0 (.op 10 1 (.op 11 0 (.op 7 2 (.op 8 0 (.op 12 0 (.op 13 0 .stop)))))))))))))) _ rfl (by kernel_rfl) (SubH.refl _) ?_
  refine awt_po rfl (wt_none rfl) (pv_fa T0 rfl rfl rfl (by simp; rfl)) rfl rfl ?_
  refine awt_lo rfl (wt_none rfl) (lv_cl1 T0 rfl rfl rfl (by solve | repeat' constructor) (by first | rfl | assumption)) rfl rfl rfl ?_
  refine awt_po rfl (wt_none rfl) (pv_fa T0 rfl rfl rfl (by simp; rfl)) rfl rfl ?_
  refine awt_lo rfl (wt_none rfl) (lv_cl1 T0 rfl rfl rfl (by solve | repeat' constructor) (by first | rfl | assumption)) rfl rfl rfl ?_
  refine awt_po rfl (wt_none rfl) (pv_move rfl rfl) rfl rfl ?_
  refine awt_po rfl (wt_none rfl) (pv_ix_t T0 rfl rfl rfl rfl (by omega) (by first | exact Int.toNat_natCast _ | rfl)) rfl rfl ?_
  refine awt_lo rfl (wt_none rfl) (lv_elt_sl T0 rfl rfl rfl rfl) rfl rfl rfl ?_
  refine awt_po rfl (wt_none rfl) (pv_fa T0 rfl rfl rfl (by simp; rfl)) rfl rfl ?_
  refine awt_lo rfl (wt_none rfl) (lv_cl1 T0 rfl rfl rfl (by solve | repeat' constructor) (by first | rfl | assumption)) rfl rfl rfl ?_
  refine awt_po rfl (wt_none rfl) (pv_add rfl rfl rfl (by first | assumption | exact wr64 (by omega))) rfl rfl ?_
  refine awt_h (hm := []) rfl (wt_none rfl) (by solve | repeat' constructor) rfl (st_call T0 (value_p false false xs (ps.getD j []) h1 h2 h3 h4 h5) rfl rfl rfl rfl (by first | exact callee_lit | exact callee_v | exact callee_fn) (by solve | repeat' constructor) rfl rfl ?_)
  rintro _ rfl
  refine awt_n1 rfl (wt_none rfl) (pv_mul rfl rfl rfl (by first | assumption | exact wr64 (by omega))) rfl rfl rfl ?_
  refine awt_n1 rfl (wt_none rfl) (pv_quo rfl rfl rfl (by omega) (by first | assumption | exact wr64 (by omega))) rfl rfl rfl ?_
  refine awt_n1 rfl (wt_none rfl) (pv_assign rfl rfl) rfl rfl rfl ?_
  refine awt_end ?_
  exact cut_n ⟨rfl, rfl⟩ (by first | ((repeat' (first | exact True.intro | refine ⟨rfl, ?_⟩)); all_goals fail) | fail) (by solve | repeat' constructor)
end Go.Proofs.Ytfiacjdkdjkiiaa
end
