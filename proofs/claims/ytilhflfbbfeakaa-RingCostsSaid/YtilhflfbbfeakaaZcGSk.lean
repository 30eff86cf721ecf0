/- Joined texts: Rc0, Rc, Rd, Re, Gs, GBf, Rp, Rq, Rr, GMp, GRi, GSi, GSd, GSf, GSk. -/
import Derived.Test.YtilhflfbbfeakaaZcRb
import Derived.Test.YtilhflfbbfeakaaTv
import Derived.Test.YtilhflfbbfeakaaTy
import Derived.Test.YtilhflfbbfeakaaTL
import Derived.Test.YtilhflfbbfeakaaZcRa
import Derived.Test.YtilhflfbbfeakaaTz
import Derived.ChangeKeysEq
import Derived.Test.YtilhflfbbfeakaaGTs
section
namespace Go.Proofs.Ytilhflfbbfeakaa
open Go Go.RowKit Go.Tl
set_option linter.unusedVariables false
set_option linter.unusedSimpArgs false
set_option maxRecDepth 100000
set_option maxHeartbeats 4000000
attribute [local irreducible] AWP AWL AOp PV LV AWT AWE
/-- a valid book -/
structure VBook (b : BookD) : Prop where
  houses : 1 ≤ b.houses ∧ b.houses ≤ 6
  len : b.cons.length ≤ 8
  frm : ∀ k, k < b.cons.length → 0 ≤ (b.cons.getD k default).frm ∧ (b.cons.getD k default).frm < b.houses
  to : ∀ k, k < b.cons.length → 0 ≤ (b.cons.getD k default).to ∧ (b.cons.getD k default).to < b.houses
  ne : ∀ k, k < b.cons.length → (b.cons.getD k default).frm ≠ (b.cons.getD k default).to
  num : ∀ k, k < b.cons.length → 1 ≤ (b.cons.getD k default).num ∧ (b.cons.getD k default).num ≤ 100
  price : ∀ k, k < b.cons.length → 1 ≤ (b.cons.getD k default).price ∧ (b.cons.getD k default).price ≤ 1000
theorem vbook {b : BookD} (h : faultN b = 0) : VBook b := by
  unfold faultN at h
  by_cases h1 : 6 < b.houses ∨ 8 < b.cons.length
  · rw [if_pos h1] at h; exact absurd h (by decide)
  rw [if_neg h1] at h
  by_cases h2 : 1 ≤ b.houses ∧ b.cons.all (conB b.houses) = true
  case neg => rw [if_neg h2] at h; exact absurd h (by decide)
  have hc : ∀ k, k < b.cons.length → (0 ≤ (b.cons.getD k default).frm ∧ (b.cons.getD k default).frm ≤ b.houses - 1) ∧ (0 ≤ (b.cons.getD k default).to ∧ (b.cons.getD k default).to ≤ b.houses - 1) ∧ (b.cons.getD k default).frm ≠ (b.cons.getD k default).to ∧ (1 ≤ (b.cons.getD k default).num ∧ (b.cons.getD k default).num ≤ 100) ∧ (1 ≤ (b.cons.getD k default).price ∧ (b.cons.getD k default).price ≤ 1000) := fun k hk => by
    have := (all_getD (d := default)).1 h2.2 k hk
    simpa only [conB, Bool.and_eq_true, inB_iff, decide_eq_true_eq] using this
  exact ⟨by omega, by omega, fun k hk => by have := (hc k hk).1; omega, fun k hk => by have := (hc k hk).2.1; omega, fun k hk => (hc k hk).2.2.1, fun k hk => (hc k hk).2.2.2.1, fun k hk => (hc k hk).2.2.2.2⟩
/-- what has come to a house with the first contracts -/
def accN (cs : List ConD) (f : Nat → Int) : Nat → Nat → Int
  | 0, _ => 0
  | k + 1, h => accN cs f k h + (if (cs.getD k default).to = (h : Int) then f k else 0) - (if (cs.getD k default).frm = (h : Int) then f k else 0)
theorem accN_bd {cs : List ConD} {f : Nat → Int} {B : Int} (hB : 0 ≤ B) : ∀ (k : Nat) (h : Nat), (∀ i, i < k → -B ≤ f i ∧ f i ≤ B) → -(2 * B * k) ≤ accN cs f k h ∧ accN cs f k h ≤ 2 * B * k
  | 0, h, _ => by simp [accN]
  | k + 1, h, hf => by
    have ih := accN_bd (cs := cs) hB k h (fun i hi => hf i (by omega))
    have h1 := hf k (by omega)
    simp only [accN]
    have e : (2 * B * ((k + 1 : Nat) : Int)) = 2 * B * k + 2 * B := by rw [Int.natCast_add, Int.mul_add]; simp
    split <;> split <;> omega
def netL (b : BookD) (f : Nat → Int) : List Int := (List.range b.houses.toNat).map fun h => accN b.cons f b.cons.length h
abbrev nwS (cp : Bool) (xs : List Int) (g2 ga n k : Nat) : Slots := [(1, .t (intsT cp xs)), (2, .v (ptrV g2)), (5, .v (.slice (some ⟨ga, 0, none⟩) n n)), (6, intA k)]
section
variable {b : BookD} {xs : List Int} {cp : Bool} {g2 ga n k j : Nat} {F G : Nat → Int}
theorem net_5 (hk : k < b.cons.length) (hkx : k < xs.length) (hj : (b.cons.getD k default).to = (j : Int)) (hjn : j < n) (b1 : -1000000000 ≤ F j ∧ F j ≤ 1000000000) (b2 : -1000000000 ≤ xs.getD k 0 ∧ xs.getD k 0 ≤ 1000000000) (hG : ∀ q, q < n → G q = if q = j then F j + xs.getD k 0 else F q) {ops : Array Oper} (h : regF Try.f25 5 = some ops) :
    AWP Try.prog Try.f25.ntmps none (.region 5 ops true) (cutQ (fun s h => s = nwS cp xs g2 ga n k ∧ h = [refB g2 b, .rw (.slice (some ⟨ga, 0, none⟩) n n) 3 1 (fRows G n)])) (nwS cp xs g2 ga n k) [refB g2 b, .rw (.slice (some ⟨ga, 0, none⟩) n n) 3 1 (fRows F n)] := by
  cases h
  have r1 : ((fRows F n).getD j [])[0]? = some (intA (F j)) := fRows_at hjn
  have r2 := fRows_len F n
  have hjt : (b.cons.getD k default).to.toNat = j := by omega
  refine awp_tree T0 [(0, 0), (1, 0), (2, 1), (3, 0), (4, 0), (5, 0), (6, 1), (7, 0), (8, 1), (9, 0), (10, 0), (11, 0), (12, 1), (13, 0), (14, 0), (15, 3)] (.op 0 0 (.op 1 0 (.op 2 1 (.op 3 0 (.op 4 0 (.op 5 0 (.op 6 1 (.op 7 0 (.op 8 1 (.op 9 0 (.op 10 0 (.op 11 0 (.op 12 1 (.op 13 0 (.op 14 0 (.op 15 3 .stop)))))))))))))))) [.cl g2 _ _, .rw _ _ _ _] rfl (by kernel_rfl) (by solve | repeat' constructor) ?_
  refine awt_po rfl (wt_none rfl) (pv_move rfl rfl) rfl rfl ?_
  refine awt_po rfl (wt_none rfl) (pv_fa T0 rfl rfl rfl (by simp; rfl)) rfl rfl ?_
  refine awt_lo rfl (wt_none rfl) (lv_cl1 T0 rfl rfl rfl (by solve | repeat' constructor) (by first | rfl | assumption)) rfl rfl rfl ?_
  refine awt_po rfl (wt_none rfl) (pv_move rfl rfl) rfl rfl ?_
  refine awt_po rfl (wt_none rfl) (pv_ix_t T0 rfl rfl rfl rfl (by omega) (by first | exact Int.toNat_natCast _ | rfl)) rfl rfl ?_
  refine awt_po rfl (wt_none rfl) (pv_fa_elt T0 rfl rfl rfl (by simp; rfl)) rfl rfl ?_
  refine awt_lo rfl (wt_none rfl) (lv_elt_sc T0 rfl rfl rfl rfl) rfl rfl rfl ?_
  refine awt_po rfl (wt_none rfl) (pv_ix_own T0 rfl rfl rfl rfl (by omega) hjt) rfl rfl ?_
  refine awt_lo rfl (wt_none rfl) (lv_rp T0 rfl rfl rfl (by solve | repeat' constructor) (by first | omega | (simp; omega)) (by omega) (by first | assumption | rfl)) rfl rfl rfl ?_
  refine awt_po rfl (wt_none rfl) (pv_move rfl rfl) rfl rfl ?_
  refine awt_po rfl (wt_none rfl) (pv_move rfl rfl) rfl rfl ?_
  refine awt_po rfl (wt_none rfl) (pv_ix_t T0 rfl rfl rfl rfl (by omega) (by first | exact Int.toNat_natCast _ | rfl)) rfl rfl ?_
  refine awt_lo rfl (wt_none rfl) (lv_elt_sc T0 rfl rfl rfl rfl) rfl rfl rfl ?_
  refine awt_po rfl (wt_none rfl) (pv_add rfl rfl rfl (by first | assumption | exact wr64 (by omega))) rfl rfl ?_
  refine awt_po rfl (wt_none rfl) (pv_ix_own T0 rfl rfl rfl rfl (by omega) hjt) rfl rfl ?_
  refine awt_s (md := fun _ => True) rfl (wt_none rfl) (aop_store_rp T0 rfl rfl rfl rfl rfl rfl rfl rfl (by solve | repeat' constructor) (by first | omega | (simp; omega)) (by omega) rfl trivial ?_)
  refine awe_end ?_
  simp only [cellsA]
  rw [fRows_set hjn hG]
  exact cut_n ⟨rfl, rfl⟩ (by first | ((repeat' (first | exact True.intro | refine ⟨rfl, ?_⟩)); all_goals fail) | fail) (by solve | repeat' constructor)
theorem net_6 (hk : k < b.cons.length) (hkx : k < xs.length) (hj : (b.cons.getD k default).frm = (j : Int)) (hjn : j < n) (b1 : -1000000000 ≤ F j ∧ F j ≤ 1000000000) (b2 : -1000000000 ≤ xs.getD k 0 ∧ xs.getD k 0 ≤ 1000000000) (hG : ∀ q, q < n → G q = if q = j then F j - xs.getD k 0 else F q) {ops : Array Oper} (h : regF Try.f25 6 = some ops) :
    AWP Try.prog Try.f25.ntmps none (.region 6 ops true) (cutQ (fun s h => s = nwS cp xs g2 ga n k ∧ h = [refB g2 b, .rw (.slice (some ⟨ga, 0, none⟩) n n) 3 1 (fRows G n)])) (nwS cp xs g2 ga n k) [refB g2 b, .rw (.slice (some ⟨ga, 0, none⟩) n n) 3 1 (fRows F n)] := by
  cases h
  have r1 : ((fRows F n).getD j [])[0]? = some (intA (F j)) := fRows_at hjn
  have r2 := fRows_len F n
  have hjt : (b.cons.getD k default).frm.toNat = j := by omega
  refine awp_tree T0 [(0, 0), (1, 0), (2, 1), (3, 0), (4, 0), (5, 0), (6, 1), (7, 0), (8, 1), (9, 0), (10, 0), (11, 0), (12, 1), (13, 0), (14, 0), (15, 3)] (.op 0 0 (.op 1 0 (.op 2 1 (.op 3 0 (.op 4 0 (.op 5 0 (.op 6 1 (.op 7 0 (.op 8 1 (.op 9 0 (.op 10 0 (.op 11 0 (.op 12 1 (.op 13 0 (.op 14 0 (.op 15 3 .stop)))))))))))))))) [.cl g2 _ _, .rw _ _ _ _] rfl (by kernel_rfl) (by solve | repeat' constructor) ?_
  refine awt_po rfl (wt_none rfl) (pv_move rfl rfl) rfl rfl ?_
  refine awt_po rfl (wt_none rfl) (pv_fa T0 rfl rfl rfl (by simp; rfl)) rfl rfl ?_
  refine awt_lo rfl (wt_none rfl) (lv_cl1 T0 rfl rfl rfl (by solve | repeat' constructor) (by first | rfl | assumption)) rfl rfl rfl ?_
  refine awt_po rfl (wt_none rfl) (pv_move rfl rfl) rfl rfl ?_
  refine awt_po rfl (wt_none rfl) (pv_ix_t T0 rfl rfl rfl rfl (by omega) (by first | exact Int.toNat_natCast _ | rfl)) rfl rfl ?_
  refine awt_po rfl (wt_none rfl) (pv_fa_elt T0 rfl rfl rfl (by simp; rfl)) rfl rfl ?_
  refine awt_lo rfl (wt_none rfl) (lv_elt_sc T0 rfl rfl rfl rfl) rfl rfl rfl ?_
  refine awt_po rfl (wt_none rfl) (pv_ix_own T0 rfl rfl rfl rfl (by omega) hjt) rfl rfl ?_
  refine awt_lo rfl (wt_none rfl) (lv_rp T0 rfl rfl rfl (by solve | repeat' constructor) (by first | omega | (simp; omega)) (by omega) (by first | assumption | rfl)) rfl rfl rfl ?_
  refine awt_po rfl (wt_none rfl) (pv_move rfl rfl) rfl rfl ?_
  refine awt_po rfl (wt_none rfl) (pv_move rfl rfl) rfl rfl ?_
  refine awt_po rfl (wt_none rfl) (pv_ix_t T0 rfl rfl rfl rfl (by omega) (by first | exact Int.toNat_natCast _ | rfl)) rfl rfl ?_
  refine awt_lo rfl (wt_none rfl) (lv_elt_sc T0 rfl rfl rfl rfl) rfl rfl rfl ?_
  refine awt_po rfl (wt_none rfl) (pv_sub rfl rfl rfl (by first | assumption | exact wr64 (by omega))) rfl rfl ?_
  refine awt_po rfl (wt_none rfl) (pv_ix_own T0 rfl rfl rfl rfl (by omega) hjt) rfl rfl ?_
  refine awt_s (md := fun _ => True) rfl (wt_none rfl) (aop_store_rp T0 rfl rfl rfl rfl rfl rfl rfl rfl (by solve | repeat' constructor) (by first | omega | (simp; omega)) (by omega) rfl trivial ?_)
  refine awe_end ?_
  simp only [cellsA]
  rw [fRows_set hjn hG]
  exact cut_n ⟨rfl, rfl⟩ (by first | ((repeat' (first | exact True.intro | refine ⟨rfl, ?_⟩)); all_goals fail) | fail) (by solve | repeat' constructor)
end
abbrev swS (fv t14 e21 : AV) (l15 : Int) (g7 g9 ga n k q : Nat) : Slots := [(1, fv), (5, .v (.slice (some ⟨ga, 0, none⟩) n n)), (6, intA k), (7, .v (ptrV g7)), (9, .v (ptrV g9)), (14, t14), (15, intA l15), (16, intA k), (21, e21), (22, intA q)]
section
variable {c : ConD} {fv t14 e21 : AV} {l15 : Int} {q : Nat} {g7 g9 ga n k j gN F : Nat} {fsN csN : List AV} {o : Ob} {A G : Nat → Int} {v : Int}
theorem sums_8b (hF : PCall Try.prog F [conA c] (fun r => r = intA (j : Int))) (hFn : T0.fns.any F.beq = true) (hcal : Tl.Callee fv gN fsN csN) (hg : T0.fns.any gN.beq = true)
    (hnum : ACall Try.prog gN (fsN ++ [intA k] ++ csN) [.ob o] (fun r h' => r = intA v ∧ h' = [.ob o])) (hjn : j < n) (b1 : -1000000000 ≤ A j ∧ A j ≤ 1000000000) (b2 : -1000000000 ≤ v ∧ v ≤ 1000000000) (hG : ∀ q, q < n → G q = if q = j then A j + 1 * v else A q) {ops : Array Oper} (h : regF Try.f57 8 = some ops) :
    AWP Try.prog Try.f57.ntmps none (.region 8 ops true) (cutQ (fun s h => s = swS fv t14 e21 l15 g7 g9 ga n k q ∧ h = [.cl g9 110 [.v (.func (.func F) #[] #[]), intA 1], .cl g7 83 [intA c.frm, intA c.to, intA c.num, intA c.price], .rw (.slice (some ⟨ga, 0, none⟩) n n) 3 1 (fRows G n), .ob o]))
      (swS fv t14 e21 l15 g7 g9 ga n k q) [.cl g9 110 [.v (.func (.func F) #[] #[]), intA 1], .cl g7 83 [intA c.frm, intA c.to, intA c.num, intA c.price], .rw (.slice (some ⟨ga, 0, none⟩) n n) 3 1 (fRows A n), .ob o] := by
  cases h
  have r1 : ((fRows A n).getD j [])[0]? = some (intA (A j)) := fRows_at hjn
  have r2 := fRows_len A n
  refine awp_tree T0 [(0, 0), (1, 0), (2, 1), (3, 1), (7, 0), (8, 1), (9, 0), (10, 0), (4, 2), (5, 0), (6, 1), (11, 2), (12, 0), (13, 0), (14, 0), (15, 3)] (.op 0 0 (.op 1 0 (.op 2 1 (.op 3 1 (.op 7 0 (.op 8 1 (.op 9 0 (.op 10 0 (.op 4 2 (.op 5 0 (.op 6 1 (.op 11 2 (.op 12 0 (.op 13 0 (.op 14 0 (.op 15 3 .stop)))))))))))))))) [.cl g9 110 _, .cl g7 83 _, .rw _ _ _ _] rfl (by kernel_rfl) (by solve | repeat' constructor) ?_
  refine awt_po rfl (wt_none rfl) (pv_move rfl rfl) rfl rfl ?_
  refine awt_po rfl (wt_none rfl) (pv_fa T0 rfl rfl rfl (by simp; rfl)) rfl rfl ?_
  refine awt_lo rfl (wt_none rfl) (lv_cl1 T0 rfl rfl rfl (by solve | repeat' constructor) (by first | rfl | assumption)) rfl rfl rfl ?_
  refine awt_lo rfl (wt_none rfl) (lv_cla T0 rfl rfl rfl (by solve | repeat' constructor) rfl) rfl rfl rfl ?_
  refine awt_po rfl (wt_none rfl) (pv_fa T0 rfl rfl rfl (by simp; rfl)) rfl rfl ?_
  refine awt_lo rfl (wt_none rfl) (lv_cl1 T0 rfl rfl rfl (by solve | repeat' constructor) (by first | rfl | assumption)) rfl rfl rfl ?_
  refine awt_po rfl (wt_none rfl) (pv_move rfl rfl) rfl rfl ?_
  refine awt_po rfl (wt_none rfl) (pv_move rfl rfl) rfl rfl ?_
  refine awt_h (hm := []) rfl (wt_none rfl) (by solve | repeat' constructor) rfl (st_call T0 (hF) rfl rfl rfl rfl (by first | exact callee_lit | exact callee_v | exact callee_fn | assumption) (by solve | repeat' constructor) (by first | rfl | assumption) rfl ?_)
  (rintro _ rfl; refine awt_lit 29 rfl ?_)
  refine awt_po rfl (wt_none rfl) (pv_ix_own T0 rfl rfl rfl rfl (by omega) (by first | exact Int.toNat_natCast _ | rfl)) rfl rfl ?_
  refine awt_lo rfl (wt_none rfl) (lv_rp T0 rfl rfl rfl (by solve | repeat' constructor) (by first | omega | (simp; omega)) (by omega) (by first | assumption | rfl)) rfl rfl rfl ?_
  refine awt_h (hm := _) rfl (wt_none rfl) ?sub rfl (st_acall T0 (hnum) rfl rfl rfl rfl (by first | exact callee_lit | exact callee_v | exact callee_fn | assumption) (by solve | repeat' constructor) (by first | rfl | assumption) rfl (by first | ((repeat' (first | exact SubH.refl _ | apply SubH.cons | exact Pick.here | apply Pick.there)); all_goals fail) | fail) (fun b hb => hb) ?_)
  case sub => exact (by solve | repeat' constructor)
  rintro r h ⟨rfl, rfl⟩
  refine awt_n1 rfl (wt_none rfl) (pv_mul rfl rfl rfl (by first | assumption | exact wr64 (by omega))) rfl rfl rfl ?_
  refine awt_n1 rfl (wt_none rfl) (pv_add rfl rfl rfl (by first | assumption | exact wr64 (by omega))) rfl rfl rfl ?_
  refine awt_po rfl (wt_none rfl) (pv_ix_own T0 rfl rfl rfl rfl (by omega) (by first | exact Int.toNat_natCast _ | rfl)) rfl rfl ?_
  refine awt_s (md := fun _ => True) rfl (wt_none rfl) (aop_store_rp T0 rfl rfl rfl rfl rfl rfl rfl rfl (by solve | repeat' constructor) (by first | omega | (simp; omega)) (by omega) rfl trivial ?_)
  refine awe_end ?_
  simp only [cellsA]
  rw [fRows_set hjn hG]
  exact cut_n ⟨rfl, rfl⟩ (by first | ((repeat' (first | exact True.intro | refine ⟨rfl, ?_⟩)); all_goals fail) | fail) (by solve | repeat' constructor)
theorem sums_8s (hF : PCall Try.prog F [conA c] (fun r => r = intA (j : Int))) (hFn : T0.fns.any F.beq = true) (hcal : Tl.Callee fv gN fsN csN) (hg : T0.fns.any gN.beq = true)
    (hnum : ACall Try.prog gN (fsN ++ [intA k] ++ csN) [.ob o] (fun r h' => r = intA v ∧ h' = [.ob o])) (hjn : j < n) (b1 : -1000000000 ≤ A j ∧ A j ≤ 1000000000) (b2 : -1000000000 ≤ v ∧ v ≤ 1000000000) (hG : ∀ q, q < n → G q = if q = j then A j + -1 * v else A q) {ops : Array Oper} (h : regF Try.f57 8 = some ops) :
    AWP Try.prog Try.f57.ntmps none (.region 8 ops true) (cutQ (fun s h => s = swS fv t14 e21 l15 g7 g9 ga n k q ∧ h = [.cl g9 110 [.v (.func (.func F) #[] #[]), intA (-1)], .cl g7 83 [intA c.frm, intA c.to, intA c.num, intA c.price], .rw (.slice (some ⟨ga, 0, none⟩) n n) 3 1 (fRows G n), .ob o]))
      (swS fv t14 e21 l15 g7 g9 ga n k q) [.cl g9 110 [.v (.func (.func F) #[] #[]), intA (-1)], .cl g7 83 [intA c.frm, intA c.to, intA c.num, intA c.price], .rw (.slice (some ⟨ga, 0, none⟩) n n) 3 1 (fRows A n), .ob o] := by
  cases h
  have r1 : ((fRows A n).getD j [])[0]? = some (intA (A j)) := fRows_at hjn
  have r2 := fRows_len A n
  refine awp_tree T0 [(0, 0), (1, 0), (2, 1), (3, 1), (7, 0), (8, 1), (9, 0), (10, 0), (4, 2), (5, 0), (6, 1), (11, 2), (12, 0), (13, 0), (14, 0), (15, 3)] (.op 0 0 (.op 1 0 (.op 2 1 (.op 3 1 (.op 7 0 (.op 8 1 (.op 9 0 (.op 10 0 (.op 4 2 (.op 5 0 (.op 6 1 (.op 11 2 (.op 12 0 (.op 13 0 (.op 14 0 (.op 15 3 .stop)))))))))))))))) [.cl g9 110 _, .cl g7 83 _, .rw _ _ _ _] rfl (by kernel_rfl) (by solve | repeat' constructor) ?_
  refine awt_po rfl (wt_none rfl) (pv_move rfl rfl) rfl rfl ?_
  refine awt_po rfl (wt_none rfl) (pv_fa T0 rfl rfl rfl (by simp; rfl)) rfl rfl ?_
  refine awt_lo rfl (wt_none rfl) (lv_cl1 T0 rfl rfl rfl (by solve | repeat' constructor) (by first | rfl | assumption)) rfl rfl rfl ?_
  refine awt_lo rfl (wt_none rfl) (lv_cla T0 rfl rfl rfl (by solve | repeat' constructor) rfl) rfl rfl rfl ?_
  refine awt_po rfl (wt_none rfl) (pv_fa T0 rfl rfl rfl (by simp; rfl)) rfl rfl ?_
  refine awt_lo rfl (wt_none rfl) (lv_cl1 T0 rfl rfl rfl (by solve | repeat' constructor) (by first | rfl | assumption)) rfl rfl rfl ?_
  refine awt_po rfl (wt_none rfl) (pv_move rfl rfl) rfl rfl ?_
  refine awt_po rfl (wt_none rfl) (pv_move rfl rfl) rfl rfl ?_
  refine awt_h (hm := []) rfl (wt_none rfl) (by solve | repeat' constructor) rfl (st_call T0 (hF) rfl rfl rfl rfl (by first | exact callee_lit | exact callee_v | exact callee_fn | assumption) (by solve | repeat' constructor) (by first | rfl | assumption) rfl ?_)
  (rintro _ rfl; refine awt_lit 29 rfl ?_)
  refine awt_po rfl (wt_none rfl) (pv_ix_own T0 rfl rfl rfl rfl (by omega) (by first | exact Int.toNat_natCast _ | rfl)) rfl rfl ?_
  refine awt_lo rfl (wt_none rfl) (lv_rp T0 rfl rfl rfl (by solve | repeat' constructor) (by first | omega | (simp; omega)) (by omega) (by first | assumption | rfl)) rfl rfl rfl ?_
  refine awt_h (hm := _) rfl (wt_none rfl) ?sub rfl (st_acall T0 (hnum) rfl rfl rfl rfl (by first | exact callee_lit | exact callee_v | exact callee_fn | assumption) (by solve | repeat' constructor) (by first | rfl | assumption) rfl (by first | ((repeat' (first | exact SubH.refl _ | apply SubH.cons | exact Pick.here | apply Pick.there)); all_goals fail) | fail) (fun b hb => hb) ?_)
  case sub => exact (by solve | repeat' constructor)
  rintro r h ⟨rfl, rfl⟩
  refine awt_n1 rfl (wt_none rfl) (pv_mul rfl rfl rfl (by first | assumption | exact wr64 (by omega))) rfl rfl rfl ?_
  refine awt_n1 rfl (wt_none rfl) (pv_add rfl rfl rfl (by first | assumption | exact wr64 (by omega))) rfl rfl rfl ?_
  refine awt_po rfl (wt_none rfl) (pv_ix_own T0 rfl rfl rfl rfl (by omega) (by first | exact Int.toNat_natCast _ | rfl)) rfl rfl ?_
  refine awt_s (md := fun _ => True) rfl (wt_none rfl) (aop_store_rp T0 rfl rfl rfl rfl rfl rfl rfl rfl (by solve | repeat' constructor) (by first | omega | (simp; omega)) (by omega) rfl trivial ?_)
  refine awe_end ?_
  simp only [cellsA]
  rw [fRows_set hjn hG]
  exact cut_n ⟨rfl, rfl⟩ (by first | ((repeat' (first | exact True.intro | refine ⟨rfl, ?_⟩)); all_goals fail) | fail) (by solve | repeat' constructor)
end
end Go.Proofs.Ytilhflfbbfeakaa
end
section
namespace Go.Proofs.Ytilhflfbbfeakaa
open Go Go.RowKit Go.Tl
set_option linter.unusedVariables false
set_option linter.unusedSimpArgs false
set_option maxRecDepth 100000
set_option maxHeartbeats 4000000
attribute [local irreducible] AWP AWL AOp PV LV AWT AWE
theorem seller_p (c : ConD) : PCall Try.prog 106 [conA c] (fun r => r = intA c.frm) := by
  refine acall_of_awp T0 Try.func106 rfl rfl rfl ?_
  repeat (first | refine awp_seq ?_ | refine awp_region_lit rfl ?_)
  refine awl_hw (wt_none rfl) (st_box rfl rfl (by first | rfl | assumption) (by first | assumption | (simp only [cellsA]; rfl)) rfl rfl ?_)
  intro g2
  repeat (first | refine awp_seq ?_ | refine awp_region_lit rfl ?_ | refine awp_ret ?_ | (show AWL _ _ _ (⟨_, .assign _, _, _, _, _⟩ :: _) _ _ _; refine awl_pw (wt_none rfl) (pv_assign rfl rfl) rfl rfl ?_) | (show AWL _ _ _ (⟨_, .load _ _, _, _, _, _⟩ :: _) _ _ _; refine awl_lw (wt_none rfl) (lv_cl1 T0 rfl rfl rfl (by solve | repeat' constructor) (by first | rfl | assumption)) rfl rfl rfl ?_) | (show AWL _ _ _ (⟨_, .fieldAddr _ _ _, _, _, _, _⟩ :: _) _ _ _; refine awl_pw (wt_none rfl) (pv_fa T0 rfl rfl rfl (by simp; rfl)) rfl rfl ?_) | refine awl_nil ?_)
  exact body_p (.cons rfl .nil) rfl
theorem buyer_p (c : ConD) : PCall Try.prog 107 [conA c] (fun r => r = intA c.to) := by
  refine acall_of_awp T0 Try.func107 rfl rfl rfl ?_
  repeat (first | refine awp_seq ?_ | refine awp_region_lit rfl ?_)
  refine awl_hw (wt_none rfl) (st_box rfl rfl (by first | rfl | assumption) (by first | assumption | (simp only [cellsA]; rfl)) rfl rfl ?_)
  intro g2
  repeat (first | refine awp_seq ?_ | refine awp_region_lit rfl ?_ | refine awp_ret ?_ | (show AWL _ _ _ (⟨_, .assign _, _, _, _, _⟩ :: _) _ _ _; refine awl_pw (wt_none rfl) (pv_assign rfl rfl) rfl rfl ?_) | (show AWL _ _ _ (⟨_, .load _ _, _, _, _, _⟩ :: _) _ _ _; refine awl_lw (wt_none rfl) (lv_cl1 T0 rfl rfl rfl (by solve | repeat' constructor) (by first | rfl | assumption)) rfl rfl rfl ?_) | (show AWL _ _ _ (⟨_, .fieldAddr _ _ _, _, _, _, _⟩ :: _) _ _ _; refine awl_pw (wt_none rfl) (pv_fa T0 rfl rfl rfl (by simp; rfl)) rfl rfl ?_) | refine awl_nil ?_)
  exact body_p (.cons rfl .nil) rfl
abbrev endsA : AV := .ag [.v (.func (.func 106) #[] #[]), intA (-1), .v (.func (.func 107) #[] #[]), intA 1]
theorem ends_p : PCall Try.prog 91 [] (fun r => r = endsA) := by
  refine acall_of_awp T0 Try.func91 rfl rfl rfl ?_
  repeat (first | refine awp_seq ?_ | refine awp_region_lit rfl ?_)
  refine awl_hw (wt_none rfl) (st_alloc T0 rfl rfl rfl rfl (by simp only [Value.cells, List.toList_toArray, List.map_cons, List.map_nil]; rfl) ?_)
  intro g0
  repeat (first | refine awp_seq ?_ | refine awp_region_lit rfl ?_ | refine awp_ret ?_ | (show AWL _ _ _ (⟨_, .build _ _, _, _, _, _⟩ :: _) _ _ _; refine awl_pw (wt_none rfl) (pv_build T0 rfl rfl rfl (by simp only [Value.cells, List.toList_toArray, List.map_cons, List.map_nil]; rfl) (by first | ((repeat' (first | exact BParts.nil | apply BParts.cons | rfl)); all_goals fail) | fail) (by first | ((repeat' (first | exact FillA.nil | exact Sp.done | apply FillA.cons | apply Sp.put | apply Sp.skip | (simp only [cellsA]; rfl) | rfl)); all_goals fail) | fail)) rfl rfl ?_) | (show AWL _ _ _ (⟨_, .build _ _, _, _, _, _⟩ :: _) _ _ _; refine awl_pw (wt_none rfl) (pv_build_arr T0 rfl rfl rfl (by simp only [Value.cells, List.toList_toArray, List.map_cons, List.map_nil]; rfl) (by first | ((repeat' (first | exact BParts.nil | apply BParts.cons | rfl)); all_goals fail) | fail) (by first | ((repeat' (first | exact FillA.nil | exact Sp.done | apply FillA.cons | apply Sp.put | apply Sp.skip | (simp only [cellsA]; rfl) | rfl)); all_goals fail) | fail)) rfl rfl ?_) | (show AWL _ _ _ (⟨_, .store _ _ _, _, _, _, _⟩ :: _) _ _ _; refine awl_hw (wt_none rfl) (st_store T0 rfl rfl rfl rfl rfl (by first | assumption | (simp only [cellsA]; rfl)) rfl rfl rfl (by solve | repeat' constructor) (by solve | repeat' constructor) trivial ?_)) | refine awl_nil ?_)
  refine body_p (.cons ⟨g0, _, _, _, _, rfl, rfl, (by solve | repeat' constructor), by simp, .inl rfl, rfl⟩ .nil) ?_
  rfl
theorem fRows_zero (n : Nat) (cs : List ConD) (f : Nat → Int) : List.replicate n [AV.v (Value.int .i64 0)] = fRows (accN cs f 0) n := by
  refine List.ext_getElem (by simp [fRows]) fun k h1 h2 => ?_
  simp [fRows, accN, intRow]
theorem acc_small {cs : List ConD} {f : Nat → Int} {k h : Nat} (hk : k ≤ 8) (hf : ∀ i, i < k → -1000000 ≤ f i ∧ f i ≤ 1000000) : -100000000 ≤ accN cs f k h ∧ accN cs f k h ≤ 100000000 := by
  have := accN_bd (cs := cs) (f := f) (B := 1000000) (by omega) k h hf
  omega
theorem net_p (b : BookD) (cp : Bool) (xs : List Int) (hv : VBook b) (hx : xs.length = b.cons.length) (hb : ∀ i, i < xs.length → -1000000 ≤ xs.getD i 0 ∧ xs.getD i 0 ≤ 1000000) :
    PCall Try.prog 25 [bookA false b, .t (intsT cp xs)] (fun r => r = .t (intsT true (netL b (fun i => xs.getD i 0)))) := by
  have hh := hv.houses
  obtain ⟨n, hn⟩ : ∃ n : Nat, b.houses = n := ⟨b.houses.toNat, by omega⟩
  have hlen := hv.len
  refine acall_of_awp T0 Try.func25 rfl rfl rfl ?_
  repeat (first | refine awp_seq ?_ | refine awp_region_lit rfl ?_)
  refine awl_hw (wt_none rfl) (st_box rfl rfl (by first | rfl | assumption) (by first | assumption | (simp only [cellsA]; rfl)) rfl rfl ?_)
  intro g2
  repeat (first | refine awp_seq ?_ | refine awp_region_lit rfl ?_ | (show AWL _ _ _ (⟨_, .assign _, _, _, _, _⟩ :: _) _ _ _; refine awl_pw (wt_none rfl) (pv_assign rfl rfl) rfl rfl ?_) | (show AWL _ _ _ (⟨_, .load _ _, _, _, _, _⟩ :: _) _ _ _; refine awl_lw (wt_none rfl) (lv_cl1 T0 rfl rfl rfl (by solve | repeat' constructor) (by first | rfl | assumption)) rfl rfl rfl ?_) | (show AWL _ _ _ (⟨_, .fieldAddr _ _ _, _, _, _, _⟩ :: _) _ _ _; refine awl_pw (wt_none rfl) (pv_fa T0 rfl rfl rfl (by simp; rfl)) rfl rfl ?_) | refine awl_nil ?_)
  rw [hn]
  refine awl_hw (wt_none rfl) (aop_make T0 rfl rfl rfl rfl rfl rfl rfl rfl (by omega) rfl ?_)
  intro ga
  repeat (first | refine awp_seq ?_ | refine awp_block ?_ | refine awp_region_lit rfl ?_ | (show AWL _ _ _ (⟨_, .assign _, _, _, _, _⟩ :: _) _ _ _; refine awl_pw (wt_none rfl) (pv_assign rfl rfl) rfl rfl ?_) | refine awl_nil ?_)
  rw [fRows_zero n b.cons (fun i => xs.getD i 0)]
  refine awp_loop (fun m s h => ∃ (k : Nat), k ≤ b.cons.length ∧ m = b.cons.length - k ∧ s = nwS cp xs g2 ga n k ∧ h = [.cl g2 24 [intA n, .t (consT false b.cons)], .rw (.slice (some ⟨ga, 0, none⟩) n n) 3 1 (fRows (accN b.cons (fun i => xs.getD i 0) k) n)]) ?_ ⟨0, Nat.zero_le _, rfl, rfl, rfl⟩ (by first | ((repeat' (first | exact True.intro | refine ⟨rfl, ?_⟩)); all_goals fail) | fail) (by solve | repeat' constructor)
  rintro m s h ⟨k, hk, rfl, rfl, rfl⟩
  by_cases hlt : k < b.cons.length
  · have hfr := hv.frm k hlt
    have hto := hv.to k hlt
    have hbk := hb k (by omega)
    have hac : ∀ h : Nat, -100000000 ≤ accN b.cons (fun i => xs.getD i 0) k h ∧ accN b.cons (fun i => xs.getD i 0) k h ≤ 100000000 := fun h => acc_small (by omega) (fun i hi => hb i (by omega))
    obtain ⟨jt, hjt⟩ : ∃ j : Nat, (b.cons.getD k default).to = j := ⟨(b.cons.getD k default).to.toNat, by omega⟩
    obtain ⟨jf, hjf⟩ : ∃ j : Nat, (b.cons.getD k default).frm = j := ⟨(b.cons.getD k default).frm.toNat, by omega⟩
    have hR : refB g2 b = .cl g2 24 [intA n, .t (consT false b.cons)] := by show Ent.cl g2 24 [intA b.houses, _] = _; rw [hn]
    repeat (first | refine awp_seq ?_ | refine awp_block ?_ | refine awp_region_lit rfl ?_ | refine awp_skip ?_ | refine then_n ?_ | refine awp_cond_t rfl (by first | rfl | assumption | exact dT (by omega)) ?_ | (show AWL _ _ _ (⟨_, .move _, _, _, _, _⟩ :: _) _ _ _; refine awl_pw (wt_none rfl) (pv_move rfl rfl) rfl rfl ?_) | (show AWL _ _ _ (⟨_, .load _ _, _, _, _, _⟩ :: _) _ _ _; refine awl_lw (wt_none rfl) (lv_cl1 T0 rfl rfl rfl (by solve | repeat' constructor) (by first | rfl | assumption)) rfl rfl rfl ?_) | (show AWL _ _ _ (⟨_, .fieldAddr _ _ _, _, _, _, _⟩ :: _) _ _ _; refine awl_pw (wt_none rfl) (pv_fa T0 rfl rfl rfl (by simp; rfl)) rfl rfl ?_) | (show AWL _ _ _ (⟨_, .binOp .lss _ _ _ _, _, _, _, _⟩ :: _) _ _ _; refine awl_pw (wt_none rfl) (pv_lss rfl rfl rfl) rfl rfl ?_) | (show AWL _ _ _ (⟨_, .call ⟨.builtin .len, _, _⟩, _, _, _, _⟩ :: _) _ _ _; refine awl_pw (wt_none rfl) (pv_len_t T0 rfl rfl rfl) rfl rfl ?_) | refine awl_nil ?_)
    refine awp_cut _ (awp_weak (by first | ((repeat' (first | exact True.intro | refine ⟨rfl, ?_⟩)); all_goals fail) | fail) (by rw [hR]; (solve | repeat' constructor)) (net_5 (b := b) (xs := xs) (cp := cp) (g2 := g2) (ga := ga) (n := n) (k := k) (j := jt) (F := accN b.cons (fun i => xs.getD i 0) k) (G := fun h => accN b.cons (fun i => xs.getD i 0) k h + (if (b.cons.getD k default).to = (h : Int) then xs.getD k 0 else 0)) hlt (by omega) hjt (by omega) (by have := hac jt; omega) (by omega) (fun q hq => ?_) rfl)) ?_
    · by_cases e : q = jt
      · subst e; rw [if_pos hjt, if_pos rfl]
      · rw [if_neg (by omega), if_neg e, Int.add_zero]
    rintro s h ⟨rfl, rfl⟩
    rw [hR]
    skip
    refine awp_cutB _ (awp_weak (by first | ((repeat' (first | exact True.intro | refine ⟨rfl, ?_⟩)); all_goals fail) | fail) (by rw [hR]; (solve | repeat' constructor)) (net_6 (b := b) (xs := xs) (cp := cp) (g2 := g2) (ga := ga) (n := n) (k := k) (j := jf) (F := fun h => accN b.cons (fun i => xs.getD i 0) k h + (if (b.cons.getD k default).to = (h : Int) then xs.getD k 0 else 0)) (G := accN b.cons (fun i => xs.getD i 0) (k + 1)) hlt (by omega) hjf (by omega) (by have := hac jf; show _ ≤ accN _ _ k jf + _ ∧ accN _ _ k jf + _ ≤ _; split <;> omega) (by omega) (fun q hq => ?_) rfl)) ?_
    · show accN _ _ k q + _ - _ = _
      by_cases e : q = jf
      · subst e; rw [if_pos rfl, if_pos hjf]
      · rw [if_neg e, if_neg (c := (b.cons.getD k default).frm = (q : Int)) (by omega), Int.sub_zero]
    rintro s h ⟨rfl, rfl⟩
    rw [hR]
    repeat (first | refine awp_region_lit rfl ?_ | (show AWL _ _ _ (⟨_, .move _, _, _, _, _⟩ :: _) _ _ _; refine awl_pw (wt_none rfl) (pv_move rfl rfl) rfl rfl ?_) | (show AWL _ _ _ (⟨_, .assign _, _, _, _, _⟩ :: _) _ _ _; refine awl_pw (wt_none rfl) (pv_assign rfl rfl) rfl rfl ?_) | (show AWL _ _ _ (⟨_, .binOp .add _ _ _ _, _, _, _, _⟩ :: _) _ _ _; refine awl_pw (wt_none rfl) (pv_add rfl rfl rfl (by first | assumption | exact wr64 (by omega))) rfl rfl ?_) | refine awl_nil ?_)
    refine rnd_n _ _ _ ?_ ⟨k + 1, hlt, rfl, rfl, rfl⟩ (by first | ((repeat' (first | exact True.intro | refine ⟨rfl, ?_⟩)); all_goals fail) | fail) (by solve | repeat' constructor)
    omega
  obtain rfl : k = b.cons.length := by omega
  have hnl : (netL b (fun i => xs.getD i 0)).length = n := by simp [netL, hn]
  refine awp_ghost (ghost_freeze (E := 3) (sz := 1) (n := (netL b (fun i => xs.getD i 0)).length) (rows := fRows (accN b.cons (fun i => xs.getD i 0) b.cons.length) n) (d := 5) (fun q => [.sc (.int .i64 ((netL b (fun i => xs.getD i 0)).getD q 0))]) (by solve | repeat' constructor) rfl (by rw [fRows_len, hnl]) (by rw [hnl]; exact fRows_tree (by simp [netL, hn]))) ?_
  repeat (first | refine awp_seq ?_ | refine awp_region_lit rfl ?_ | refine awp_exit ?_ | refine awp_ret ?_ | refine then_n ?_ | refine awp_cond_f rfl (by first | rfl | assumption | exact dF (by omega)) ?_ | (show AWL _ _ _ (⟨_, .move _, _, _, _, _⟩ :: _) _ _ _; refine awl_pw (wt_none rfl) (pv_move rfl rfl) rfl rfl ?_) | (show AWL _ _ _ (⟨_, .assign _, _, _, _, _⟩ :: _) _ _ _; refine awl_pw (wt_none rfl) (pv_assign rfl rfl) rfl rfl ?_) | (show AWL _ _ _ (⟨_, .load _ _, _, _, _, _⟩ :: _) _ _ _; refine awl_lw (wt_none rfl) (lv_cl1 T0 rfl rfl rfl (by solve | repeat' constructor) (by first | rfl | assumption)) rfl rfl rfl ?_) | (show AWL _ _ _ (⟨_, .fieldAddr _ _ _, _, _, _, _⟩ :: _) _ _ _; refine awl_pw (wt_none rfl) (pv_fa T0 rfl rfl rfl (by simp; rfl)) rfl rfl ?_) | (show AWL _ _ _ (⟨_, .binOp .lss _ _ _ _, _, _, _, _⟩ :: _) _ _ _; refine awl_pw (wt_none rfl) (pv_lss rfl rfl rfl) rfl rfl ?_) | (show AWL _ _ _ (⟨_, .call ⟨.builtin .len, _, _⟩, _, _, _, _⟩ :: _) _ _ _; refine awl_pw (wt_none rfl) (pv_len_t T0 rfl rfl rfl) rfl rfl ?_) | refine awl_nil ?_)
  exact body_p (.cons rfl .nil) rfl
end Go.Proofs.Ytilhflfbbfeakaa
end
section
namespace Go.Proofs.Ytilhflfbbfeakaa
open Go Go.RowKit Go.Tl
set_option linter.unusedVariables false
set_option linter.unusedSimpArgs false
set_option maxRecDepth 100000
set_option maxHeartbeats 4000000
attribute [local irreducible] AWP AWL AOp PV LV AWT AWE
end Go.Proofs.Ytilhflfbbfeakaa
end
section
namespace Go.Proofs.Ytilhflfbbfeakaa
open Go Go.RowKit Go.Tl
set_option linter.unusedVariables false
set_option linter.unusedSimpArgs false
set_option maxRecDepth 100000
set_option maxHeartbeats 4000000
attribute [local irreducible] AWP AWL AOp PV LV AWT AWE
def numF (b : BookD) (i : Nat) : Int := (b.cons.getD i default).num
end Go.Proofs.Ytilhflfbbfeakaa
end
section
namespace Go.Proofs.Ytilhflfbbfeakaa
open Go Go.RowKit Go.Tl
set_option linter.unusedVariables false
set_option linter.unusedSimpArgs false
set_option maxRecDepth 100000
set_option maxHeartbeats 4000000
attribute [local irreducible] AWP AWL AOp PV LV AWT AWE
theorem accN_congr {cs : List ConD} {f g : Nat → Int} : ∀ (k h : Nat), (∀ i, i < k → f i = g i) → accN cs f k h = accN cs g k h
  | 0, h, _ => rfl
  | k + 1, h, hf => by simp only [accN]; rw [accN_congr k h (fun i hi => hf i (by omega)), hf k (by omega)]
theorem netL_len {b : BookD} {f : Nat → Int} : (netL b f).length = b.houses.toNat := by simp [netL]
def sumR (n : Nat) (F : Nat → Int) : Int := sumI ((List.range n).map F)
theorem sumR_succ (n : Nat) (F : Nat → Int) : sumR (n + 1) F = sumR n F + F n := by simp [sumR, List.range_succ, sumI_append, sumI]
theorem sumR_congr {n : Nat} {F G : Nat → Int} (h : ∀ i, i < n → F i = G i) : sumR n F = sumR n G := by
  unfold sumR; rw [List.map_congr_left fun i hi => h i (List.mem_range.1 hi)]
theorem fault_of {b : BookD} (hv : VBook b) : faultN b = 0 := by
  have hh := hv.houses
  have hl := hv.len
  have hall : b.cons.all (conB b.houses) = true := (all_getD (d := default)).2 fun k hk => by
    have h1 := hv.frm k hk
    have h2 := hv.to k hk
    have h3 := hv.ne k hk
    have h4 := hv.num k hk
    have h5 := hv.price k hk
    simp only [conB, Bool.and_eq_true, inB_iff, decide_eq_true_eq]
    exact ⟨by omega, by omega, h3, h4, h5⟩
  unfold faultN
  rw [if_neg (by omega), if_pos ⟨hh.1, hall⟩]
def readyB (b : BookD) : Bool := decide (b.cons.length ≤ 12) && decide (faultN b = 0)
theorem ready_w {b : BookD} {r : Bool} (hl : b.cons.length ≤ 9223372036854775807) (h : readyB b = r) : PCall Try.prog 41 [bookA false b] (fun x => x = boolA r) := by
  subst h
  refine acall_of_awp T0 Try.func41 rfl rfl rfl ?_
  unfold readyB
  repeat (first | refine awp_seq ?_ | refine awp_region_lit rfl ?_)
  refine awl_hw (by first | exact wt_none rfl | exact wt_some' rfl rfl rfl rfl (by first | rfl | assumption | exact dT (by omega) | exact dF (by omega))) (st_box rfl rfl (by first | rfl | assumption) (by first | assumption | (simp only [cellsA]; rfl)) rfl rfl ?_)
  intro g1
  repeat (first | refine awp_seq ?_ | refine awp_region_lit rfl ?_ | ((first | (show AWL _ _ _ (⟨_, .assign _, _, _, _, _⟩ :: _) _ _ _; refine awl_pw ?w (pv_assign rfl rfl) rfl rfl ?_) | (show AWL _ _ _ (⟨_, .load _ _, _, _, _, _⟩ :: _) _ _ _; refine awl_lw ?w (lv_cla T0 rfl rfl rfl (by solve | repeat' constructor) rfl) rfl rfl rfl ?_)); case w => first | exact wt_none rfl | exact wt_some' rfl rfl rfl rfl (by first | rfl | assumption | exact dT (by omega) | exact dF (by omega))) | refine awl_nil ?_)
  by_cases hth : b.cons.length ≤ 12
  · refine awl_hw (by first | exact wt_none rfl | exact wt_some' rfl rfl rfl rfl (by first | rfl | assumption | exact dT (by omega) | exact dF (by omega))) (st_call T0 (thin_q hl (decide_eq_true hth)) rfl rfl rfl rfl (by first | exact callee_lit | exact callee_v | exact callee_fn | assumption) (by solve | repeat' constructor) (by first | rfl | assumption) rfl ?_)
    rintro _ rfl
    rw [decide_eq_true hth]
    repeat (first | ((first | (show AWL _ _ _ (⟨_, .move _, _, _, _, _⟩ :: _) _ _ _; refine awl_pw ?w (pv_move rfl rfl) rfl rfl ?_) | (show AWL _ _ _ (⟨_, .load _ _, _, _, _, _⟩ :: _) _ _ _; refine awl_lw ?w (lv_cla T0 rfl rfl rfl (by solve | repeat' constructor) rfl) rfl rfl rfl ?_)); case w => first | exact wt_none rfl | exact wt_some' rfl rfl rfl rfl (by first | rfl | assumption | exact dT (by omega) | exact dF (by omega))))
    refine awl_hw (by first | exact wt_none rfl | exact wt_some' rfl rfl rfl rfl (by first | rfl | assumption | exact dT (by omega) | exact dF (by omega))) (st_call T0 (fault_p false b (by omega)) rfl rfl rfl rfl (by first | exact callee_lit | exact callee_v | exact callee_fn | assumption) (by solve | repeat' constructor) (by first | rfl | assumption) rfl ?_)
    rintro _ rfl
    repeat (first | refine awp_ret ?_ | ((first | (show AWL _ _ _ (⟨_, .assign _, _, _, _, _⟩ :: _) _ _ _; refine awl_pw ?w (pv_assign rfl rfl) rfl rfl ?_) | (show AWL _ _ _ (⟨_, .binOp .eql _ _ _ _, _, _, _, _⟩ :: _) _ _ _; refine awl_pw ?w (pv_eql rfl rfl rfl) rfl rfl ?_) | (show AWL _ _ _ (⟨_, .pick _ _ _, _, _, _, _⟩ :: _) _ _ _; refine awl_pw ?w (pv_pick_t rfl rfl (by first | rfl | assumption | exact dT (by omega) | exact dF (by omega)) rfl) rfl rfl ?_)); case w => first | exact wt_none rfl | exact wt_some' rfl rfl rfl rfl (by first | rfl | assumption | exact dT (by omega) | exact dF (by omega))) | refine awl_nil ?_)
    exact body_p (.cons rfl .nil) rfl
  · refine awl_hw (by first | exact wt_none rfl | exact wt_some' rfl rfl rfl rfl (by first | rfl | assumption | exact dT (by omega) | exact dF (by omega))) (st_call T0 (thin_q hl (decide_eq_false hth)) rfl rfl rfl rfl (by first | exact callee_lit | exact callee_v | exact callee_fn | assumption) (by solve | repeat' constructor) (by first | rfl | assumption) rfl ?_)
    rintro _ rfl
    rw [decide_eq_false hth]
    repeat (first | refine awp_ret ?_ | ((first | (show AWL _ _ _ (⟨_, .move _, _, _, _, _⟩ :: _) _ _ _; refine awl_pw ?w (pv_move rfl rfl) rfl rfl ?_) | (show AWL _ _ _ (⟨_, .assign _, _, _, _, _⟩ :: _) _ _ _; refine awl_pw ?w (pv_assign rfl rfl) rfl rfl ?_) | (show AWL _ _ _ (⟨_, .load _ _, _, _, _, _⟩ :: _) _ _ _; refine awl_lw ?w (lv_cla T0 rfl rfl rfl (by solve | repeat' constructor) rfl) rfl rfl rfl ?_) | (show AWL _ _ _ (⟨_, .pick _ _ _, _, _, _, _⟩ :: _) _ _ _; refine awl_pw ?w (pv_pick_f rfl rfl (by first | rfl | assumption | exact dT (by omega) | exact dF (by omega)) rfl) rfl rfl ?_)); case w => first | exact wt_none rfl | exact wt_some' rfl rfl rfl rfl (by first | rfl | assumption | exact dT (by omega) | exact dF (by omega))) | refine awl_sk (wf_some rfl rfl rfl rfl (by first | rfl | assumption | exact dT (by omega) | exact dF (by omega))) rfl rfl ?_ | refine awl_nil ?_)
    exact body_p (.cons rfl .nil) rfl
theorem ready_v {b : BookD} (h : readyB b = true) : VBook b ∧ faultN b = 0 := by
  simp only [readyB, Bool.and_eq_true, decide_eq_true_eq] at h
  exact ⟨vbook h.2, h.2⟩
theorem consT_le {cp : Bool} (cs : List ConD) : TrLe (consT cp cs) (consT false cs) := .sl (fun h => by cases h) (fun k hk => ⟨rfl, fun j x x' h1 h2 => by rw [h1] at h2; cases h2; exact .refl _⟩)
theorem bookA_le {cp : Bool} (b : BookD) : AVLe (bookA cp b) (bookA false b) := .ag (.cons (.refl _) (.cons (.t (consT_le _)) .nil))
theorem book_w (cp : Bool) (b : BookD) (hl : b.cons.length ≤ 1000) : PCall Try.prog 19 [bookA cp b] (fun r => r = bookA true b) := pcall_weak (book_p b hl) (.cons (bookA_le _) .nil)
/-- no more different numbers than there are numbers -/
theorem pigeon : ∀ (h n : Nat) (f : Nat → Nat), (∀ i, i < n → f i < h) → (∀ i j, i < n → j < i → f j ≠ f i) → n ≤ h
  | 0, n, f, hb, _ => by
    rcases Nat.eq_zero_or_pos n with e | e
    · omega
    · exact absurd (hb 0 e) (Nat.not_lt_zero _)
  | h + 1, n, f, hb, hd => by
    by_cases ex : ∃ i, i < n ∧ f i = h
    · obtain ⟨i0, hi0, e0⟩ := ex
      have := pigeon h (n - 1) (fun i => if i < i0 then f i else f (i + 1)) (fun i hi => by
        split
        · have := hb i (by omega)
          have : f i ≠ f i0 := hd i0 i hi0 (by omega)
          omega
        · have := hb (i + 1) (by omega)
          have : f i0 ≠ f (i + 1) := hd (i + 1) i0 (by omega) (by omega)
          omega) (fun i j hi hj => by
        split <;> split <;> first | omega | exact hd _ _ (by omega) (by omega))
      omega
    · have := pigeon h n f (fun i hi => by
        have := hb i hi
        have : f i ≠ h := fun e => ex ⟨i, hi, e⟩
        omega) hd
      omega
theorem acc_add {cs : List ConD} {f g : Nat → Int} (h : Nat) : ∀ k, accN cs (fun i => f i + g i) k h = accN cs f k h + accN cs g k h
  | 0 => rfl
  | k + 1 => by
    simp only [accN]
    rw [acc_add h k]
    split <;> split <;> omega
theorem acc_zero {cs : List ConD} (h : Nat) : ∀ k, accN cs (fun _ => 0) k h = 0
  | 0 => rfl
  | k + 1 => by
    simp only [accN]
    rw [acc_zero h k]
    split <;> split <;> rfl
theorem acc_one {cs : List ConD} {x : Nat} {v : Int} (h : Nat) : ∀ k, accN cs (fun i => if (x : Int) = (i : Int) then v else 0) k h = if x < k then (if (cs.getD x default).to = (h : Int) then v else 0) - (if (cs.getD x default).frm = (h : Int) then v else 0) else 0
  | 0 => by simp [accN]
  | k + 1 => by
    simp only [accN]
    rw [acc_one h k]
    by_cases e : x = k
    · subst e
      rw [if_neg (Nat.lt_irrefl _), if_pos (Nat.lt_succ_self _), if_pos rfl]
      omega
    · rw [if_neg (c := (x : Int) = (k : Int)) (by omega)]
      simp only [ite_self, Int.add_zero, Int.sub_zero]
      by_cases c : x < k
      · rw [if_pos c, if_pos (c := x < k + 1) (by omega)]
      · rw [if_neg c, if_neg (c := x < k + 1) (by omega)]
theorem sumR_shift (F : Nat → Int) : ∀ n, sumR n (fun j => F (j + 1)) + F 0 = sumR (n + 1) F
  | 0 => by simp [sumR, sumI]
  | n + 1 => by
    rw [sumR_succ, sumR_succ (n + 1), ← sumR_shift F n]
    omega
theorem sumR_turn {n : Nat} (hn : 1 ≤ n) (F : Nat → Int) : sumR n (fun j => F ((j + 1) % n)) = sumR n F := by
  obtain ⟨m, rfl⟩ : ∃ m, n = m + 1 := ⟨n - 1, by omega⟩
  rw [sumR_succ, ← sumR_shift F m, Nat.mod_self]
  congr 1
  exact sumR_congr fun i hi => by rw [Nat.mod_eq_of_lt (by omega)]
end Go.Proofs.Ytilhflfbbfeakaa
end
section
section
namespace Go.Proofs.Ytilhflfbbfeakaa
open Go Go.RowKit Go.Tl
set_option linter.unusedVariables false
set_option linter.unusedSimpArgs false
abbrev Arc := Nat × Bool
/-- where an arc begins, where it leads to, what it costs -/
def aF (b : BookD) (a : Arc) : Nat := if a.2 then (b.cons.getD a.1 default).to.toNat else (b.cons.getD a.1 default).frm.toNat
def aT (b : BookD) (a : Arc) : Nat := if a.2 then (b.cons.getD a.1 default).frm.toNat else (b.cons.getD a.1 default).to.toNat
def aC (a : Arc) : Int := if a.2 then 1 else -1
/-- the arcs along which something is left -/
def arcsL (f : Arc → Int) : Nat → List Arc
  | 0 => []
  | k + 1 => (arcsL f k ++ if 0 < f (k, false) then [(k, false)] else []) ++ if 0 < f (k, true) then [(k, true)] else []
/-- one arc's step -/
def sh1 (b : BookD) (d : Nat → Int) (s : (Nat → Int) × (Nat → Arc)) (a : Arc) : (Nat → Int) × (Nat → Arc) :=
  if d (aF b a) + aC a < s.1 (aT b a) then (fun v => if v = aT b a then d (aF b a) + aC a else s.1 v, fun v => if v = aT b a then a else s.2 v) else s
def shL (b : BookD) (d : Nat → Int) (bb : Nat → Arc) (L : List Arc) : (Nat → Int) × (Nat → Arc) := L.foldl (sh1 b d) (d, bb)
structure ShInv (b : BookD) (d : Nat → Int) (bb : Nat → Arc) (L : List Arc) (s : (Nat → Int) × (Nat → Arc)) : Prop where
  le : ∀ v, s.1 v ≤ d v
  ok : ∀ a ∈ L, s.1 (aT b a) ≤ d (aF b a) + aC a
  how : ∀ v, (s.1 v = d v ∧ s.2 v = bb v) ∨ (s.1 v < d v ∧ s.2 v ∈ L ∧ aT b (s.2 v) = v ∧ s.1 v = d (aF b (s.2 v)) + aC (s.2 v))
/-- the rounds -/
def bfR (b : BookD) (L : List Arc) : Nat → (Nat → Int) × (Nat → Arc)
  | 0 => (fun _ => 0, fun _ => (0, false))
  | k + 1 => shL b (bfR b L k).1 (bfR b L k).2 L
/-- the last round in which a distance became shorter -/
def bfT (b : BookD) (L : List Arc) : Nat → Nat → Nat
  | 0, _ => 0
  | k + 1, v => if (bfR b L (k + 1)).1 v < (bfR b L k).1 v then k + 1 else bfT b L k v
section
variable {b : BookD} {L : List Arc}
structure BfInv (b : BookD) (L : List Arc) (k : Nat) : Prop where
  fe : ∀ a ∈ L, k = 0 ∨ bfT b L k (aF b a) = k ∨ (bfR b L k).1 (aT b a) ≤ (bfR b L k).1 (aF b a) + aC a
  arc : ∀ v, 0 < bfT b L k v → (bfR b L k).2 v ∈ L ∧ aT b ((bfR b L k).2 v) = v ∧ bfT b L k v ≤ bfT b L k (aF b ((bfR b L k).2 v)) + 1 ∧
    (bfR b L k).1 (aF b ((bfR b L k).2 v)) + aC ((bfR b L k).2 v) ≤ (bfR b L k).1 v ∧
    (bfT b L k v ≤ bfT b L k (aF b ((bfR b L k).2 v)) → (bfR b L k).1 (aF b ((bfR b L k).2 v)) + aC ((bfR b L k).2 v) + 1 ≤ (bfR b L k).1 v)
end
theorem least {P : Nat → Prop} : ∀ n, P n → ∃ m, m ≤ n ∧ P m ∧ ∀ k, k < m → ¬ P k := fun n => by
  induction n using Nat.strongRecOn with
  | _ n ih =>
    intro h
    by_cases ex : ∃ k, k < n ∧ P k
    · obtain ⟨k, hk, hP⟩ := ex
      obtain ⟨m, h1, h2, h3⟩ := ih k hk hP
      exact ⟨m, by omega, h2, h3⟩
    · exact ⟨n, Nat.le_refl _, h, fun k hk hP => ex ⟨k, hk, hP⟩⟩
/-- arcs that lead in a ring -/
structure CycA (b : BookD) (L : List Arc) (arc : Nat → Arc) (c : Nat → Nat) (q : Nat) : Prop where
  pos : 1 ≤ q
  mem : ∀ m, m < q → arc m ∈ L
  to : ∀ m, m < q → aT b (arc m) = c m
  frm : ∀ m, m < q → aF b (arc m) = c (m + 1)
  back : c q = c 0
  ne : ∀ m k, m < q → k < m → c k ≠ c m
  cost : sumR q (fun m => aC (arc m)) < 0
end Go.Proofs.Ytilhflfbbfeakaa
end
section
namespace Go.Proofs.Ytilhflfbbfeakaa
open Go Go.RowKit Go.Tl
set_option linter.unusedVariables false
set_option linter.unusedSimpArgs false
/-- how much more can be set off along an arc -/
def fL (cap off : Nat → Int) (a : Arc) : Int := if a.2 then off a.1 else cap a.1 - off a.1
/-- a setting off: each house gets what it gives -/
structure OffF (b : BookD) (cap off : Nat → Int) : Prop where
  bd : ∀ i, i < b.cons.length → 0 ≤ off i ∧ off i ≤ cap i
  net : ∀ h, accN b.cons off b.cons.length h = 0
/-! ### Heights -/
/-- what heights prove -/
def provF (b : BookD) (hs : Nat → Int) : Nat → Int
  | 0 => 0
  | k + 1 => provF b hs k + (b.cons.getD k default).num * max 0 (1 + hs (b.cons.getD k default).frm.toNat - hs (b.cons.getD k default).to.toNat)
end Go.Proofs.Ytilhflfbbfeakaa
end
section
namespace Go.Proofs.Ytilhflfbbfeakaa
open Go Go.RowKit Go.Tl
set_option linter.unusedVariables false
set_option linter.unusedSimpArgs false
def arrI (d : Nat → Int) (n : Nat) : List AV := (List.range n).map fun i => intA (d i)
theorem arrI_len (d : Nat → Int) (n : Nat) : (arrI d n).length = n := by simp [arrI]
theorem arrI_at {d : Nat → Int} {n k : Nat} (h : k < n) : (arrI d n)[k]? = some (intA (d k)) := by simp [arrI, h]
theorem arrI_set {d d' : Nat → Int} {n k : Nat} {v : Int} (h : k < n) (hd : ∀ q, q < n → d' q = if q = k then v else d q) : spA (arrI d n) k [intA v] = arrI d' n := by
  have e : spA (arrI d n) k [intA v] = (arrI d n).set k (intA v) := by
    unfold spA
    rw [List.set_eq_take_append_cons_drop, if_pos (by rw [arrI_len]; exact h)]
    simp
  rw [e]
  refine List.ext_getElem? fun j => ?_
  rw [List.getElem?_set]
  by_cases hj : j < n
  · rw [arrI_at (d := d') hj, hd j hj]
    by_cases c : k = j
    · subst c; rw [if_pos rfl, if_pos (by rw [arrI_len]; exact h), if_pos rfl]
    · rw [if_neg c, if_neg (fun h => c h.symm), arrI_at hj]
  · rw [List.getElem?_eq_none (l := arrI d' n) (by rw [arrI_len]; omega), List.getElem?_eq_none (l := arrI d n) (by rw [arrI_len]; omega)]
    rw [if_neg (by omega)]
section
variable {P : Program} {N : Nat} {o : Oper} {md : Nat → Prop} {s : Slots} {h : List Ent} {K : Slots → List Ent → Prop}
theorem st_arrI (T : TT P) {t g k n : Nat} {x y : Operand} {v : Int} {T' : TypeId} {d d' : Nat → Int} {h' : List Ent} (ho : o.op = .store t x y) (hx : evA s x = some (.v (.pointer (some ⟨g, k, none⟩)))) (hy : evA s y = some (intA v))
    (ht : f2 T.siz t = some (1, false)) (hd : o.dst = none) (hp : Repl h (.cl g T' (arrI d n)) (.cl g T' (arrI d' n)) h') (hk : k < n) (hd' : ∀ q, q < n → d' q = if q = k then v else d q) (hmd : md g)
    (hK : K s h') : AOp P N o md s h K := aop_store T ho hx hy ht rfl rfl rfl hd hp (by rw [arrI_len]; omega) (arrI_set hk hd') hmd hK
end
end Go.Proofs.Ytilhflfbbfeakaa
end
end
section
namespace Go.Proofs.Ytilhflfbbfeakaa
open Go Go.RowKit Go.Tl
set_option linter.unusedVariables false
set_option linter.unusedSimpArgs false
set_option maxRecDepth 100000
set_option maxHeartbeats 4000000
attribute [local irreducible] AWP AWL AOp PV LV AWT AWE
/-- a number for each contract, from 0 to its Number -/
def listedB (b : BookD) (l : List Int) : Bool := decide (l.length = b.cons.length) && (List.range l.length).all fun k => inB (l.getD k 0) 0 (b.cons.getD k default).num
/-- a setting off -/
def offB (b : BookD) (l : List Int) : Bool := listedB b l && (netL b fun i => l.getD i 0).all fun n => decide (n = 0)
end Go.Proofs.Ytilhflfbbfeakaa
end
section
namespace Go.Proofs.Ytilhflfbbfeakaa
open Go Go.RowKit Go.Tl
set_option linter.unusedVariables false
set_option linter.unusedSimpArgs false
set_option maxRecDepth 100000
set_option maxHeartbeats 4000000
attribute [local irreducible] AWP AWL AOp PV LV AWT AWE
/-- heights -/
def highB (b : BookD) (hs : List Int) : Bool := decide ((hs.length : Int) = b.houses) && hs.all fun x => inB x (-10) 10
/-- what a contract adds -/
def upN (c : ConD) (hs : List Int) : Int := c.num * max 0 (1 + hs.getD c.frm.toNat 0 - hs.getD c.to.toNat 0)
/-- what the heights prove, by the first contracts -/
def provN (b : BookD) (hs : List Int) : Nat → Int
  | 0 => 0
  | k + 1 => provN b hs k + upN (b.cons.getD k default) hs
section
variable {c : ConD} {hs : List Int} {a : Int} {cp : Bool} {g : Nat} {x : Ent} {u2 u8 : AV} {jf jt : Nat}
end
end Go.Proofs.Ytilhflfbbfeakaa
end
section
namespace Go.Proofs.Ytilhflfbbfeakaa
open Go Go.RowKit Go.Tl
set_option linter.unusedVariables false
set_option linter.unusedSimpArgs false
set_option maxRecDepth 100000
set_option maxHeartbeats 4000000
attribute [local irreducible] AWP AWL AOp PV LV AWT AWE
theorem intRows_range (l : List Int) : ((List.range l.length).map fun k => List.map AV.ofTr [Tr.sc (.int .i64 (l.getD k 0))]) = l.map intRow := by
  refine List.ext_getElem (by simp) fun k h1 h2 => ?_
  simp at h1 h2
  simp [List.getD_eq_getElem?_getD, h1, AV.ofTr, intRow]
theorem list_p (cp : Bool) (l : List Int) (hl : l.length ≤ 1000) : PCall Try.prog 47 [.t (intsT cp l)] (fun r => r = .t (intsT true l)) := by
  refine acall_of_awp T0 Try.func47 rfl rfl rfl ?_
  repeat (first | refine awp_seq ?_ | refine awp_region_lit rfl ?_ | ((first | (show AWL _ _ _ (⟨_, .move _, _, _, _, _⟩ :: _) _ _ _; refine awl_pw ?w (pv_move rfl rfl) rfl rfl ?_) | (show AWL _ _ _ (⟨_, .assign _, _, _, _, _⟩ :: _) _ _ _; refine awl_pw ?w (pv_assign rfl rfl) rfl rfl ?_)); case w => first | exact wt_none rfl | exact wt_some' rfl rfl rfl rfl (by first | rfl | assumption | exact dT (by omega) | exact dF (by omega))) | refine awl_nil ?_)
  refine awl_ghost (ghost_nilrow 3 1) ?_
  refine awl_hw (by first | exact wt_none rfl | exact wt_some' rfl rfl rfl rfl (by first | rfl | assumption | exact dT (by omega) | exact dF (by omega))) (st_appt T0 rfl rfl rfl rfl rfl rfl rfl rfl rfl (by solve | repeat' constructor) (by intro k hk u hu; simp at hu; subst hu; rfl) (by (try simp only [List.length_nil, List.length_map, List.length_append, List.length_cons]); rfl) (by first | omega | (simp; omega)) (fun _ _ => trivial) rfl ?_)
  intro a c p
  simp only [List.nil_append, Nat.zero_add]
  rw [intRows_range]
  refine awl_ghost (ghost_freeze (E := 3) (sz := 1) (n := l.length) (rows := l.map intRow) (d := 4) (fun q => [.sc (.int .i64 (l.getD q 0))]) (by solve | repeat' constructor) rfl (by simp) (intRows_tree _)) ?_
  repeat (first | refine awp_ret ?_ | ((first | (show AWL _ _ _ (⟨_, .assign _, _, _, _, _⟩ :: _) _ _ _; refine awl_pw ?w (pv_assign rfl rfl) rfl rfl ?_)); case w => first | exact wt_none rfl | exact wt_some' rfl rfl rfl rfl (by first | rfl | assumption | exact dT (by omega) | exact dF (by omega))) | refine awl_nil ?_)
  exact body_p (.cons rfl .nil) rfl
section
variable {b : BookD} {l : List Int} {g3 g4 : Nat} {cp c1 : Bool} {many ab : Int}
end
end Go.Proofs.Ytilhflfbbfeakaa
end
section
section
namespace Go.Tl
open Go Go.RowKit
set_option linter.unusedVariables false
set_option linter.unusedSimpArgs false
/-- where a key lies among the entries -/
def findG {κ : Type} [DecidableEq κ] (k : κ) : List κ → List MapEntry → Nat → Option (Nat × Value)
  | k' :: ks, e :: es, i => if k = k' then some (i, e.val) else findG k ks es (i + 1)
  | _, _, _ => none
inductive KRel {κ : Type} (kv : κ → Value) : List κ → List MapEntry → Prop where
  | nil : KRel kv [] []
  | cons {k : κ} {e : MapEntry} {ks : List κ} {es : List MapEntry} (hk : e.key = kv k) (h : KRel kv ks es) : KRel kv (k :: ks) (e :: es)
structure MG (P : Program) (mt : TypeId) (κ : Type) [DecidableEq κ] where
  kt : TypeId
  vt : TypeId
  z : Value
  zA : AV
  kv : κ → Value
  ka : κ → AV
  hm : P.underlying mt = some (.map kt vt)
  inv : ∀ w S k v, VRel w S (ka k) v → v = kv k
  hz : ∀ w, (zeroValue vt).run P w = .ok z w
  hzA : ∀ w S, VRel w S zA z
  chk : ∀ e k w, (Instr.checkKey e 10000 kt (kv k)).run P w = .ok () w
  bits : ∀ k, Instr.sameBits 10000 (kv k) (kv k) = true
  find : ∀ k ks es w, KRel kv ks es → (Instr.findKey kt (kv k) es).run P w = .ok (findG k ks es 0) w
section
variable {κ : Type} [DecidableEq κ]
inductive GRel (w : World) (S : Nat → Prop) (kv : κ → Value) : List (κ × AV) → List MapEntry → Prop where
  | nil : GRel w S kv [] []
  | cons {k : κ} {y : AV} {e : MapEntry} {r : List (κ × AV)} {es : List MapEntry} (hk : e.key = kv k) (hv : VRel w S y e.val) (h : GRel w S kv r es) : GRel w S kv ((k, y) :: r) (e :: es)
omit [DecidableEq κ] in
theorem GRel.mono {w w' : World} {S S' : Nat → Prop} {kv : κ → Value} {l : List (κ × AV)} {es : List MapEntry} (h : GRel w S kv l es) (hS : ∀ b, S b → S' b) (hw : ∀ b, S b → w'.heap[b]? = w.heap[b]?) : GRel w' S' kv l es := by
  induction h with
  | nil => exact .nil
  | cons hk hv _ ih => exact .cons hk (hv.mono hS hw) ih
omit [DecidableEq κ] in
theorem GRel.keys {w : World} {S : Nat → Prop} {kv : κ → Value} {l : List (κ × AV)} {es : List MapEntry} (h : GRel w S kv l es) : KRel kv (l.map (·.1)) es := by
  induction h with
  | nil => exact .nil
  | cons hk _ _ ih => exact .cons hk ih
omit [DecidableEq κ] in
theorem GRel.push {w : World} {S : Nat → Prop} {kv : κ → Value} {l : List (κ × AV)} {es : List MapEntry} (h : GRel w S kv l es) {ks : κ} {y : AV} {e : MapEntry} (hk : e.key = kv ks) (hv : VRel w S y e.val) : GRel w S kv (l ++ [(ks, y)]) (es ++ [e]) := by
  induction h with
  | nil => exact .cons hk hv .nil
  | cons b c _ ih => exact .cons b c ih
variable {P : Program} {mt : TypeId} {N : Nat} {o : Oper} {md : Nat → Prop} {s : Slots} {h : List Ent} {K : Slots → List Ent → Prop}
end
end Go.Tl
end
section
namespace Go.Tl
open Go Go.RowKit
set_option linter.unusedVariables false
set_option linter.unusedSimpArgs false
section
variable {κ : Type} [DecidableEq κ]
structure Borns (es : List MapEntry) (clock : Nat) : Prop where
  lt : ∀ e ∈ es, e.born < clock
  nd : (es.map (·.born)).Nodup
variable {P : Program} {mt : TypeId} {N : Nat} {o : Oper} {md : Nat → Prop} {s : Slots} {h : List Ent} {K : Slots → List Ent → Prop}
end
end Go.Tl
end
section
namespace Go.Proofs.Ytilhflfbbfeakaa
open Go Go.RowKit Go.Tl
set_option linter.unusedVariables false
set_option linter.unusedSimpArgs false
def ikV (k : Int) : Value := .int .i64 k
theorem now_i (k : Int) : ∀ (ks : List Int) (es : List MapEntry) (j : Nat), KRel ikV ks es → Instr.findNow (.int .i64) (ikV k) es j = some (findG k ks es j)
  | _, _, j, .nil => rfl
  | k' :: ks, e :: es, j, .cons hk h => by
    simp only [Instr.findNow, hk, ikV, Instr.sameNow, if_true, findG]
    have ih := now_i k ks es (j + 1) h
    by_cases c : k = k'
    · subst c; simp
    · rw [if_neg c]
      have : (k == k') = false := by simpa using c
      simp only [this]
      exact ih
noncomputable def Mi : MG Try.prog 124 Int where
  kt := 3
  vt := 4
  z := .bool false
  zA := boolA false
  kv := ikV
  ka := intA
  hm := by kernel_rfl
  inv := fun w S k v h => h.lit_inv
  hz := fun w => by kernel_rfl
  hzA := fun w S => .v _
  chk := fun e k w => by kernel_rfl
  bits := fun k => by simp [ikV, Instr.sameBits]
  find := fun k ks es w h => by
    have h3 : Try.prog.underlying 3 = some (.int .i64) := Try.underlying3
    simp [Instr.findKey, run_underlying h3, now_i k ks es 0 h]
def akV (k : Nat × Bool) : Value := .agg #[.int .i64 k.1, .bool k.2]
theorem akey_ok (e : Bool) (a : Int) (b : Bool) (w : World) : (Instr.checkKey e 10000 118 (.agg #[.int .i64 a, .bool b])).run Try.prog w = .ok () w := by kernel_rfl
theorem eq_arc (a c : Int) (b d : Bool) (w : World) : (Op.equal 118 (.agg #[.int .i64 a, .bool b]) (.agg #[.int .i64 c, .bool d])).run Try.prog w = .ok (a == c && b == d) w := by
  have h1 : Try.prog.stoodInHeld 118 = false := by kernel_rfl
  have h2 : Try.prog.underlying 118 = some (.struct (Try.prog.fieldsOf 118)) := by kernel_rfl
  have hfo : (Try.prog.fieldsOf 118).toList = (match Try.prog.underlying 118 with | some (.struct fs) => fs.toList | _ => []) := by kernel_rfl
  unfold Op.equal Op.maxDepth
  rw [run_equalIn_struct w 9999 118 _ _ h2 h1, hfo, Try.underlying118]
  have p1 : ∀ (x y : Value) (w : World), (part 3 #[x, y] 0).run Try.prog w = .ok x w := fun x y w => by kernel_rfl
  have p2 : ∀ (x y : Value) (w : World), (part 4 #[x, y] 1).run Try.prog w = .ok y w := fun x y w => by kernel_rfl
  have q : ∀ (a b : Int) (w : World), (Op.equalIn 9999 3 (.int .i64 a) (.int .i64 b)).run Try.prog w = .ok (a == b) w := fun a b w => run_equalIn_int w 9998 3 .i64 .i64 a b Try.underlying3
  have q2 : ∀ (a b : Bool) (w : World), (Op.equalIn 9999 4 (.bool a) (.bool b)).run Try.prog w = .ok (a == b) w := fun a b w => run_equalIn_bool w 9998 4 a b Try.underlying4
  cases h1 : (a == c) <;> cases h2 : (b == d) <;> simp [Op.eqFields, p1, p2, q, q2, h1, h2]
theorem ask_a (k : Nat × Bool) : ∀ (ks : List (Nat × Bool)) (es : List MapEntry) (j : Nat) (w : World), KRel akV ks es → (Instr.findAsking 118 (akV k) es j).run Try.prog w = .ok (findG k ks es j) w
  | _, _, j, w, .nil => by simp [Instr.findAsking, findG]
  | k' :: ks, e :: es, j, w, .cons hk h => by
    have ih := ask_a k ks es (j + 1) w h
    have he : ∀ w, (Op.equal 118 (akV k) e.key).run Try.prog w = .ok (decide (k = k')) w := fun w => by
      rw [hk]
      have := eq_arc k.1 k'.1 k.2 k'.2 w
      show (Op.equal 118 (.agg #[.int .i64 k.1, .bool k.2]) (.agg #[.int .i64 k'.1, .bool k'.2])).run Try.prog w = _
      rw [this]
      obtain ⟨a, b⟩ := k
      obtain ⟨c, d⟩ := k'
      by_cases e1 : a = c
      · subst e1
        by_cases e2 : b = d
        · subst e2; simp
        · simp [e2]
      · have : ((a : Int) == (c : Int)) = false := beq_false_of_ne (fun x => e1 (Int.ofNat.inj x))
        simp [this, e1]
    by_cases c : k = k'
    · subst c; simp [Instr.findAsking, he, findG]
    · simp [Instr.findAsking, he, findG, c, ih]
noncomputable def Ma : MG Try.prog 114 (Nat × Bool) where
  kt := 118
  vt := 3
  z := .int .i64 0
  zA := intA 0
  kv := akV
  ka := fun k => .ag [intA k.1, boolA k.2]
  hm := by kernel_rfl
  inv := fun w S k v h => by
    obtain ⟨vs, rfl, hv⟩ := ag_inv h
    obtain ⟨v1, us, rfl, k1, hv⟩ := rels1 hv
    obtain ⟨v2, us, rfl, k2, hv⟩ := rels1 hv
    obtain rfl := rels0 hv
    rw [k1.lit_inv, k2.lit_inv]
    rfl
  hz := fun w => by kernel_rfl
  hzA := fun w S => .v _
  chk := fun e k w => akey_ok e k.1 k.2 w
  bits := fun k => by
    obtain ⟨a, b⟩ := k
    simp [akV, Instr.sameBits]
  find := fun k ks es w h => by
    have h2 : Try.prog.underlying 118 = some (.struct (Try.prog.fieldsOf 118)) := by kernel_rfl
    cases h with
    | nil => simp [Instr.findKey, run_underlying h2, Instr.findNow, findG]
    | @cons k' e ks es hk h =>
      have hn : Instr.findNow (.struct (Try.prog.fieldsOf 118)) (akV k) (e :: es) 0 = none := by simp [Instr.findNow, Instr.sameNow]
      have := ask_a k _ _ 0 w (.cons hk h)
      simp [Instr.findKey, run_underlying h2, hn, this]
end Go.Proofs.Ytilhflfbbfeakaa
end
end
section
section
namespace Go.Proofs.Ytilhflfbbfeakaa
open Go Go.RowKit Go.Tl
set_option linter.unusedVariables false
set_option linter.unusedSimpArgs false
set_option maxRecDepth 100000
set_option maxHeartbeats 4000000
structure RingD where
  cons : List Int
  amount : Int
  deriving Inhabited, DecidableEq
/-- the contract at a place of a ring -/
def cAt (b : BookD) (r : RingD) (k : Nat) : ConD := b.cons.getD (r.cons.getD k 0).toNat default
def okAt (b : BookD) (r : RingD) (k : Nat) : Prop := 0 ≤ r.cons.getD k 0 ∧ r.cons.getD k 0 ≤ b.cons.length - 1
def isRing (b : BookD) (r : RingD) : Prop := 2 ≤ r.cons.length ∧ (1 ≤ r.amount ∧ r.amount ≤ 100) ∧ (∀ k, k < r.cons.length → okAt b r k) ∧
  (∀ k, k < r.cons.length → (cAt b r k).to = (cAt b r ((k + 1) % r.cons.length)).frm) ∧ ∀ k m, k < r.cons.length → m < k → (cAt b r m).frm ≠ (cAt b r k).frm
noncomputable instance (b : BookD) (r : RingD) : Decidable (isRing b r) := Classical.propDecidable _
noncomputable def ringB (b : BookD) (r : RingD) : Bool := decide (isRing b r)
theorem okAt_lt {b : BookD} {r : RingD} {k : Nat} (h : okAt b r k) : (r.cons.getD k 0).toNat < b.cons.length ∧ r.cons.getD k 0 = ((r.cons.getD k 0).toNat : Int) := by
  unfold okAt at h
  omega
theorem ring_len {b : BookD} {r : RingD} (hv : VBook b) (h : isRing b r) : (r.cons.length : Int) ≤ b.houses := by
  obtain ⟨_, _, h3, _, h5⟩ := h
  have hh := hv.houses
  have := pigeon b.houses.toNat r.cons.length (fun k => (cAt b r k).frm.toNat) (fun k hk => by
    have := hv.frm _ (okAt_lt (h3 k hk)).1
    show (cAt b r k).frm.toNat < _
    unfold cAt
    omega) (fun i j hi hj => by
    have h1 := hv.frm _ (okAt_lt (h3 i hi)).1
    have h2 := hv.frm _ (okAt_lt (h3 j (by omega))).1
    have := h5 i j hi hj
    show (cAt b r j).frm.toNat ≠ (cAt b r i).frm.toNat
    unfold cAt at this ⊢
    omega)
  omega
def ringL (cp : Bool) (r : RingD) : List Tr := [intsT cp r.cons, .sc (.int .i64 r.amount)]
def ringsT (cp cp' : Bool) (rs : List RingD) : Tr := .sl cp 2 rs.length (fun k => ringL cp' (rs.getD k default))
attribute [local irreducible] AWP AWL AOp PV LV AWT AWE
section
variable {b : BookD} {r : RingD} {cp c1 : Bool} {g2 g3 g8 gm k q j jn n ji : Nat} {iv nv : Int} {l : List Int} {u : AV} {c : ConD}
end
end Go.Proofs.Ytilhflfbbfeakaa
end
section
namespace Go.Proofs.Ytilhflfbbfeakaa
open Go Go.RowKit Go.Tl
set_option linter.unusedVariables false
set_option linter.unusedSimpArgs false
set_option maxRecDepth 100000
set_option maxHeartbeats 4000000
attribute [local irreducible] AWP AWL AOp PV LV AWT AWE
end Go.Proofs.Ytilhflfbbfeakaa
end
section
namespace Go.Proofs.Ytilhflfbbfeakaa
open Go Go.RowKit Go.Tl
set_option linter.unusedVariables false
set_option linter.unusedSimpArgs false
set_option maxRecDepth 100000
set_option maxHeartbeats 4000000
/-- what the first contracts of a ring add to one -/
def ringN (r : RingD) : Nat → Nat → Int
  | 0, h => 0
  | k + 1, h => ringN r k h + (if r.cons.getD k 0 = (h : Int) then r.amount else 0)
/-- what the first rings make up -/
def madeN (rs : List RingD) : Nat → Nat → Int
  | 0, h => 0
  | i + 1, h => madeN rs i h + ringN (rs.getD i default) (rs.getD i default).cons.length h
def madeL (b : BookD) (rs : List RingD) : List Int := (List.range b.cons.length).map (madeN rs rs.length)
theorem ring_acc {b : BookD} {r : RingD} (hr : isRing b r) (h : Nat) : ∀ k, k ≤ r.cons.length → accN b.cons (ringN r k) b.cons.length h = sumR k (fun j => if (cAt b r j).to = (h : Int) then r.amount else 0) - sumR k (fun j => if (cAt b r j).frm = (h : Int) then r.amount else 0)
  | 0, _ => by
    have : ringN r 0 = fun _ => 0 := rfl
    rw [this, acc_zero]; rfl
  | k + 1, hk => by
    have e := okAt_lt (hr.2.2.1 k (by omega))
    have : ringN r (k + 1) = fun i => ringN r k i + (if ((r.cons.getD k 0).toNat : Int) = (i : Int) then r.amount else 0) := by
      funext i
      show ringN r k i + _ = _
      rw [e.2]; rfl
    rw [this, acc_add, ring_acc hr h k (by omega), acc_one, if_pos e.1, sumR_succ, sumR_succ]
    show _ + ((if (cAt b r k).to = _ then _ else _) - (if (cAt b r k).frm = _ then _ else _)) = _
    omega
theorem ring_zero {b : BookD} {r : RingD} (hr : isRing b r) (h : Nat) : accN b.cons (ringN r r.cons.length) b.cons.length h = 0 := by
  rw [ring_acc hr h _ (Nat.le_refl _)]
  have h1 := sumR_turn (n := r.cons.length) (by have := hr.1; omega) (fun j => if (cAt b r j).frm = (h : Int) then r.amount else 0)
  have h2 : sumR r.cons.length (fun j => if (cAt b r j).to = (h : Int) then r.amount else 0) = sumR r.cons.length (fun j => if (cAt b r ((j + 1) % r.cons.length)).frm = (h : Int) then r.amount else 0) :=
    sumR_congr fun j hj => by rw [hr.2.2.2.1 j hj]
  rw [h2, h1]
  omega
attribute [local irreducible] AWP AWL AOp PV LV AWT AWE
section
variable {r : RingD} {rs : List RingD} {cp c1 c2 : Bool} {g2 g9 ga n k j i : Nat} {F G : Nat → Int} {x : Ent} {u1 u2 u3 u4 u5 u6 u7 u8 : AV}
end
end Go.Proofs.Ytilhflfbbfeakaa
end
section
namespace Go.Proofs.Ytilhflfbbfeakaa
open Go Go.RowKit Go.Tl
set_option linter.unusedVariables false
set_option linter.unusedSimpArgs false
set_option maxRecDepth 100000
set_option maxHeartbeats 4000000
attribute [local irreducible] AWP AWL AOp PV LV AWT AWE
/-- the rings and their total are proof -/
noncomputable def provR (b : BookD) (rs : List RingD) (total : Int) : Bool := decide (faultN b = 0) && (rs.all (ringB b) && (listedB b (madeL b rs) && decide (total ≤ sumI (madeL b rs))))
/-- what Made returns -/
noncomputable def madeA (b : BookD) (rs : List RingD) : AV := if rs.all (ringB b) = true then .tup [.t (intsT true (madeL b rs)), boolA (listedB b (madeL b rs))] else .tup [noneA, boolA false]
def ringRow (r : RingD) : List AV := [.t (intsT true r.cons), intA r.amount]
section
variable {rs : List RingD} {cp c1 : Bool} {k : Nat} {a : Option Addr} {c : Nat} {rows : List (List AV)}
end
end Go.Proofs.Ytilhflfbbfeakaa
end
end
section
section
namespace Go.Tl
open Go Go.RowKit
set_option linter.unusedSimpArgs false
set_option linter.unusedVariables false
theorem pv_slice_lo_t {P : Program} {o : Oper} {s : Slots} (T : TT P) {t e sz bt n k : Nat} {x y : Operand} {f : Nat → List Tr} {kd : IntKind} {i : Int} (ho : o.op = .slice t x (some y) none none) (hx : evA s x = some (.t (.sl true sz n f))) (hy : evA s y = some (.v (.int kd i))) (ht : f2 T.elm t = some (e, sz, bt)) (hk : i = (k : Int)) (hkn : k < n) : PV P o s (.t (.sl true sz (n - k) (fun q => f (k + q)))) := fun w S a hs => by
  obtain ⟨j, hund, hj, hjs, hjb, hne⟩ := T.elm_at ht
  have h1 := hs.eval hx
  subst hk
  generalize hv : a.eval x = v at *
  cases h1 with
  | t h1 =>
    cases h1 with
    | @sl _ _ _ _ a0 c val hc hl h ih =>
      have hcn := hc rfl
      obtain ⟨b, off, e1, _, _⟩ := h k hkn
      subst e1
      refine ⟨.slice (some ⟨b, off + k * sz, none⟩) (n - k) (c - k), fun w' => ?_, .t (.sl (fun q => val (k + q)) (fun _ => by omega) (fun q hq => hl (k + q) (by omega)) (fun q hq => ?_) (fun q r z hq hz => ih (k + q) r z (by omega) hz))⟩
      · have e1 : (k : Int) ≤ (n : Int) := by omega
        have e2 : ¬ c = k := by omega
        simp [execOp, ho, hv, hs.lit hy, Instr.sliceAt, Instr.slice, run_underlying hund, Instr.sliceBounds, Instr.sliceBound, asIntOf, e1, run_sizeOf' hj, hjs, e2, Addr.add_lit]
        intro hlt
        exact absurd hlt (by omega)
      · obtain ⟨b', off', e1, e2, e3⟩ := h (k + q) (by omega)
        simp at e1
        obtain ⟨rfl, rfl⟩ := e1
        refine ⟨b, off + k * sz, rfl, e2, fun r hr => ?_⟩
        have := e3 r hr
        rw [← this]
        congr 2
        rw [Nat.add_mul]
        omega
end Go.Tl
namespace Go.Proofs.Ytilhflfbbfeakaa
open Go Go.RowKit Go.Tl
set_option linter.unusedVariables false
set_option linter.unusedSimpArgs false
set_option maxRecDepth 100000
set_option maxHeartbeats 4000000
attribute [local irreducible] AWP AWL AOp PV LV AWT AWE
end Go.Proofs.Ytilhflfbbfeakaa
end
section
namespace Go.Proofs.Ytilhflfbbfeakaa
open Go Go.RowKit Go.Tl
set_option linter.unusedVariables false
set_option linter.unusedSimpArgs false
set_option maxRecDepth 100000
set_option maxHeartbeats 4000000
/-- a ring of contracts of which something is set off -/
def pathOk (b : BookD) (f : Nat → Int) (p : List Int) : Prop := isRing b ⟨p, 1⟩ ∧ ∀ k, k < p.length → 0 < f (p.getD k 0).toNat
/-- a path -/
structure PathI (b : BookD) (f : Nat → Int) (first : Nat) (P : List Int) (a : Int) : Prop where
  ok : ∀ k, k < P.length → okAt b ⟨P, 1⟩ k
  pos : ∀ k, k < P.length → 0 < f (P.getD k 0).toNat
  next : ∀ k, k + 1 < P.length → (cAt b ⟨P, 1⟩ k).to = (cAt b ⟨P, 1⟩ (k + 1)).frm
  ne : ∀ k m, k < P.length → m < k → (cAt b ⟨P, 1⟩ m).frm ≠ (cAt b ⟨P, 1⟩ k).frm
  at0 : P = [] → a = (b.cons.getD first default).frm
  at1 : ∀ k, k + 1 = P.length → a = (cAt b ⟨P, 1⟩ k).to
theorem path_len {b : BookD} (hv : VBook b) {f : Nat → Int} {first : Nat} {P : List Int} {a : Int} (h : PathI b f first P a) : (P.length : Int) ≤ b.houses := by
  have hh := hv.houses
  have := pigeon b.houses.toNat P.length (fun k => (cAt b ⟨P, 1⟩ k).frm.toNat) (fun k hk => by
    have := hv.frm _ (okAt_lt (h.ok k hk)).1
    show (cAt b ⟨P, 1⟩ k).frm.toNat < _
    unfold cAt
    omega) (fun i j hi hj => by
    have h1 := hv.frm _ (okAt_lt (h.ok i hi)).1
    have h2 := hv.frm _ (okAt_lt (h.ok j (by omega))).1
    have := h.ne i j hi hj
    show (cAt b ⟨P, 1⟩ j).frm.toNat ≠ (cAt b ⟨P, 1⟩ i).frm.toNat
    unfold cAt at this ⊢
    omega)
  omega
theorem drop_at {l : List Int} {k j : Nat} : (l.drop k).getD j 0 = l.getD (k + j) 0 := by simp [List.getD_eq_getElem?_getD]
theorem path_ring {b : BookD} (hv : VBook b) {f : Nat → Int} {first : Nat} {P : List Int} {a : Int} (h : PathI b f first P a) {k : Nat} (hk : k < P.length) (he : (cAt b ⟨P, 1⟩ k).frm = a) : pathOk b f (P.drop k) := by
  have hc : ∀ j, cAt b ⟨P.drop k, 1⟩ j = cAt b ⟨P, 1⟩ (k + j) := fun j => by
    show b.cons.getD ((P.drop k).getD j 0).toNat default = b.cons.getD (P.getD (k + j) 0).toNat default
    rw [drop_at]
  have hl : (P.drop k).length = P.length - k := List.length_drop
  have hlast := h.at1 (P.length - 1) (by omega)
  have h2 : 2 ≤ P.length - k := by
    refine Classical.byContradiction fun hno => ?_
    obtain rfl : k = P.length - 1 := by omega
    have hok := h.ok (P.length - 1) hk
    exact hv.ne _ (okAt_lt hok).1 (by unfold cAt at he hlast; rw [he, hlast])
  refine ⟨⟨by show 2 ≤ (P.drop k).length; omega, ⟨Int.le_refl _, by show (1 : Int) ≤ 100; omega⟩, fun j hj => ?_, fun j hj => ?_, fun j m hj hm => ?_⟩, fun j hj => ?_⟩
  · have hj : j < (P.drop k).length := hj
    have := h.ok (k + j) (by omega)
    unfold okAt at this ⊢
    show 0 ≤ (P.drop k).getD j 0 ∧ (P.drop k).getD j 0 ≤ _
    rw [drop_at]; exact this
  · have hj : j < (P.drop k).length := hj
    show (cAt b ⟨P.drop k, 1⟩ j).to = (cAt b ⟨P.drop k, 1⟩ ((j + 1) % (P.drop k).length)).frm
    rw [hc, hc]
    by_cases c : j + 1 < (P.drop k).length
    · rw [Nat.mod_eq_of_lt c]
      exact h.next (k + j) (by omega)
    · have e1 : j + 1 = (P.drop k).length := by omega
      rw [e1, Nat.mod_self, Nat.add_zero, he, hlast]
      congr 2
      omega
  · have hj : j < (P.drop k).length := hj
    rw [hc, hc]
    exact h.ne (k + j) (k + m) (by omega) (by omega)
  · rw [drop_at]
    exact h.pos (k + j) (by omega)
theorem snoc_at {l : List Int} {x : Int} {j : Nat} (h : j < l.length) : (l ++ [x]).getD j 0 = l.getD j 0 := by simp [List.getD_eq_getElem?_getD, List.getElem?_append, h]
theorem snoc_last {l : List Int} {x : Int} : (l ++ [x]).getD l.length 0 = x := by simp [List.getD_eq_getElem?_getD]
theorem path_step {b : BookD} (hv : VBook b) {f : Nat → Int} {first : Nat} {P : List Int} {a : Int} (h : PathI b f first P a) {i : Nat} (hi : i < b.cons.length) (hf : 0 < f i) (he : (b.cons.getD i default).frm = a) (hno : ∀ k, k < P.length → (cAt b ⟨P, 1⟩ k).frm ≠ a) :
    PathI b f first (P ++ [(i : Int)]) (b.cons.getD i default).to := by
  have hl : (P ++ [(i : Int)]).length = P.length + 1 := by simp
  have hc : ∀ j, j < P.length → cAt b ⟨P ++ [(i : Int)], 1⟩ j = cAt b ⟨P, 1⟩ j := fun j hj => by
    show b.cons.getD ((P ++ [(i : Int)]).getD j 0).toNat default = b.cons.getD (P.getD j 0).toNat default
    rw [snoc_at hj]
  have hc2 : cAt b ⟨P ++ [(i : Int)], 1⟩ P.length = b.cons.getD i default := by
    show b.cons.getD ((P ++ [(i : Int)]).getD P.length 0).toNat default = _
    rw [snoc_last, Int.toNat_natCast]
  refine ⟨fun k hk => ?_, fun k hk => ?_, fun k hk => ?_, fun k m hk hm => ?_, fun e => ?_, fun k hk => ?_⟩
  · rw [hl] at hk
    unfold okAt
    show 0 ≤ (P ++ [(i : Int)]).getD k 0 ∧ (P ++ [(i : Int)]).getD k 0 ≤ _
    by_cases c : k < P.length
    · rw [snoc_at c]; exact h.ok k c
    · obtain rfl : k = P.length := by omega
      rw [snoc_last]; omega
  · rw [hl] at hk
    by_cases c : k < P.length
    · rw [snoc_at c]; exact h.pos k c
    · obtain rfl : k = P.length := by omega
      rw [snoc_last, Int.toNat_natCast]; exact hf
  · rw [hl] at hk
    by_cases c : k + 1 < P.length
    · rw [hc _ (by omega), hc _ c]; exact h.next k c
    · have e1 : P.length = k + 1 := by omega
      rw [← e1, hc2, hc _ (by omega), he]
      exact (h.at1 k (by omega)).symm
  · rw [hl] at hk
    by_cases c : k < P.length
    · rw [hc _ (by omega), hc _ c]; exact h.ne k m c hm
    · obtain rfl : k = P.length := by omega
      rw [hc2, hc _ hm, he]
      exact hno m hm
  · simp at e
  · rw [hl] at hk
    obtain rfl : k = P.length := by omega
    rw [hc2]
attribute [local irreducible] AWP AWL AOp PV LV AWT AWE
end Go.Proofs.Ytilhflfbbfeakaa
end
end
section
section
namespace Go.Proofs.Ytilhflfbbfeakaa
open Go Go.RowKit Go.Tl
set_option linter.unusedVariables false
set_option linter.unusedSimpArgs false
end Go.Proofs.Ytilhflfbbfeakaa
end
section
namespace Go.Proofs.Ytilhflfbbfeakaa
open Go Go.RowKit Go.Tl
set_option linter.unusedVariables false
set_option linter.unusedSimpArgs false
set_option maxRecDepth 100000
set_option maxHeartbeats 4000000
attribute [local irreducible] AWP AWL AOp PV LV AWT AWE
section
variable {b : BookD} {cp : Bool} {g3 g4 g5 g10 g12 gw gm j m : Nat} {nx d : Nat → Int} {F F1 : Arc → Int} {a : Arc} {rest : List Ent} {u0 u3 u6 u9 u7 u74 u75 u76 : AV} {x : Int} {ad : Option Addr} {c : Nat} {rows : List (List AV)}
end
end Go.Proofs.Ytilhflfbbfeakaa
end
section
namespace Go.Proofs.Ytilhflfbbfeakaa
open Go Go.RowKit Go.Tl
set_option linter.unusedVariables false
set_option linter.unusedSimpArgs false
set_option maxRecDepth 100000
set_option maxHeartbeats 4000000
/-- nothing more can be set off -/
def StuckA (b : BookD) (off : Nat → Int) : Prop := ∀ a ∈ arcsL (fL (numF b) off) b.cons.length,
  (bfR b (arcsL (fL (numF b) off) b.cons.length) b.houses.toNat).1 (aT b a) ≤ (bfR b (arcsL (fL (numF b) off) b.cons.length) b.houses.toNat).1 (aF b a) + aC a
attribute [local irreducible] AWP AWL AOp PV LV AWT AWE
end Go.Proofs.Ytilhflfbbfeakaa
end
section
namespace Go.Proofs.Ytilhflfbbfeakaa
open Go Go.RowKit Go.Tl
set_option linter.unusedVariables false
set_option linter.unusedSimpArgs false
set_option maxRecDepth 100000
set_option maxHeartbeats 4000000
attribute [local irreducible] AWP AWL AOp PV LV AWT AWE
end Go.Proofs.Ytilhflfbbfeakaa
end
end
section
section
namespace Go.Tl
open Go Go.RowKit
end Go.Tl
namespace Go.Proofs.Ytilhflfbbfeakaa
open Go Go.RowKit Go.Tl
set_option linter.unusedVariables false
set_option linter.unusedSimpArgs false
set_option maxRecDepth 100000
set_option maxHeartbeats 4000000
def digL (F : Nat → Int) (H : Nat) : List Int := (List.range H).map F
theorem digL_at {F : Nat → Int} {H v : Nat} (hv : v < H) : (digL F H).getD v 0 = F v := by simp [digL, List.getD_eq_getElem?_getD, hv]
attribute [local irreducible] AWP AWL AOp PV LV AWT AWE
section
variable {b : BookD} {g1 ga n h : Nat} {F : Nat → Int} {u3 : AV}
end
end Go.Proofs.Ytilhflfbbfeakaa
end
section
namespace Go.Proofs.Ytilhflfbbfeakaa
open Go Go.RowKit Go.Tl
set_option linter.unusedVariables false
set_option linter.unusedSimpArgs false
structure GrFacts (b : BookD) (off hs : List Int) : Prop where
  len : off.length = b.cons.length
  isoff : offB b off = true
  hlen : hs.length = b.houses.toNat
  high : highB b hs = true
  prov : provN b hs b.cons.length = sumI off
  low : ∀ F : Nat → Int, sumI off ≤ provF b F b.cons.length
  ex : ∃ F : Nat → Int, (∀ v, v < b.houses.toNat → 0 ≤ F v ∧ F v ≤ b.houses - 1) ∧ hs = digL F b.houses.toNat ∧ provF b F b.cons.length = sumI off
  bd : 0 ≤ sumI off ∧ sumI off ≤ 800
end Go.Proofs.Ytilhflfbbfeakaa
end
end
section
section
namespace Go.Tl
open Go Go.RowKit
end Go.Tl
namespace Go.Proofs.Ytilhflfbbfeakaa
open Go Go.RowKit Go.Tl
set_option linter.unusedVariables false
set_option linter.unusedSimpArgs false
set_option maxRecDepth 100000
set_option maxHeartbeats 4000000
/-- the least of what is set off along the first contracts of a path -/
def mnP (f : Nat → Int) (p : List Int) : Nat → Int
  | 0 => 100
  | k + 1 => min (mnP f p k) (f (p.getD k 0).toNat)
theorem mnP_le {f : Nat → Int} {p : List Int} : ∀ {k j : Nat}, j < k → mnP f p k ≤ f (p.getD j 0).toNat
  | 0, _, h => absurd h (Nat.not_lt_zero _)
  | k + 1, j, h => by
    simp only [mnP]
    by_cases e : j = k
    · subst e; omega
    · have := mnP_le (f := f) (p := p) (show j < k by omega); omega
theorem mnP_pos {f : Nat → Int} {p : List Int} : ∀ {k : Nat}, (∀ j, j < k → 0 < f (p.getD j 0).toNat) → 1 ≤ mnP f p k ∧ mnP f p k ≤ 100
  | 0, _ => by simp [mnP]
  | k + 1, h => by
    have ih := mnP_pos (f := f) (p := p) (k := k) (fun j hj => h j (by omega))
    have := h k (Nat.lt_succ_self _)
    simp only [mnP]
    omega
theorem ringN_one {r : RingD} {h : Nat} : ∀ k, k ≤ r.cons.length → (∀ i j, i < r.cons.length → j < i → r.cons.getD j 0 ≠ r.cons.getD i 0) → ringN r k h = 0 ∨ (ringN r k h = r.amount ∧ ∃ j, j < k ∧ r.cons.getD j 0 = (h : Int))
  | 0, _, _ => .inl rfl
  | k + 1, hk, hd => by
    have ih := ringN_one (r := r) (h := h) k (by omega) hd
    simp only [ringN]
    by_cases c : r.cons.getD k 0 = (h : Int)
    · rw [if_pos c]
      rcases ih with h0 | ⟨_, j, hj, e⟩
      · exact .inr ⟨by rw [h0]; omega, k, Nat.lt_succ_self _, c⟩
      · exact absurd (e.trans c.symm) (hd k j (by omega) hj)
    · rw [if_neg c, Int.add_zero]
      rcases ih with h0 | ⟨h1, j, hj, e⟩
      · exact .inl h0
      · exact .inr ⟨h1, j, by omega, e⟩
theorem path_dist {b : BookD} {f : Nat → Int} {p : List Int} (h : pathOk b f p) : ∀ i j, i < p.length → j < i → p.getD j 0 ≠ p.getD i 0 := fun i j hi hj e => h.1.2.2.2.2 i j hi hj (by unfold cAt; rw [e])
theorem rd_snoc {rs : List RingD} {r : RingD} {j : Nat} (h : j < rs.length) : (rs ++ [r]).getD j default = rs.getD j default := by simp [List.getD_eq_getElem?_getD, List.getElem?_append, h]
theorem rd_last {rs : List RingD} {r : RingD} : (rs ++ [r]).getD rs.length default = r := by simp [List.getD_eq_getElem?_getD]
theorem made_snoc {rs : List RingD} {r : RingD} (h : Nat) : madeN (rs ++ [r]) (rs.length + 1) h = madeN rs rs.length h + ringN r r.cons.length h := by
  have : ∀ i, i ≤ rs.length → madeN (rs ++ [r]) i h = madeN rs i h := fun i => by
    induction i with
    | zero => intro _; rfl
    | succ i ih => intro hi; simp only [madeN]; rw [ih (by omega), rd_snoc (by omega)]
  simp only [madeN]
  rw [this _ (Nat.le_refl _), rd_last]
attribute [local irreducible] AWP AWL AOp PV LV AWT AWE
section
variable {f g : Nat → Int} {n j g10 ga k : Nat} {x : Int} {u1 u9 u7 u50 u51 u52 u35 u36 u37 v0 : AV} {rest : List Ent}
end
end Go.Proofs.Ytilhflfbbfeakaa
end
section
namespace Go.Proofs.Ytilhflfbbfeakaa
open Go Go.RowKit Go.Tl
set_option linter.unusedVariables false
set_option linter.unusedSimpArgs false
set_option maxRecDepth 100000
set_option maxHeartbeats 4000000
attribute [local irreducible] AWP AWL AOp PV LV AWT AWE
/-- rings that make up a greatest setting off -/
structure RingsOk (b : BookD) (rs : List RingD) (f : Nat → Int) : Prop where
  off : OffF b (numF b) f
  stuck : StuckA b f
  ring : ∀ j, j < rs.length → isRing b (rs.getD j default)
  made : ∀ h, h < b.cons.length → madeN rs rs.length h = f h
  len : rs.length ≤ b.cons.length
end Go.Proofs.Ytilhflfbbfeakaa
end
end
