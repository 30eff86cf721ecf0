/- Joined texts: Rc0, Rc, Rd, Re, Gs, GBf, Rp, Rq. -/
import Derived.Test.YtilhflfbbfeakaaZmRb
import Derived.Test.YtilhflfbbfeakaaTv
import Derived.Test.YtilhflfbbfeakaaTy
section
namespace Go.Proofs.Ytilhflfbbfeakaa
open Go Go.RowKit Go.Tl
set_option linter.unusedVariables false
set_option linter.unusedSimpArgs false
set_option maxRecDepth 100000
set_option maxHeartbeats 4000000
attribute [local irreducible] AWP AWL AOp PV LV AWT AWE
/-- a valid book -/
structure VBook (b : BookD) : Prop where
  houses : 1 ≤ b.houses ∧ b.houses ≤ 6
  len : b.cons.length ≤ 8
  frm : ∀ k, k < b.cons.length → 0 ≤ (b.cons.getD k default).frm ∧ (b.cons.getD k default).frm < b.houses
  to : ∀ k, k < b.cons.length → 0 ≤ (b.cons.getD k default).to ∧ (b.cons.getD k default).to < b.houses
  ne : ∀ k, k < b.cons.length → (b.cons.getD k default).frm ≠ (b.cons.getD k default).to
  num : ∀ k, k < b.cons.length → 1 ≤ (b.cons.getD k default).num ∧ (b.cons.getD k default).num ≤ 100
  price : ∀ k, k < b.cons.length → 1 ≤ (b.cons.getD k default).price ∧ (b.cons.getD k default).price ≤ 1000
theorem vbook {b : BookD} (h : faultN b = 0) : VBook b := by
  unfold faultN at h
  by_cases h1 : 6 < b.houses ∨ 8 < b.cons.length
  · rw [if_pos h1] at h; exact absurd h (by decide)
  rw [if_neg h1] at h
  by_cases h2 : 1 ≤ b.houses ∧ b.cons.all (conB b.houses) = true
  case neg => rw [if_neg h2] at h; exact absurd h (by decide)
  have hc : ∀ k, k < b.cons.length → (0 ≤ (b.cons.getD k default).frm ∧ (b.cons.getD k default).frm ≤ b.houses - 1) ∧ (0 ≤ (b.cons.getD k default).to ∧ (b.cons.getD k default).to ≤ b.houses - 1) ∧ (b.cons.getD k default).frm ≠ (b.cons.getD k default).to ∧ (1 ≤ (b.cons.getD k default).num ∧ (b.cons.getD k default).num ≤ 100) ∧ (1 ≤ (b.cons.getD k default).price ∧ (b.cons.getD k default).price ≤ 1000) := fun k hk => by
    have := (all_getD (d := default)).1 h2.2 k hk
    simpa only [conB, Bool.and_eq_true, inB_iff, decide_eq_true_eq] using this
  exact ⟨by omega, by omega, fun k hk => by have := (hc k hk).1; omega, fun k hk => by have := (hc k hk).2.1; omega, fun k hk => (hc k hk).2.2.1, fun k hk => (hc k hk).2.2.2.1, fun k hk => (hc k hk).2.2.2.2⟩
/-- what has come to a house with the first contracts -/
def accN (cs : List ConD) (f : Nat → Int) : Nat → Nat → Int
  | 0, _ => 0
  | k + 1, h => accN cs f k h + (if (cs.getD k default).to = (h : Int) then f k else 0) - (if (cs.getD k default).frm = (h : Int) then f k else 0)
theorem accN_bd {cs : List ConD} {f : Nat → Int} {B : Int} (hB : 0 ≤ B) : ∀ (k : Nat) (h : Nat), (∀ i, i < k → -B ≤ f i ∧ f i ≤ B) → -(2 * B * k) ≤ accN cs f k h ∧ accN cs f k h ≤ 2 * B * k
  | 0, h, _ => by simp [accN]
  | k + 1, h, hf => by
    have ih := accN_bd (cs := cs) hB k h (fun i hi => hf i (by omega))
    have h1 := hf k (by omega)
    simp only [accN]
    have e : (2 * B * ((k + 1 : Nat) : Int)) = 2 * B * k + 2 * B := by rw [Int.natCast_add, Int.mul_add]; simp
    split <;> split <;> omega
def netL (b : BookD) (f : Nat → Int) : List Int := (List.range b.houses.toNat).map fun h => accN b.cons f b.cons.length h
abbrev nwS (cp : Bool) (xs : List Int) (g2 ga n k : Nat) : Slots := [(1, .t (intsT cp xs)), (2, .v (ptrV g2)), (5, .v (.slice (some ⟨ga, 0, none⟩) n n)), (6, intA k)]
section
variable {b : BookD} {xs : List Int} {cp : Bool} {g2 ga n k j : Nat} {F G : Nat → Int}
theorem net_5 (hk : k < b.cons.length) (hkx : k < xs.length) (hj : (b.cons.getD k default).to = (j : Int)) (hjn : j < n) (b1 : -1000000000 ≤ F j ∧ F j ≤ 1000000000) (b2 : -1000000000 ≤ xs.getD k 0 ∧ xs.getD k 0 ≤ 1000000000) (hG : ∀ q, q < n → G q = if q = j then F j + xs.getD k 0 else F q) {ops : Array Oper} (h : regF Try.f25 5 = some ops) :
    AWP Try.prog Try.f25.ntmps none (.region 5 ops true) (cutQ (fun s h => s = nwS cp xs g2 ga n k ∧ h = [refB g2 b, .rw (.slice (some ⟨ga, 0, none⟩) n n) 3 1 (fRows G n)])) (nwS cp xs g2 ga n k) [refB g2 b, .rw (.slice (some ⟨ga, 0, none⟩) n n) 3 1 (fRows F n)] := by
  cases h
  have r1 : ((fRows F n).getD j [])[0]? = some (intA (F j)) := fRows_at hjn
  have r2 := fRows_len F n
  have hjt : (b.cons.getD k default).to.toNat = j := by omega
  refine awp_tree T0 [(0, 0), (1, 0), (2, 1), (3, 0), (4, 0), (5, 0), (6, 1), (7, 0), (8, 1), (9, 0), (10, 0), (11, 0), (12, 1), (13, 0), (14, 0), (15, 3)] (.op 0 0 (.op 1 0 (.op 2 1 (.op 3 0 (.op 4 0 (.op 5 0 (.op 6 1 (.op 7 0 (.op 8 1 (.op 9 0 (.op 10 0 (.op 11 0 (.op 12 1 (.op 13 0 (.op 14 0 (.op 15 3 .stop)))))))))))))))) [.cl g2 _ _, .rw _ _ _ _] rfl (by kernel_rfl) (by solve | repeat' constructor) ?_
  refine awt_po rfl (wt_none rfl) (pv_move rfl rfl) rfl rfl ?_
  refine awt_po rfl (wt_none rfl) (pv_fa T0 rfl rfl rfl (by simp; rfl)) rfl rfl ?_
  refine awt_lo rfl (wt_none rfl) (lv_cl1 T0 rfl rfl rfl (by solve | repeat' constructor) (by first | rfl | assumption)) rfl rfl rfl ?_
  refine awt_po rfl (wt_none rfl) (pv_move rfl rfl) rfl rfl ?_
  refine awt_po rfl (wt_none rfl) (pv_ix_t T0 rfl rfl rfl rfl (by omega) (by first | exact Int.toNat_natCast _ | rfl)) rfl rfl ?_
  refine awt_po rfl (wt_none rfl) (pv_fa_elt T0 rfl rfl rfl (by simp; rfl)) rfl rfl ?_
  refine awt_lo rfl (wt_none rfl) (lv_elt_sc T0 rfl rfl rfl rfl) rfl rfl rfl ?_
  refine awt_po rfl (wt_none rfl) (pv_ix_own T0 rfl rfl rfl rfl (by omega) hjt) rfl rfl ?_
  refine awt_lo rfl (wt_none rfl) (lv_rp T0 rfl rfl rfl (by solve | repeat' constructor) (by first | omega | (simp; omega)) (by omega) (by first | assumption | rfl)) rfl rfl rfl ?_
  refine awt_po rfl (wt_none rfl) (pv_move rfl rfl) rfl rfl ?_
  refine awt_po rfl (wt_none rfl) (pv_move rfl rfl) rfl rfl ?_
  refine awt_po rfl (wt_none rfl) (pv_ix_t T0 rfl rfl rfl rfl (by omega) (by first | exact Int.toNat_natCast _ | rfl)) rfl rfl ?_
  refine awt_lo rfl (wt_none rfl) (lv_elt_sc T0 rfl rfl rfl rfl) rfl rfl rfl ?_
  refine awt_po rfl (wt_none rfl) (pv_add rfl rfl rfl (by first | assumption | exact wr64 (by omega))) rfl rfl ?_
  refine awt_po rfl (wt_none rfl) (pv_ix_own T0 rfl rfl rfl rfl (by omega) hjt) rfl rfl ?_
  refine awt_s (md := fun _ => True) rfl (wt_none rfl) (aop_store_rp T0 rfl rfl rfl rfl rfl rfl rfl rfl (by solve | repeat' constructor) (by first | omega | (simp; omega)) (by omega) rfl trivial ?_)
  refine awe_end ?_
  simp only [cellsA]
  rw [fRows_set hjn hG]
  exact cut_n ⟨rfl, rfl⟩ (by first | ((repeat' (first | exact True.intro | refine ⟨rfl, ?_⟩)); all_goals fail) | fail) (by solve | repeat' constructor)
theorem net_6 (hk : k < b.cons.length) (hkx : k < xs.length) (hj : (b.cons.getD k default).frm = (j : Int)) (hjn : j < n) (b1 : -1000000000 ≤ F j ∧ F j ≤ 1000000000) (b2 : -1000000000 ≤ xs.getD k 0 ∧ xs.getD k 0 ≤ 1000000000) (hG : ∀ q, q < n → G q = if q = j then F j - xs.getD k 0 else F q) {ops : Array Oper} (h : regF Try.f25 6 = some ops) :
    AWP Try.prog Try.f25.ntmps none (.region 6 ops true) (cutQ (fun s h => s = nwS cp xs g2 ga n k ∧ h = [refB g2 b, .rw (.slice (some ⟨ga, 0, none⟩) n n) 3 1 (fRows G n)])) (nwS cp xs g2 ga n k) [refB g2 b, .rw (.slice (some ⟨ga, 0, none⟩) n n) 3 1 (fRows F n)] := by
  cases h
  have r1 : ((fRows F n).getD j [])[0]? = some (intA (F j)) := fRows_at hjn
  have r2 := fRows_len F n
  have hjt : (b.cons.getD k default).frm.toNat = j := by omega
  refine awp_tree T0 [(0, 0), (1, 0), (2, 1), (3, 0), (4, 0), (5, 0), (6, 1), (7, 0), (8, 1), (9, 0), (10, 0), (11, 0), (12, 1), (13, 0), (14, 0), (15, 3)] (.op 0 0 (.op 1 0 (.op 2 1 (.op 3 0 (.op 4 0 (.op 5 0 (.op 6 1 (.op 7 0 (.op 8 1 (.op 9 0 (.op 10 0 (.op 11 0 (.op 12 1 (.op 13 0 (.op 14 0 (.op 15 3 .stop)))))))))))))))) [.cl g2 _ _, .rw _ _ _ _] rfl (by kernel_rfl) (by solve | repeat' constructor) ?_
  refine awt_po rfl (wt_none rfl) (pv_move rfl rfl) rfl rfl ?_
  refine awt_po rfl (wt_none rfl) (pv_fa T0 rfl rfl rfl (by simp; rfl)) rfl rfl ?_
  refine awt_lo rfl (wt_none rfl) (lv_cl1 T0 rfl rfl rfl (by solve | repeat' constructor) (by first | rfl | assumption)) rfl rfl rfl ?_
  refine awt_po rfl (wt_none rfl) (pv_move rfl rfl) rfl rfl ?_
  refine awt_po rfl (wt_none rfl) (pv_ix_t T0 rfl rfl rfl rfl (by omega) (by first | exact Int.toNat_natCast _ | rfl)) rfl rfl ?_
  refine awt_po rfl (wt_none rfl) (pv_fa_elt T0 rfl rfl rfl (by simp; rfl)) rfl rfl ?_
  refine awt_lo rfl (wt_none rfl) (lv_elt_sc T0 rfl rfl rfl rfl) rfl rfl rfl ?_
  refine awt_po rfl (wt_none rfl) (pv_ix_own T0 rfl rfl rfl rfl (by omega) hjt) rfl rfl ?_
  refine awt_lo rfl (wt_none rfl) (lv_rp T0 rfl rfl rfl (by solve | repeat' constructor) (by first | omega | (simp; omega)) (by omega) (by first | assumption | rfl)) rfl rfl rfl ?_
  refine awt_po rfl (wt_none rfl) (pv_move rfl rfl) rfl rfl ?_
  refine awt_po rfl (wt_none rfl) (pv_move rfl rfl) rfl rfl ?_
  refine awt_po rfl (wt_none rfl) (pv_ix_t T0 rfl rfl rfl rfl (by omega) (by first | exact Int.toNat_natCast _ | rfl)) rfl rfl ?_
  refine awt_lo rfl (wt_none rfl) (lv_elt_sc T0 rfl rfl rfl rfl) rfl rfl rfl ?_
  refine awt_po rfl (wt_none rfl) (pv_sub rfl rfl rfl (by first | assumption | exact wr64 (by omega))) rfl rfl ?_
  refine awt_po rfl (wt_none rfl) (pv_ix_own T0 rfl rfl rfl rfl (by omega) hjt) rfl rfl ?_
  refine awt_s (md := fun _ => True) rfl (wt_none rfl) (aop_store_rp T0 rfl rfl rfl rfl rfl rfl rfl rfl (by solve | repeat' constructor) (by first | omega | (simp; omega)) (by omega) rfl trivial ?_)
  refine awe_end ?_
  simp only [cellsA]
  rw [fRows_set hjn hG]
  exact cut_n ⟨rfl, rfl⟩ (by first | ((repeat' (first | exact True.intro | refine ⟨rfl, ?_⟩)); all_goals fail) | fail) (by solve | repeat' constructor)
end
abbrev swS (fv t14 e21 : AV) (l15 : Int) (g7 g9 ga n k q : Nat) : Slots := [(1, fv), (5, .v (.slice (some ⟨ga, 0, none⟩) n n)), (6, intA k), (7, .v (ptrV g7)), (9, .v (ptrV g9)), (14, t14), (15, intA l15), (16, intA k), (21, e21), (22, intA q)]
section
variable {c : ConD} {fv t14 e21 : AV} {l15 : Int} {q : Nat} {g7 g9 ga n k j gN F : Nat} {fsN csN : List AV} {o : Ob} {A G : Nat → Int} {v : Int}
theorem sums_8b (hF : PCall Try.prog F [conA c] (fun r => r = intA (j : Int))) (hFn : T0.fns.any F.beq = true) (hcal : Tl.Callee fv gN fsN csN) (hg : T0.fns.any gN.beq = true)
    (hnum : ACall Try.prog gN (fsN ++ [intA k] ++ csN) [.ob o] (fun r h' => r = intA v ∧ h' = [.ob o])) (hjn : j < n) (b1 : -1000000000 ≤ A j ∧ A j ≤ 1000000000) (b2 : -1000000000 ≤ v ∧ v ≤ 1000000000) (hG : ∀ q, q < n → G q = if q = j then A j + 1 * v else A q) {ops : Array Oper} (h : regF Try.f57 8 = some ops) :
    AWP Try.prog Try.f57.ntmps none (.region 8 ops true) (cutQ (fun s h => s = swS fv t14 e21 l15 g7 g9 ga n k q ∧ h = [.cl g9 110 [.v (.func (.func F) #[] #[]), intA 1], .cl g7 83 [intA c.frm, intA c.to, intA c.num, intA c.price], .rw (.slice (some ⟨ga, 0, none⟩) n n) 3 1 (fRows G n), .ob o]))
      (swS fv t14 e21 l15 g7 g9 ga n k q) [.cl g9 110 [.v (.func (.func F) #[] #[]), intA 1], .cl g7 83 [intA c.frm, intA c.to, intA c.num, intA c.price], .rw (.slice (some ⟨ga, 0, none⟩) n n) 3 1 (fRows A n), .ob o] := by
  cases h
  have r1 : ((fRows A n).getD j [])[0]? = some (intA (A j)) := fRows_at hjn
  have r2 := fRows_len A n
  refine awp_tree T0 [(0, 0), (1, 0), (2, 1), (3, 1), (7, 0), (8, 1), (9, 0), (10, 0), (4, 2), (5, 0), (6, 1), (11, 2), (12, 0), (13, 0), (14, 0), (15, 3)] (.op 0 0 (.op 1 0 (.op 2 1 (.op 3 1 (.op 7 0 (.op 8 1 (.op 9 0 (.op 10 0 (.op 4 2 (.op 5 0 (.op 6 1 (.op 11 2 (.op 12 0 (.op 13 0 (.op 14 0 (.op 15 3 .stop)))))))))))))))) [.cl g9 110 _, .cl g7 83 _, .rw _ _ _ _] rfl (by kernel_rfl) (by solve | repeat' constructor) ?_
  refine awt_po rfl (wt_none rfl) (pv_move rfl rfl) rfl rfl ?_
  refine awt_po rfl (wt_none rfl) (pv_fa T0 rfl rfl rfl (by simp; rfl)) rfl rfl ?_
  refine awt_lo rfl (wt_none rfl) (lv_cl1 T0 rfl rfl rfl (by solve | repeat' constructor) (by first | rfl | assumption)) rfl rfl rfl ?_
  refine awt_lo rfl (wt_none rfl) (lv_cla T0 rfl rfl rfl (by solve | repeat' constructor) rfl) rfl rfl rfl ?_
  refine awt_po rfl (wt_none rfl) (pv_fa T0 rfl rfl rfl (by simp; rfl)) rfl rfl ?_
  refine awt_lo rfl (wt_none rfl) (lv_cl1 T0 rfl rfl rfl (by solve | repeat' constructor) (by first | rfl | assumption)) rfl rfl rfl ?_
  refine awt_po rfl (wt_none rfl) (pv_move rfl rfl) rfl rfl ?_
  refine awt_po rfl (wt_none rfl) (pv_move rfl rfl) rfl rfl ?_
  refine awt_h (hm := []) rfl (wt_none rfl) (by solve | repeat' constructor) rfl (st_call T0 (hF) rfl rfl rfl rfl (by first | exact callee_lit | exact callee_v | exact callee_fn | assumption) (by solve | repeat' constructor) (by first | rfl | assumption) rfl ?_)
  (rintro _ rfl; refine awt_lit 29 rfl ?_)
  refine awt_po rfl (wt_none rfl) (pv_ix_own T0 rfl rfl rfl rfl (by omega) (by first | exact Int.toNat_natCast _ | rfl)) rfl rfl ?_
  refine awt_lo rfl (wt_none rfl) (lv_rp T0 rfl rfl rfl (by solve | repeat' constructor) (by first | omega | (simp; omega)) (by omega) (by first | assumption | rfl)) rfl rfl rfl ?_
  refine awt_h (hm := _) rfl (wt_none rfl) ?sub rfl (st_acall T0 (hnum) rfl rfl rfl rfl (by first | exact callee_lit | exact callee_v | exact callee_fn | assumption) (by solve | repeat' constructor) (by first | rfl | assumption) rfl (by first | ((repeat' (first | exact SubH.refl _ | apply SubH.cons | exact Pick.here | apply Pick.there)); all_goals fail) | fail) (fun b hb => hb) ?_)
  case sub => exact (by solve | repeat' constructor)
  rintro r h ⟨rfl, rfl⟩
  refine awt_n1 rfl (wt_none rfl) (pv_mul rfl rfl rfl (by first | assumption | exact wr64 (by omega))) rfl rfl rfl ?_
  refine awt_n1 rfl (wt_none rfl) (pv_add rfl rfl rfl (by first | assumption | exact wr64 (by omega))) rfl rfl rfl ?_
  refine awt_po rfl (wt_none rfl) (pv_ix_own T0 rfl rfl rfl rfl (by omega) (by first | exact Int.toNat_natCast _ | rfl)) rfl rfl ?_
  refine awt_s (md := fun _ => True) rfl (wt_none rfl) (aop_store_rp T0 rfl rfl rfl rfl rfl rfl rfl rfl (by solve | repeat' constructor) (by first | omega | (simp; omega)) (by omega) rfl trivial ?_)
  refine awe_end ?_
  simp only [cellsA]
  rw [fRows_set hjn hG]
  exact cut_n ⟨rfl, rfl⟩ (by first | ((repeat' (first | exact True.intro | refine ⟨rfl, ?_⟩)); all_goals fail) | fail) (by solve | repeat' constructor)
theorem sums_8s (hF : PCall Try.prog F [conA c] (fun r => r = intA (j : Int))) (hFn : T0.fns.any F.beq = true) (hcal : Tl.Callee fv gN fsN csN) (hg : T0.fns.any gN.beq = true)
    (hnum : ACall Try.prog gN (fsN ++ [intA k] ++ csN) [.ob o] (fun r h' => r = intA v ∧ h' = [.ob o])) (hjn : j < n) (b1 : -1000000000 ≤ A j ∧ A j ≤ 1000000000) (b2 : -1000000000 ≤ v ∧ v ≤ 1000000000) (hG : ∀ q, q < n → G q = if q = j then A j + -1 * v else A q) {ops : Array Oper} (h : regF Try.f57 8 = some ops) :
    AWP Try.prog Try.f57.ntmps none (.region 8 ops true) (cutQ (fun s h => s = swS fv t14 e21 l15 g7 g9 ga n k q ∧ h = [.cl g9 110 [.v (.func (.func F) #[] #[]), intA (-1)], .cl g7 83 [intA c.frm, intA c.to, intA c.num, intA c.price], .rw (.slice (some ⟨ga, 0, none⟩) n n) 3 1 (fRows G n), .ob o]))
      (swS fv t14 e21 l15 g7 g9 ga n k q) [.cl g9 110 [.v (.func (.func F) #[] #[]), intA (-1)], .cl g7 83 [intA c.frm, intA c.to, intA c.num, intA c.price], .rw (.slice (some ⟨ga, 0, none⟩) n n) 3 1 (fRows A n), .ob o] := by
  cases h
  have r1 : ((fRows A n).getD j [])[0]? = some (intA (A j)) := fRows_at hjn
  have r2 := fRows_len A n
  refine awp_tree T0 [(0, 0), (1, 0), (2, 1), (3, 1), (7, 0), (8, 1), (9, 0), (10, 0), (4, 2), (5, 0), (6, 1), (11, 2), (12, 0), (13, 0), (14, 0), (15, 3)] (.op 0 0 (.op 1 0 (.op 2 1 (.op 3 1 (.op 7 0 (.op 8 1 (.op 9 0 (.op 10 0 (.op 4 2 (.op 5 0 (.op 6 1 (.op 11 2 (.op 12 0 (.op 13 0 (.op 14 0 (.op 15 3 .stop)))))))))))))))) [.cl g9 110 _, .cl g7 83 _, .rw _ _ _ _] rfl (by kernel_rfl) (by solve | repeat' constructor) ?_
  refine awt_po rfl (wt_none rfl) (pv_move rfl rfl) rfl rfl ?_
  refine awt_po rfl (wt_none rfl) (pv_fa T0 rfl rfl rfl (by simp; rfl)) rfl rfl ?_
  refine awt_lo rfl (wt_none rfl) (lv_cl1 T0 rfl rfl rfl (by solve | repeat' constructor) (by first | rfl | assumption)) rfl rfl rfl ?_
  refine awt_lo rfl (wt_none rfl) (lv_cla T0 rfl rfl rfl (by solve | repeat' constructor) rfl) rfl rfl rfl ?_
  refine awt_po rfl (wt_none rfl) (pv_fa T0 rfl rfl rfl (by simp; rfl)) rfl rfl ?_
  refine awt_lo rfl (wt_none rfl) (lv_cl1 T0 rfl rfl rfl (by solve | repeat' constructor) (by first | rfl | assumption)) rfl rfl rfl ?_
  refine awt_po rfl (wt_none rfl) (pv_move rfl rfl) rfl rfl ?_
  refine awt_po rfl (wt_none rfl) (pv_move rfl rfl) rfl rfl ?_
  refine awt_h (hm := []) rfl (wt_none rfl) (by solve | repeat' constructor) rfl (st_call T0 (hF) rfl rfl rfl rfl (by first | exact callee_lit | exact callee_v | exact callee_fn | assumption) (by solve | repeat' constructor) (by first | rfl | assumption) rfl ?_)
  (rintro _ rfl; refine awt_lit 29 rfl ?_)
  refine awt_po rfl (wt_none rfl) (pv_ix_own T0 rfl rfl rfl rfl (by omega) (by first | exact Int.toNat_natCast _ | rfl)) rfl rfl ?_
  refine awt_lo rfl (wt_none rfl) (lv_rp T0 rfl rfl rfl (by solve | repeat' constructor) (by first | omega | (simp; omega)) (by omega) (by first | assumption | rfl)) rfl rfl rfl ?_
  refine awt_h (hm := _) rfl (wt_none rfl) ?sub rfl (st_acall T0 (hnum) rfl rfl rfl rfl (by first | exact callee_lit | exact callee_v | exact callee_fn | assumption) (by solve | repeat' constructor) (by first | rfl | assumption) rfl (by first | ((repeat' (first | exact SubH.refl _ | apply SubH.cons | exact Pick.here | apply Pick.there)); all_goals fail) | fail) (fun b hb => hb) ?_)
  case sub => exact (by solve | repeat' constructor)
  rintro r h ⟨rfl, rfl⟩
  refine awt_n1 rfl (wt_none rfl) (pv_mul rfl rfl rfl (by first | assumption | exact wr64 (by omega))) rfl rfl rfl ?_
  refine awt_n1 rfl (wt_none rfl) (pv_add rfl rfl rfl (by first | assumption | exact wr64 (by omega))) rfl rfl rfl ?_
  refine awt_po rfl (wt_none rfl) (pv_ix_own T0 rfl rfl rfl rfl (by omega) (by first | exact Int.toNat_natCast _ | rfl)) rfl rfl ?_
  refine awt_s (md := fun _ => True) rfl (wt_none rfl) (aop_store_rp T0 rfl rfl rfl rfl rfl rfl rfl rfl (by solve | repeat' constructor) (by first | omega | (simp; omega)) (by omega) rfl trivial ?_)
  refine awe_end ?_
  simp only [cellsA]
  rw [fRows_set hjn hG]
  exact cut_n ⟨rfl, rfl⟩ (by first | ((repeat' (first | exact True.intro | refine ⟨rfl, ?_⟩)); all_goals fail) | fail) (by solve | repeat' constructor)
end
end Go.Proofs.Ytilhflfbbfeakaa
end
section
namespace Go.Proofs.Ytilhflfbbfeakaa
open Go Go.RowKit Go.Tl
set_option linter.unusedVariables false
set_option linter.unusedSimpArgs false
set_option maxRecDepth 100000
set_option maxHeartbeats 4000000
attribute [local irreducible] AWP AWL AOp PV LV AWT AWE
theorem seller_p (c : ConD) : PCall Try.prog 106 [conA c] (fun r => r = intA c.frm) := by
  refine acall_of_awp T0 Try.func106 rfl rfl rfl ?_
  repeat (first | refine awp_seq ?_ | refine awp_region_lit rfl ?_)
  refine awl_hw (wt_none rfl) (st_box rfl rfl (by first | rfl | assumption) (by first | assumption | (simp only [cellsA]; rfl)) rfl rfl ?_)
  intro g2
  repeat (first | refine awp_seq ?_ | refine awp_region_lit rfl ?_ | refine awp_ret ?_ | (show AWL _ _ _ (⟨_, .assign _, _, _, _, _⟩ :: _) _ _ _; refine awl_pw (wt_none rfl) (pv_assign rfl rfl) rfl rfl ?_) | (show AWL _ _ _ (⟨_, .load _ _, _, _, _, _⟩ :: _) _ _ _; refine awl_lw (wt_none rfl) (lv_cl1 T0 rfl rfl rfl (by solve | repeat' constructor) (by first | rfl | assumption)) rfl rfl rfl ?_) | (show AWL _ _ _ (⟨_, .fieldAddr _ _ _, _, _, _, _⟩ :: _) _ _ _; refine awl_pw (wt_none rfl) (pv_fa T0 rfl rfl rfl (by simp; rfl)) rfl rfl ?_) | refine awl_nil ?_)
  exact body_p (.cons rfl .nil) rfl
theorem buyer_p (c : ConD) : PCall Try.prog 107 [conA c] (fun r => r = intA c.to) := by
  refine acall_of_awp T0 Try.func107 rfl rfl rfl ?_
  repeat (first | refine awp_seq ?_ | refine awp_region_lit rfl ?_)
  refine awl_hw (wt_none rfl) (st_box rfl rfl (by first | rfl | assumption) (by first | assumption | (simp only [cellsA]; rfl)) rfl rfl ?_)
  intro g2
  repeat (first | refine awp_seq ?_ | refine awp_region_lit rfl ?_ | refine awp_ret ?_ | (show AWL _ _ _ (⟨_, .assign _, _, _, _, _⟩ :: _) _ _ _; refine awl_pw (wt_none rfl) (pv_assign rfl rfl) rfl rfl ?_) | (show AWL _ _ _ (⟨_, .load _ _, _, _, _, _⟩ :: _) _ _ _; refine awl_lw (wt_none rfl) (lv_cl1 T0 rfl rfl rfl (by solve | repeat' constructor) (by first | rfl | assumption)) rfl rfl rfl ?_) | (show AWL _ _ _ (⟨_, .fieldAddr _ _ _, _, _, _, _⟩ :: _) _ _ _; refine awl_pw (wt_none rfl) (pv_fa T0 rfl rfl rfl (by simp; rfl)) rfl rfl ?_) | refine awl_nil ?_)
  exact body_p (.cons rfl .nil) rfl
abbrev endsA : AV := .ag [.v (.func (.func 106) #[] #[]), intA (-1), .v (.func (.func 107) #[] #[]), intA 1]
theorem ends_p : PCall Try.prog 91 [] (fun r => r = endsA) := by
  refine acall_of_awp T0 Try.func91 rfl rfl rfl ?_
  repeat (first | refine awp_seq ?_ | refine awp_region_lit rfl ?_)
  refine awl_hw (wt_none rfl) (st_alloc T0 rfl rfl rfl rfl (by simp only [Value.cells, List.toList_toArray, List.map_cons, List.map_nil]; rfl) ?_)
  intro g0
  repeat (first | refine awp_seq ?_ | refine awp_region_lit rfl ?_ | refine awp_ret ?_ | (show AWL _ _ _ (⟨_, .build _ _, _, _, _, _⟩ :: _) _ _ _; refine awl_pw (wt_none rfl) (pv_build T0 rfl rfl rfl (by simp only [Value.cells, List.toList_toArray, List.map_cons, List.map_nil]; rfl) (by first | ((repeat' (first | exact BParts.nil | apply BParts.cons | rfl)); all_goals fail) | fail) (by first | ((repeat' (first | exact FillA.nil | exact Sp.done | apply FillA.cons | apply Sp.put | apply Sp.skip | (simp only [cellsA]; rfl) | rfl)); all_goals fail) | fail)) rfl rfl ?_) | (show AWL _ _ _ (⟨_, .build _ _, _, _, _, _⟩ :: _) _ _ _; refine awl_pw (wt_none rfl) (pv_build_arr T0 rfl rfl rfl (by simp only [Value.cells, List.toList_toArray, List.map_cons, List.map_nil]; rfl) (by first | ((repeat' (first | exact BParts.nil | apply BParts.cons | rfl)); all_goals fail) | fail) (by first | ((repeat' (first | exact FillA.nil | exact Sp.done | apply FillA.cons | apply Sp.put | apply Sp.skip | (simp only [cellsA]; rfl) | rfl)); all_goals fail) | fail)) rfl rfl ?_) | (show AWL _ _ _ (⟨_, .store _ _ _, _, _, _, _⟩ :: _) _ _ _; refine awl_hw (wt_none rfl) (st_store T0 rfl rfl rfl rfl rfl (by first | assumption | (simp only [cellsA]; rfl)) rfl rfl rfl (by solve | repeat' constructor) (by solve | repeat' constructor) trivial ?_)) | refine awl_nil ?_)
  refine body_p (.cons ⟨g0, _, _, _, _, rfl, rfl, (by solve | repeat' constructor), by simp, .inl rfl, rfl⟩ .nil) ?_
  rfl
theorem fRows_zero (n : Nat) (cs : List ConD) (f : Nat → Int) : List.replicate n [AV.v (Value.int .i64 0)] = fRows (accN cs f 0) n := by
  refine List.ext_getElem (by simp [fRows]) fun k h1 h2 => ?_
  simp [fRows, accN, intRow]
theorem acc_small {cs : List ConD} {f : Nat → Int} {k h : Nat} (hk : k ≤ 8) (hf : ∀ i, i < k → -1000000 ≤ f i ∧ f i ≤ 1000000) : -100000000 ≤ accN cs f k h ∧ accN cs f k h ≤ 100000000 := by
  have := accN_bd (cs := cs) (f := f) (B := 1000000) (by omega) k h hf
  omega
theorem net_p (b : BookD) (cp : Bool) (xs : List Int) (hv : VBook b) (hx : xs.length = b.cons.length) (hb : ∀ i, i < xs.length → -1000000 ≤ xs.getD i 0 ∧ xs.getD i 0 ≤ 1000000) :
    PCall Try.prog 25 [bookA false b, .t (intsT cp xs)] (fun r => r = .t (intsT true (netL b (fun i => xs.getD i 0)))) := by
  have hh := hv.houses
  obtain ⟨n, hn⟩ : ∃ n : Nat, b.houses = n := ⟨b.houses.toNat, by omega⟩
  have hlen := hv.len
  refine acall_of_awp T0 Try.func25 rfl rfl rfl ?_
  repeat (first | refine awp_seq ?_ | refine awp_region_lit rfl ?_)
  refine awl_hw (wt_none rfl) (st_box rfl rfl (by first | rfl | assumption) (by first | assumption | (simp only [cellsA]; rfl)) rfl rfl ?_)
  intro g2
  repeat (first | refine awp_seq ?_ | refine awp_region_lit rfl ?_ | (show AWL _ _ _ (⟨_, .assign _, _, _, _, _⟩ :: _) _ _ _; refine awl_pw (wt_none rfl) (pv_assign rfl rfl) rfl rfl ?_) | (show AWL _ _ _ (⟨_, .load _ _, _, _, _, _⟩ :: _) _ _ _; refine awl_lw (wt_none rfl) (lv_cl1 T0 rfl rfl rfl (by solve | repeat' constructor) (by first | rfl | assumption)) rfl rfl rfl ?_) | (show AWL _ _ _ (⟨_, .fieldAddr _ _ _, _, _, _, _⟩ :: _) _ _ _; refine awl_pw (wt_none rfl) (pv_fa T0 rfl rfl rfl (by simp; rfl)) rfl rfl ?_) | refine awl_nil ?_)
  rw [hn]
  refine awl_hw (wt_none rfl) (aop_make T0 rfl rfl rfl rfl rfl rfl rfl rfl (by omega) rfl ?_)
  intro ga
  repeat (first | refine awp_seq ?_ | refine awp_block ?_ | refine awp_region_lit rfl ?_ | (show AWL _ _ _ (⟨_, .assign _, _, _, _, _⟩ :: _) _ _ _; refine awl_pw (wt_none rfl) (pv_assign rfl rfl) rfl rfl ?_) | refine awl_nil ?_)
  rw [fRows_zero n b.cons (fun i => xs.getD i 0)]
  refine awp_loop (fun m s h => ∃ (k : Nat), k ≤ b.cons.length ∧ m = b.cons.length - k ∧ s = nwS cp xs g2 ga n k ∧ h = [.cl g2 24 [intA n, .t (consT false b.cons)], .rw (.slice (some ⟨ga, 0, none⟩) n n) 3 1 (fRows (accN b.cons (fun i => xs.getD i 0) k) n)]) ?_ ⟨0, Nat.zero_le _, rfl, rfl, rfl⟩ (by first | ((repeat' (first | exact True.intro | refine ⟨rfl, ?_⟩)); all_goals fail) | fail) (by solve | repeat' constructor)
  rintro m s h ⟨k, hk, rfl, rfl, rfl⟩
  by_cases hlt : k < b.cons.length
  · have hfr := hv.frm k hlt
    have hto := hv.to k hlt
    have hbk := hb k (by omega)
    have hac : ∀ h : Nat, -100000000 ≤ accN b.cons (fun i => xs.getD i 0) k h ∧ accN b.cons (fun i => xs.getD i 0) k h ≤ 100000000 := fun h => acc_small (by omega) (fun i hi => hb i (by omega))
    obtain ⟨jt, hjt⟩ : ∃ j : Nat, (b.cons.getD k default).to = j := ⟨(b.cons.getD k default).to.toNat, by omega⟩
    obtain ⟨jf, hjf⟩ : ∃ j : Nat, (b.cons.getD k default).frm = j := ⟨(b.cons.getD k default).frm.toNat, by omega⟩
    have hR : refB g2 b = .cl g2 24 [intA n, .t (consT false b.cons)] := by show Ent.cl g2 24 [intA b.houses, _] = _; rw [hn]
    repeat (first | refine awp_seq ?_ | refine awp_block ?_ | refine awp_region_lit rfl ?_ | refine awp_skip ?_ | refine then_n ?_ | refine awp_cond_t rfl (by first | rfl | assumption | exact dT (by omega)) ?_ | (show AWL _ _ _ (⟨_, .move _, _, _, _, _⟩ :: _) _ _ _; refine awl_pw (wt_none rfl) (pv_move rfl rfl) rfl rfl ?_) | (show AWL _ _ _ (⟨_, .load _ _, _, _, _, _⟩ :: _) _ _ _; refine awl_lw (wt_none rfl) (lv_cl1 T0 rfl rfl rfl (by solve | repeat' constructor) (by first | rfl | assumption)) rfl rfl rfl ?_) | (show AWL _ _ _ (⟨_, .fieldAddr _ _ _, _, _, _, _⟩ :: _) _ _ _; refine awl_pw (wt_none rfl) (pv_fa T0 rfl rfl rfl (by simp; rfl)) rfl rfl ?_) | (show AWL _ _ _ (⟨_, .binOp .lss _ _ _ _, _, _, _, _⟩ :: _) _ _ _; refine awl_pw (wt_none rfl) (pv_lss rfl rfl rfl) rfl rfl ?_) | (show AWL _ _ _ (⟨_, .call ⟨.builtin .len, _, _⟩, _, _, _, _⟩ :: _) _ _ _; refine awl_pw (wt_none rfl) (pv_len_t T0 rfl rfl rfl) rfl rfl ?_) | refine awl_nil ?_)
    refine awp_cut _ (awp_weak (by first | ((repeat' (first | exact True.intro | refine ⟨rfl, ?_⟩)); all_goals fail) | fail) (by rw [hR]; (solve | repeat' constructor)) (net_5 (b := b) (xs := xs) (cp := cp) (g2 := g2) (ga := ga) (n := n) (k := k) (j := jt) (F := accN b.cons (fun i => xs.getD i 0) k) (G := fun h => accN b.cons (fun i => xs.getD i 0) k h + (if (b.cons.getD k default).to = (h : Int) then xs.getD k 0 else 0)) hlt (by omega) hjt (by omega) (by have := hac jt; omega) (by omega) (fun q hq => ?_) rfl)) ?_
    · by_cases e : q = jt
      · subst e; rw [if_pos hjt, if_pos rfl]
      · rw [if_neg (by omega), if_neg e, Int.add_zero]
    rintro s h ⟨rfl, rfl⟩
    rw [hR]
    skip
    refine awp_cutB _ (awp_weak (by first | ((repeat' (first | exact True.intro | refine ⟨rfl, ?_⟩)); all_goals fail) | fail) (by rw [hR]; (solve | repeat' constructor)) (net_6 (b := b) (xs := xs) (cp := cp) (g2 := g2) (ga := ga) (n := n) (k := k) (j := jf) (F := fun h => accN b.cons (fun i => xs.getD i 0) k h + (if (b.cons.getD k default).to = (h : Int) then xs.getD k 0 else 0)) (G := accN b.cons (fun i => xs.getD i 0) (k + 1)) hlt (by omega) hjf (by omega) (by have := hac jf; show _ ≤ accN _ _ k jf + _ ∧ accN _ _ k jf + _ ≤ _; split <;> omega) (by omega) (fun q hq => ?_) rfl)) ?_
    · show accN _ _ k q + _ - _ = _
      by_cases e : q = jf
      · subst e; rw [if_pos rfl, if_pos hjf]
      · rw [if_neg e, if_neg (c := (b.cons.getD k default).frm = (q : Int)) (by omega), Int.sub_zero]
    rintro s h ⟨rfl, rfl⟩
    rw [hR]
    repeat (first | refine awp_region_lit rfl ?_ | (show AWL _ _ _ (⟨_, .move _, _, _, _, _⟩ :: _) _ _ _; refine awl_pw (wt_none rfl) (pv_move rfl rfl) rfl rfl ?_) | (show AWL _ _ _ (⟨_, .assign _, _, _, _, _⟩ :: _) _ _ _; refine awl_pw (wt_none rfl) (pv_assign rfl rfl) rfl rfl ?_) | (show AWL _ _ _ (⟨_, .binOp .add _ _ _ _, _, _, _, _⟩ :: _) _ _ _; refine awl_pw (wt_none rfl) (pv_add rfl rfl rfl (by first | assumption | exact wr64 (by omega))) rfl rfl ?_) | refine awl_nil ?_)
    refine rnd_n _ _ _ ?_ ⟨k + 1, hlt, rfl, rfl, rfl⟩ (by first | ((repeat' (first | exact True.intro | refine ⟨rfl, ?_⟩)); all_goals fail) | fail) (by solve | repeat' constructor)
    omega
  obtain rfl : k = b.cons.length := by omega
  have hnl : (netL b (fun i => xs.getD i 0)).length = n := by simp [netL, hn]
  refine awp_ghost (ghost_freeze (E := 3) (sz := 1) (n := (netL b (fun i => xs.getD i 0)).length) (rows := fRows (accN b.cons (fun i => xs.getD i 0) b.cons.length) n) (d := 5) (fun q => [.sc (.int .i64 ((netL b (fun i => xs.getD i 0)).getD q 0))]) (by solve | repeat' constructor) rfl (by rw [fRows_len, hnl]) (by rw [hnl]; exact fRows_tree (by simp [netL, hn]))) ?_
  repeat (first | refine awp_seq ?_ | refine awp_region_lit rfl ?_ | refine awp_exit ?_ | refine awp_ret ?_ | refine then_n ?_ | refine awp_cond_f rfl (by first | rfl | assumption | exact dF (by omega)) ?_ | (show AWL _ _ _ (⟨_, .move _, _, _, _, _⟩ :: _) _ _ _; refine awl_pw (wt_none rfl) (pv_move rfl rfl) rfl rfl ?_) | (show AWL _ _ _ (⟨_, .assign _, _, _, _, _⟩ :: _) _ _ _; refine awl_pw (wt_none rfl) (pv_assign rfl rfl) rfl rfl ?_) | (show AWL _ _ _ (⟨_, .load _ _, _, _, _, _⟩ :: _) _ _ _; refine awl_lw (wt_none rfl) (lv_cl1 T0 rfl rfl rfl (by solve | repeat' constructor) (by first | rfl | assumption)) rfl rfl rfl ?_) | (show AWL _ _ _ (⟨_, .fieldAddr _ _ _, _, _, _, _⟩ :: _) _ _ _; refine awl_pw (wt_none rfl) (pv_fa T0 rfl rfl rfl (by simp; rfl)) rfl rfl ?_) | (show AWL _ _ _ (⟨_, .binOp .lss _ _ _ _, _, _, _, _⟩ :: _) _ _ _; refine awl_pw (wt_none rfl) (pv_lss rfl rfl rfl) rfl rfl ?_) | (show AWL _ _ _ (⟨_, .call ⟨.builtin .len, _, _⟩, _, _, _, _⟩ :: _) _ _ _; refine awl_pw (wt_none rfl) (pv_len_t T0 rfl rfl rfl) rfl rfl ?_) | refine awl_nil ?_)
  exact body_p (.cons rfl .nil) rfl
end Go.Proofs.Ytilhflfbbfeakaa
end
section
namespace Go.Proofs.Ytilhflfbbfeakaa
open Go Go.RowKit Go.Tl
set_option linter.unusedVariables false
set_option linter.unusedSimpArgs false
set_option maxRecDepth 100000
set_option maxHeartbeats 4000000
attribute [local irreducible] AWP AWL AOp PV LV AWT AWE
end Go.Proofs.Ytilhflfbbfeakaa
end
section
namespace Go.Proofs.Ytilhflfbbfeakaa
open Go Go.RowKit Go.Tl
set_option linter.unusedVariables false
set_option linter.unusedSimpArgs false
set_option maxRecDepth 100000
set_option maxHeartbeats 4000000
attribute [local irreducible] AWP AWL AOp PV LV AWT AWE
def numF (b : BookD) (i : Nat) : Int := (b.cons.getD i default).num
theorem all_p (cp : Bool) (b : BookD) (hl : b.cons.length ≤ 1000) : PCall Try.prog 26 [bookA cp b] (fun r => r = .t (intsT true (b.cons.map (·.num)))) := by
  refine acall_of_awp T0 Try.func26 rfl rfl rfl ?_
  repeat (first | refine awp_seq ?_ | refine awp_region_lit rfl ?_)
  refine awl_hw (wt_none rfl) (st_box rfl rfl (by first | rfl | assumption) (by first | assumption | (simp only [cellsA]; rfl)) rfl rfl ?_)
  intro g1
  repeat (first | refine awp_seq ?_ | refine awp_block ?_ | refine awp_region_lit rfl ?_ | (show AWL _ _ _ (⟨_, .assign _, _, _, _, _⟩ :: _) _ _ _; refine awl_pw (wt_none rfl) (pv_assign rfl rfl) rfl rfl ?_) | refine awl_nil ?_)
  refine awp_ghost (ghost_nilrow 3 1) ?_
  refine awp_loop (fun m s h => ∃ (k : Nat) (a : Option Addr) (c : Nat) (rows : List (List AV)), k ≤ b.cons.length ∧ m = b.cons.length - k ∧ rows.length = k ∧ rows = ((b.cons.map (·.num)).take k).map intRow ∧
    s = [(1, .v (ptrV g1)), (3, .v (.slice a k c)), (4, intA k)] ∧ h = [.cl g1 24 [intA b.houses, .t (consT cp b.cons)], .rw (.slice a k c) 3 1 rows]) ?_ ⟨0, _, _, _, Nat.zero_le _, rfl, rfl, rfl, rfl, rfl⟩ (by first | ((repeat' (first | exact True.intro | refine ⟨rfl, ?_⟩)); all_goals fail) | fail) (by solve | repeat' constructor)
  rintro m s h ⟨k, a, c, rows, hk, rfl, hn, hrows, rfl, rfl⟩
  by_cases hlt : k < b.cons.length
  · have hlt' : k < (b.cons.map (·.num)).length := by simpa using hlt
    have e0 : (b.cons.map (·.num)).getD k 0 = (b.cons.getD k default).num := by simp [List.getD_eq_getElem?_getD, hlt]
    repeat (first | refine awp_seq ?_ | refine awp_block ?_ | refine awp_region_lit rfl ?_ | refine awp_skip ?_ | refine then_n ?_ | refine awp_cond_t rfl (by first | rfl | assumption | exact dT (by omega)) ?_ | (show AWL _ _ _ (⟨_, .move _, _, _, _, _⟩ :: _) _ _ _; refine awl_pw (wt_none rfl) (pv_move rfl rfl) rfl rfl ?_) | (show AWL _ _ _ (⟨_, .load _ _, _, _, _, _⟩ :: _) _ _ _; refine awl_lw (wt_none rfl) (lv_cl1 T0 rfl rfl rfl (by solve | repeat' constructor) (by first | rfl | assumption)) rfl rfl rfl ?_) | (show AWL _ _ _ (⟨_, .load _ _, _, _, _, _⟩ :: _) _ _ _; refine awl_lw (wt_none rfl) (lv_elt_sc T0 rfl rfl rfl rfl) rfl rfl rfl ?_) | (show AWL _ _ _ (⟨_, .fieldAddr _ _ _, _, _, _, _⟩ :: _) _ _ _; refine awl_pw (wt_none rfl) (pv_fa T0 rfl rfl rfl (by simp; rfl)) rfl rfl ?_) | (show AWL _ _ _ (⟨_, .fieldAddr _ _ _, _, _, _, _⟩ :: _) _ _ _; refine awl_pw (wt_none rfl) (pv_fa_elt T0 rfl rfl rfl (by simp; rfl)) rfl rfl ?_) | (show AWL _ _ _ (⟨_, .indexAddr _ _ _, _, _, _, _⟩ :: _) _ _ _; refine awl_pw (wt_none rfl) (pv_ix_t T0 rfl rfl rfl rfl (by omega) (by first | exact Int.toNat_natCast _ | rfl)) rfl rfl ?_) | (show AWL _ _ _ (⟨_, .binOp .lss _ _ _ _, _, _, _, _⟩ :: _) _ _ _; refine awl_pw (wt_none rfl) (pv_lss rfl rfl rfl) rfl rfl ?_) | (show AWL _ _ _ (⟨_, .call ⟨.builtin .len, _, _⟩, _, _, _, _⟩ :: _) _ _ _; refine awl_pw (wt_none rfl) (pv_len_t T0 rfl rfl rfl) rfl rfl ?_) | refine awl_nil ?_)
    refine awl_hw (wt_none rfl) (st_bsl T0 rfl rfl rfl rfl rfl (by solve | repeat' constructor) rfl rfl rfl rfl (by simp only [List.map_cons, List.map_nil, cellsA]; rfl) ?_)
    intro g19
    skip
    refine awl_hw (wt_none rfl) (st_app T0 rfl rfl rfl rfl rfl rfl rfl rfl rfl (by solve | repeat' constructor) (by solve | repeat' constructor) rfl rfl hn (by omega) (fun _ _ => trivial) ?_)
    intro a20 c20 p20
    repeat (first | refine awp_region_lit rfl ?_ | (show AWL _ _ _ (⟨_, .move _, _, _, _, _⟩ :: _) _ _ _; refine awl_pw (wt_none rfl) (pv_move rfl rfl) rfl rfl ?_) | (show AWL _ _ _ (⟨_, .assign _, _, _, _, _⟩ :: _) _ _ _; refine awl_pw (wt_none rfl) (pv_assign rfl rfl) rfl rfl ?_) | (show AWL _ _ _ (⟨_, .binOp .add _ _ _ _, _, _, _, _⟩ :: _) _ _ _; refine awl_pw (wt_none rfl) (pv_add rfl rfl rfl (by first | assumption | exact wr64 (by omega))) rfl rfl ?_) | refine awl_nil ?_)
    refine rnd_n _ _ _ ?_ ⟨k + 1, _, _, _, hlt, rfl, ?_, ?_, rfl, rfl⟩ (by first | ((repeat' (first | exact True.intro | refine ⟨rfl, ?_⟩)); all_goals fail) | fail) (by solve | repeat' constructor)
    · omega
    · simp; omega
    · rw [hrows, rows_step (d := (0 : Int)) intRow hlt', e0]; rfl
  obtain rfl : k = b.cons.length := by omega
  have e1 : (b.cons.map (·.num)).length = b.cons.length := by simp
  rw [List.take_of_length_le (by omega)] at hrows
  refine awp_ghost (ghost_freeze (E := 3) (sz := 1) (n := (b.cons.map (·.num)).length) (rows := rows) (d := 3) (fun q => [.sc (.int .i64 ((b.cons.map (·.num)).getD q 0))]) (by solve | repeat' constructor) rfl (by rw [hn, e1]) (by rw [hrows]; exact intRows_tree _)) ?_
  repeat (first | refine awp_seq ?_ | refine awp_region_lit rfl ?_ | refine awp_exit ?_ | refine awp_ret ?_ | refine then_n ?_ | refine awp_cond_f rfl (by first | rfl | assumption | exact dF (by omega)) ?_ | (show AWL _ _ _ (⟨_, .move _, _, _, _, _⟩ :: _) _ _ _; refine awl_pw (wt_none rfl) (pv_move rfl rfl) rfl rfl ?_) | (show AWL _ _ _ (⟨_, .assign _, _, _, _, _⟩ :: _) _ _ _; refine awl_pw (wt_none rfl) (pv_assign rfl rfl) rfl rfl ?_) | (show AWL _ _ _ (⟨_, .load _ _, _, _, _, _⟩ :: _) _ _ _; refine awl_lw (wt_none rfl) (lv_cl1 T0 rfl rfl rfl (by solve | repeat' constructor) (by first | rfl | assumption)) rfl rfl rfl ?_) | (show AWL _ _ _ (⟨_, .fieldAddr _ _ _, _, _, _, _⟩ :: _) _ _ _; refine awl_pw (wt_none rfl) (pv_fa T0 rfl rfl rfl (by simp; rfl)) rfl rfl ?_) | (show AWL _ _ _ (⟨_, .binOp .lss _ _ _ _, _, _, _, _⟩ :: _) _ _ _; refine awl_pw (wt_none rfl) (pv_lss rfl rfl rfl) rfl rfl ?_) | (show AWL _ _ _ (⟨_, .call ⟨.builtin .len, _, _⟩, _, _, _, _⟩ :: _) _ _ _; refine awl_pw (wt_none rfl) (pv_len_t T0 rfl rfl rfl) rfl rfl ?_) | refine awl_nil ?_)
  exact body_p (.cons rfl .nil) rfl
end Go.Proofs.Ytilhflfbbfeakaa
end
section
namespace Go.Proofs.Ytilhflfbbfeakaa
open Go Go.RowKit Go.Tl
set_option linter.unusedVariables false
set_option linter.unusedSimpArgs false
set_option maxRecDepth 100000
set_option maxHeartbeats 4000000
attribute [local irreducible] AWP AWL AOp PV LV AWT AWE
theorem accN_congr {cs : List ConD} {f g : Nat → Int} : ∀ (k h : Nat), (∀ i, i < k → f i = g i) → accN cs f k h = accN cs g k h
  | 0, h, _ => rfl
  | k + 1, h, hf => by simp only [accN]; rw [accN_congr k h (fun i hi => hf i (by omega)), hf k (by omega)]
theorem netL_congr {b : BookD} {f g : Nat → Int} (h : ∀ i, i < b.cons.length → f i = g i) : netL b f = netL b g := List.map_congr_left fun q _ => accN_congr _ _ h
theorem netL_len {b : BookD} {f : Nat → Int} : (netL b f).length = b.houses.toNat := by simp [netL]
theorem nums_at {b : BookD} {i : Nat} (h : i < b.cons.length) : (b.cons.map (·.num)).getD i 0 = numF b i := by simp [numF, List.getD_eq_getElem?_getD, h]
def sumR (n : Nat) (F : Nat → Int) : Int := sumI ((List.range n).map F)
theorem sumR_succ (n : Nat) (F : Nat → Int) : sumR (n + 1) F = sumR n F + F n := by simp [sumR, List.range_succ, sumI_append, sumI]
theorem sumR_congr {n : Nat} {F G : Nat → Int} (h : ∀ i, i < n → F i = G i) : sumR n F = sumR n G := by
  unfold sumR; rw [List.map_congr_left fun i hi => h i (List.mem_range.1 hi)]
theorem sumR_zero (n : Nat) : sumR n (fun _ => 0) = 0 := by
  induction n with
  | zero => rfl
  | succ n ih => rw [sumR_succ, ih]; rfl
theorem sumR_add {n : Nat} {F G : Nat → Int} : sumR n (fun i => F i + G i) = sumR n F + sumR n G := by
  induction n with
  | zero => rfl
  | succ n ih => rw [sumR_succ, sumR_succ, sumR_succ, ih]; omega
theorem sumR_sub {n : Nat} {F G : Nat → Int} : sumR n (fun i => F i - G i) = sumR n F - sumR n G := by
  induction n with
  | zero => rfl
  | succ n ih => rw [sumR_succ, sumR_succ, sumR_succ, ih]; omega
theorem sumR_le {n : Nat} {F G : Nat → Int} (h : ∀ i, i < n → F i ≤ G i) : sumR n F ≤ sumR n G := by
  induction n with
  | zero => exact Int.le_refl _
  | succ n ih => rw [sumR_succ, sumR_succ]; have := ih (fun i hi => h i (by omega)); have := h n (by omega); omega
theorem sumR_one {n : Nat} {j v : Int} (h0 : 0 ≤ j) (h1 : j < n) : sumR n (fun i => if j = (i : Int) then v else 0) = v := by
  induction n with
  | zero => omega
  | succ n ih =>
    rw [sumR_succ]
    by_cases e : j = (n : Int)
    · rw [if_pos e, sumR_congr (G := fun _ => 0) (fun i hi => if_neg (by omega)), sumR_zero]; omega
    · rw [if_neg e, ih (by omega)]; omega
theorem acc_sum {b : BookD} (hv : VBook b) (f : Nat → Int) : ∀ k, k ≤ b.cons.length → sumR b.houses.toNat (fun h => accN b.cons f k h) = 0
  | 0, _ => sumR_zero _
  | k + 1, hk => by
    have ih := acc_sum hv f k (by omega)
    have h1 := hv.frm k (by omega)
    have h2 := hv.to k (by omega)
    show sumR _ (fun h => accN b.cons f k h + _ - _) = 0
    rw [sumR_sub, sumR_add, ih, sumR_one h2.1 (by omega), sumR_one h1.1 (by omega)]
    omega
theorem net_at {b : BookD} {f : Nat → Int} {h : Nat} (hh : h < b.houses.toNat) : (netL b f).getD h 0 = accN b.cons f b.cons.length h := by
  simp [netL, List.getD_eq_getElem?_getD, hh]
def readyB (b : BookD) : Bool := decide (b.cons.length ≤ 12) && decide (faultN b = 0)
theorem ready_w {b : BookD} {r : Bool} (hl : b.cons.length ≤ 9223372036854775807) (h : readyB b = r) : PCall Try.prog 41 [bookA false b] (fun x => x = boolA r) := by
  subst h
  refine acall_of_awp T0 Try.func41 rfl rfl rfl ?_
  unfold readyB
  repeat (first | refine awp_seq ?_ | refine awp_region_lit rfl ?_)
  refine awl_hw (by first | exact wt_none rfl | exact wt_some' rfl rfl rfl rfl (by first | rfl | assumption | exact dT (by omega) | exact dF (by omega))) (st_box rfl rfl (by first | rfl | assumption) (by first | assumption | (simp only [cellsA]; rfl)) rfl rfl ?_)
  intro g1
  repeat (first | refine awp_seq ?_ | refine awp_region_lit rfl ?_ | ((first | (show AWL _ _ _ (⟨_, .assign _, _, _, _, _⟩ :: _) _ _ _; refine awl_pw ?w (pv_assign rfl rfl) rfl rfl ?_) | (show AWL _ _ _ (⟨_, .load _ _, _, _, _, _⟩ :: _) _ _ _; refine awl_lw ?w (lv_cla T0 rfl rfl rfl (by solve | repeat' constructor) rfl) rfl rfl rfl ?_)); case w => first | exact wt_none rfl | exact wt_some' rfl rfl rfl rfl (by first | rfl | assumption | exact dT (by omega) | exact dF (by omega))) | refine awl_nil ?_)
  by_cases hth : b.cons.length ≤ 12
  · refine awl_hw (by first | exact wt_none rfl | exact wt_some' rfl rfl rfl rfl (by first | rfl | assumption | exact dT (by omega) | exact dF (by omega))) (st_call T0 (thin_q hl (decide_eq_true hth)) rfl rfl rfl rfl (by first | exact callee_lit | exact callee_v | exact callee_fn | assumption) (by solve | repeat' constructor) (by first | rfl | assumption) rfl ?_)
    rintro _ rfl
    rw [decide_eq_true hth]
    repeat (first | ((first | (show AWL _ _ _ (⟨_, .move _, _, _, _, _⟩ :: _) _ _ _; refine awl_pw ?w (pv_move rfl rfl) rfl rfl ?_) | (show AWL _ _ _ (⟨_, .load _ _, _, _, _, _⟩ :: _) _ _ _; refine awl_lw ?w (lv_cla T0 rfl rfl rfl (by solve | repeat' constructor) rfl) rfl rfl rfl ?_)); case w => first | exact wt_none rfl | exact wt_some' rfl rfl rfl rfl (by first | rfl | assumption | exact dT (by omega) | exact dF (by omega))))
    refine awl_hw (by first | exact wt_none rfl | exact wt_some' rfl rfl rfl rfl (by first | rfl | assumption | exact dT (by omega) | exact dF (by omega))) (st_call T0 (fault_p false b (by omega)) rfl rfl rfl rfl (by first | exact callee_lit | exact callee_v | exact callee_fn | assumption) (by solve | repeat' constructor) (by first | rfl | assumption) rfl ?_)
    rintro _ rfl
    repeat (first | refine awp_ret ?_ | ((first | (show AWL _ _ _ (⟨_, .assign _, _, _, _, _⟩ :: _) _ _ _; refine awl_pw ?w (pv_assign rfl rfl) rfl rfl ?_) | (show AWL _ _ _ (⟨_, .binOp .eql _ _ _ _, _, _, _, _⟩ :: _) _ _ _; refine awl_pw ?w (pv_eql rfl rfl rfl) rfl rfl ?_) | (show AWL _ _ _ (⟨_, .pick _ _ _, _, _, _, _⟩ :: _) _ _ _; refine awl_pw ?w (pv_pick_t rfl rfl (by first | rfl | assumption | exact dT (by omega) | exact dF (by omega)) rfl) rfl rfl ?_)); case w => first | exact wt_none rfl | exact wt_some' rfl rfl rfl rfl (by first | rfl | assumption | exact dT (by omega) | exact dF (by omega))) | refine awl_nil ?_)
    exact body_p (.cons rfl .nil) rfl
  · refine awl_hw (by first | exact wt_none rfl | exact wt_some' rfl rfl rfl rfl (by first | rfl | assumption | exact dT (by omega) | exact dF (by omega))) (st_call T0 (thin_q hl (decide_eq_false hth)) rfl rfl rfl rfl (by first | exact callee_lit | exact callee_v | exact callee_fn | assumption) (by solve | repeat' constructor) (by first | rfl | assumption) rfl ?_)
    rintro _ rfl
    rw [decide_eq_false hth]
    repeat (first | refine awp_ret ?_ | ((first | (show AWL _ _ _ (⟨_, .move _, _, _, _, _⟩ :: _) _ _ _; refine awl_pw ?w (pv_move rfl rfl) rfl rfl ?_) | (show AWL _ _ _ (⟨_, .assign _, _, _, _, _⟩ :: _) _ _ _; refine awl_pw ?w (pv_assign rfl rfl) rfl rfl ?_) | (show AWL _ _ _ (⟨_, .load _ _, _, _, _, _⟩ :: _) _ _ _; refine awl_lw ?w (lv_cla T0 rfl rfl rfl (by solve | repeat' constructor) rfl) rfl rfl rfl ?_) | (show AWL _ _ _ (⟨_, .pick _ _ _, _, _, _, _⟩ :: _) _ _ _; refine awl_pw ?w (pv_pick_f rfl rfl (by first | rfl | assumption | exact dT (by omega) | exact dF (by omega)) rfl) rfl rfl ?_)); case w => first | exact wt_none rfl | exact wt_some' rfl rfl rfl rfl (by first | rfl | assumption | exact dT (by omega) | exact dF (by omega))) | refine awl_sk (wf_some rfl rfl rfl rfl (by first | rfl | assumption | exact dT (by omega) | exact dF (by omega))) rfl rfl ?_ | refine awl_nil ?_)
    exact body_p (.cons rfl .nil) rfl
theorem ready_v {b : BookD} (h : readyB b = true) : VBook b ∧ faultN b = 0 := by
  simp only [readyB, Bool.and_eq_true, decide_eq_true_eq] at h
  exact ⟨vbook h.2, h.2⟩
theorem consT_le {cp : Bool} (cs : List ConD) : TrLe (consT cp cs) (consT false cs) := .sl (fun h => by cases h) (fun k hk => ⟨rfl, fun j x x' h1 h2 => by rw [h1] at h2; cases h2; exact .refl _⟩)
theorem bookA_le {cp : Bool} (b : BookD) : AVLe (bookA cp b) (bookA false b) := .ag (.cons (.refl _) (.cons (.t (consT_le _)) .nil))
/-- no more different numbers than there are numbers -/
theorem pigeon : ∀ (h n : Nat) (f : Nat → Nat), (∀ i, i < n → f i < h) → (∀ i j, i < n → j < i → f j ≠ f i) → n ≤ h
  | 0, n, f, hb, _ => by
    rcases Nat.eq_zero_or_pos n with e | e
    · omega
    · exact absurd (hb 0 e) (Nat.not_lt_zero _)
  | h + 1, n, f, hb, hd => by
    by_cases ex : ∃ i, i < n ∧ f i = h
    · obtain ⟨i0, hi0, e0⟩ := ex
      have := pigeon h (n - 1) (fun i => if i < i0 then f i else f (i + 1)) (fun i hi => by
        split
        · have := hb i (by omega)
          have : f i ≠ f i0 := hd i0 i hi0 (by omega)
          omega
        · have := hb (i + 1) (by omega)
          have : f i0 ≠ f (i + 1) := hd (i + 1) i0 (by omega) (by omega)
          omega) (fun i j hi hj => by
        split <;> split <;> first | omega | exact hd _ _ (by omega) (by omega))
      omega
    · have := pigeon h n f (fun i hi => by
        have := hb i hi
        have : f i ≠ h := fun e => ex ⟨i, hi, e⟩
        omega) hd
      omega
theorem acc_add {cs : List ConD} {f g : Nat → Int} (h : Nat) : ∀ k, accN cs (fun i => f i + g i) k h = accN cs f k h + accN cs g k h
  | 0 => rfl
  | k + 1 => by
    simp only [accN]
    rw [acc_add h k]
    split <;> split <;> omega
theorem acc_zero {cs : List ConD} (h : Nat) : ∀ k, accN cs (fun _ => 0) k h = 0
  | 0 => rfl
  | k + 1 => by
    simp only [accN]
    rw [acc_zero h k]
    split <;> split <;> rfl
theorem acc_one {cs : List ConD} {x : Nat} {v : Int} (h : Nat) : ∀ k, accN cs (fun i => if (x : Int) = (i : Int) then v else 0) k h = if x < k then (if (cs.getD x default).to = (h : Int) then v else 0) - (if (cs.getD x default).frm = (h : Int) then v else 0) else 0
  | 0 => by simp [accN]
  | k + 1 => by
    simp only [accN]
    rw [acc_one h k]
    by_cases e : x = k
    · subst e
      rw [if_neg (Nat.lt_irrefl _), if_pos (Nat.lt_succ_self _), if_pos rfl]
      omega
    · rw [if_neg (c := (x : Int) = (k : Int)) (by omega)]
      simp only [ite_self, Int.add_zero, Int.sub_zero]
      by_cases c : x < k
      · rw [if_pos c, if_pos (c := x < k + 1) (by omega)]
      · rw [if_neg c, if_neg (c := x < k + 1) (by omega)]
end Go.Proofs.Ytilhflfbbfeakaa
end
section
section
namespace Go.Proofs.Ytilhflfbbfeakaa
open Go Go.RowKit Go.Tl
set_option linter.unusedVariables false
set_option linter.unusedSimpArgs false
abbrev Arc := Nat × Bool
/-- where an arc begins, where it leads to, what it costs -/
def aF (b : BookD) (a : Arc) : Nat := if a.2 then (b.cons.getD a.1 default).to.toNat else (b.cons.getD a.1 default).frm.toNat
def aT (b : BookD) (a : Arc) : Nat := if a.2 then (b.cons.getD a.1 default).frm.toNat else (b.cons.getD a.1 default).to.toNat
def aC (a : Arc) : Int := if a.2 then 1 else -1
/-- the arcs along which something is left -/
def arcsL (f : Arc → Int) : Nat → List Arc
  | 0 => []
  | k + 1 => (arcsL f k ++ if 0 < f (k, false) then [(k, false)] else []) ++ if 0 < f (k, true) then [(k, true)] else []
theorem mem_arcs {f : Arc → Int} {a : Arc} : ∀ {n : Nat}, a ∈ arcsL f n ↔ a.1 < n ∧ 0 < f a
  | 0 => by simp [arcsL]
  | n + 1 => by
    obtain ⟨i, t⟩ := a
    have ih := mem_arcs (f := f) (a := (i, t)) (n := n)
    simp only [arcsL, List.mem_append]
    rw [ih]
    have e1 : ((i, t) ∈ if 0 < f (n, false) then [((n, false) : Arc)] else []) ↔ (i = n ∧ t = false ∧ 0 < f (n, false)) := by
      split <;> simp_all
    have e2 : ((i, t) ∈ if 0 < f (n, true) then [((n, true) : Arc)] else []) ↔ (i = n ∧ t = true ∧ 0 < f (n, true)) := by
      split <;> simp_all
    rw [e1, e2]
    constructor
    · rintro ((⟨h1, h2⟩ | ⟨rfl, rfl, h⟩) | ⟨rfl, rfl, h⟩)
      · exact ⟨Nat.lt_succ_of_lt h1, h2⟩
      · exact ⟨Nat.lt_succ_self _, h⟩
      · exact ⟨Nat.lt_succ_self _, h⟩
    · rintro ⟨h1, h2⟩
      have h1 : i < n + 1 := h1
      by_cases e : i = n
      · subst e
        cases t
        · exact .inl (.inr ⟨rfl, rfl, h2⟩)
        · exact .inr ⟨rfl, rfl, h2⟩
      · exact .inl (.inl ⟨by show i < n; omega, h2⟩)
/-- one arc's step -/
def sh1 (b : BookD) (d : Nat → Int) (s : (Nat → Int) × (Nat → Arc)) (a : Arc) : (Nat → Int) × (Nat → Arc) :=
  if d (aF b a) + aC a < s.1 (aT b a) then (fun v => if v = aT b a then d (aF b a) + aC a else s.1 v, fun v => if v = aT b a then a else s.2 v) else s
def shL (b : BookD) (d : Nat → Int) (bb : Nat → Arc) (L : List Arc) : (Nat → Int) × (Nat → Arc) := L.foldl (sh1 b d) (d, bb)
structure ShInv (b : BookD) (d : Nat → Int) (bb : Nat → Arc) (L : List Arc) (s : (Nat → Int) × (Nat → Arc)) : Prop where
  le : ∀ v, s.1 v ≤ d v
  ok : ∀ a ∈ L, s.1 (aT b a) ≤ d (aF b a) + aC a
  how : ∀ v, (s.1 v = d v ∧ s.2 v = bb v) ∨ (s.1 v < d v ∧ s.2 v ∈ L ∧ aT b (s.2 v) = v ∧ s.1 v = d (aF b (s.2 v)) + aC (s.2 v))
/-- the rounds -/
def bfR (b : BookD) (L : List Arc) : Nat → (Nat → Int) × (Nat → Arc)
  | 0 => (fun _ => 0, fun _ => (0, false))
  | k + 1 => shL b (bfR b L k).1 (bfR b L k).2 L
/-- the last round in which a distance became shorter -/
def bfT (b : BookD) (L : List Arc) : Nat → Nat → Nat
  | 0, _ => 0
  | k + 1, v => if (bfR b L (k + 1)).1 v < (bfR b L k).1 v then k + 1 else bfT b L k v
section
variable {b : BookD} {L : List Arc}
structure BfInv (b : BookD) (L : List Arc) (k : Nat) : Prop where
  fe : ∀ a ∈ L, k = 0 ∨ bfT b L k (aF b a) = k ∨ (bfR b L k).1 (aT b a) ≤ (bfR b L k).1 (aF b a) + aC a
  arc : ∀ v, 0 < bfT b L k v → (bfR b L k).2 v ∈ L ∧ aT b ((bfR b L k).2 v) = v ∧ bfT b L k v ≤ bfT b L k (aF b ((bfR b L k).2 v)) + 1 ∧
    (bfR b L k).1 (aF b ((bfR b L k).2 v)) + aC ((bfR b L k).2 v) ≤ (bfR b L k).1 v ∧
    (bfT b L k v ≤ bfT b L k (aF b ((bfR b L k).2 v)) → (bfR b L k).1 (aF b ((bfR b L k).2 v)) + aC ((bfR b L k).2 v) + 1 ≤ (bfR b L k).1 v)
end
theorem least {P : Nat → Prop} : ∀ n, P n → ∃ m, m ≤ n ∧ P m ∧ ∀ k, k < m → ¬ P k := fun n => by
  induction n using Nat.strongRecOn with
  | _ n ih =>
    intro h
    by_cases ex : ∃ k, k < n ∧ P k
    · obtain ⟨k, hk, hP⟩ := ex
      obtain ⟨m, h1, h2, h3⟩ := ih k hk hP
      exact ⟨m, by omega, h2, h3⟩
    · exact ⟨n, Nat.le_refl _, h, fun k hk hP => ex ⟨k, hk, hP⟩⟩
/-- arcs that lead in a ring -/
structure CycA (b : BookD) (L : List Arc) (arc : Nat → Arc) (c : Nat → Nat) (q : Nat) : Prop where
  pos : 1 ≤ q
  mem : ∀ m, m < q → arc m ∈ L
  to : ∀ m, m < q → aT b (arc m) = c m
  frm : ∀ m, m < q → aF b (arc m) = c (m + 1)
  back : c q = c 0
  ne : ∀ m k, m < q → k < m → c k ≠ c m
  cost : sumR q (fun m => aC (arc m)) < 0
end Go.Proofs.Ytilhflfbbfeakaa
end
section
namespace Go.Proofs.Ytilhflfbbfeakaa
open Go Go.RowKit Go.Tl
set_option linter.unusedVariables false
set_option linter.unusedSimpArgs false
/-- how much more can be set off along an arc -/
def fL (cap off : Nat → Int) (a : Arc) : Int := if a.2 then off a.1 else cap a.1 - off a.1
/-- a setting off: each house gets what it gives -/
structure OffF (b : BookD) (cap off : Nat → Int) : Prop where
  bd : ∀ i, i < b.cons.length → 0 ≤ off i ∧ off i ≤ cap i
  net : ∀ h, accN b.cons off b.cons.length h = 0
/-- one arc more -/
def psh (off : Nat → Int) (a : Arc) (x : Int) : Nat → Int := fun i => if i = a.1 then (if a.2 then off i - x else off i + x) else off i
def pshR (off : Nat → Int) (arc : Nat → Arc) (x : Int) : Nat → Nat → Int
  | 0 => off
  | m + 1 => psh (pshR off arc x m) (arc m) x
/-- what has been set off along an arc -/
def eff (arc : Nat → Arc) (x : Int) (a : Arc) : Nat → Int
  | 0 => 0
  | m + 1 => eff arc x a m + if arc m = a then x else 0
theorem pshR_eff (off : Nat → Int) (arc : Nat → Arc) (x : Int) (i : Nat) : ∀ m, pshR off arc x m i = off i + eff arc x (i, false) m - eff arc x (i, true) m
  | 0 => by simp [pshR, eff]
  | m + 1 => by
    have ih := pshR_eff off arc x i m
    simp only [pshR, psh, eff]
    rcases h : arc m with ⟨j, t⟩
    by_cases c : i = j
    · subst c
      rw [if_pos rfl, ih]
      cases t
      · rw [if_pos (c := ((i, false) : Arc) = (i, false)) rfl, if_neg (c := ((i, false) : Arc) = (i, true)) (by simp)]
        simp; omega
      · rw [if_neg (c := ((i, true) : Arc) = (i, false)) (by simp), if_pos (c := ((i, true) : Arc) = (i, true)) rfl]
        simp; omega
    · rw [if_neg c, ih, if_neg (fun h => c (by cases h; rfl)), if_neg (fun h => c (by cases h; rfl))]
      omega
theorem eff_one {arc : Nat → Arc} {x : Int} {a : Arc} : ∀ m, (∀ j k, j < m → k < j → arc k ≠ arc j) → eff arc x a m = 0 ∨ (eff arc x a m = x ∧ ∃ j, j < m ∧ arc j = a)
  | 0, _ => .inl rfl
  | m + 1, h => by
    have ih := eff_one (x := x) (a := a) m (fun j k hj hk => h j k (by omega) hk)
    simp only [eff]
    by_cases c : arc m = a
    · rw [if_pos c]
      rcases ih with h0 | ⟨_, j, hj, e⟩
      · exact .inr ⟨by rw [h0]; omega, m, Nat.lt_succ_self _, c⟩
      · exact absurd (e.trans c.symm) (h m j (Nat.lt_succ_self _) hj)
    · rw [if_neg c, Int.add_zero]
      rcases ih with h0 | ⟨h1, j, hj, e⟩
      · exact .inl h0
      · exact .inr ⟨h1, j, by omega, e⟩
theorem pshR_bd {n : Nat} {cap off : Nat → Int} {arc : Nat → Arc} {x : Int} {q : Nat} (hbd : ∀ i, i < n → 0 ≤ off i ∧ off i ≤ cap i) (hx : 0 ≤ x) (hd : ∀ j k, j < q → k < j → arc k ≠ arc j) (hle : ∀ j, j < q → x ≤ fL cap off (arc j)) (i : Nat) (hi : i < n) :
    0 ≤ pshR off arc x q i ∧ pshR off arc x q i ≤ cap i := by
  have h0 := hbd i hi
  rw [pshR_eff]
  rcases eff_one (x := x) (a := (i, false)) q hd with h1 | ⟨h1, j, hj, e⟩ <;> rcases eff_one (x := x) (a := (i, true)) q hd with h2 | ⟨h2, j', hj', e'⟩
  · rw [h1, h2]; omega
  · have := hle j' hj'
    rw [e'] at this
    have : x ≤ off i := this
    rw [h1, h2]; omega
  · have := hle j hj
    rw [e] at this
    have : x ≤ cap i - off i := this
    rw [h1, h2]; omega
  · rw [h1, h2]; omega
theorem psh_fun (off : Nat → Int) (a : Arc) (x : Int) : psh off a x = fun i => off i + (if (a.1 : Int) = (i : Int) then (if a.2 then -x else x) else 0) := by
  funext i
  unfold psh
  by_cases c : i = a.1
  · subst c; rw [if_pos rfl, if_pos rfl]; cases a.2 <;> simp <;> omega
  · rw [if_neg c, if_neg (c := (a.1 : Int) = (i : Int)) (by omega)]; omega
theorem ite_cast {t : Int} (h0 : 0 ≤ t) (h : Nat) (v : Int) : (if t = (h : Int) then v else 0) = if t.toNat = h then v else 0 := by
  by_cases c : t = (h : Int)
  · rw [if_pos c, if_pos (by omega)]
  · rw [if_neg c, if_neg (by omega)]
theorem psh_acc {b : BookD} (hv : VBook b) (off : Nat → Int) {a : Arc} (ha : a.1 < b.cons.length) (x : Int) (h : Nat) :
    accN b.cons (psh off a x) b.cons.length h = accN b.cons off b.cons.length h + (if aT b a = h then x else 0) - (if aF b a = h then x else 0) := by
  rw [psh_fun, acc_add, acc_one, if_pos ha]
  have hf := hv.frm a.1 ha
  have ht := hv.to a.1 ha
  unfold aT aF
  rw [ite_cast hf.1, ite_cast ht.1]
  cases hb : a.2
  · simp only [Bool.false_eq_true, if_false]
    split <;> split <;> omega
  · simp only [if_true]
    split <;> split <;> omega
theorem pshR_acc {b : BookD} (hv : VBook b) (off : Nat → Int) {arc : Nat → Arc} {c : Nat → Nat} {q : Nat} (x : Int) (h : Nat) (hi : ∀ m, m < q → (arc m).1 < b.cons.length) (ht : ∀ m, m < q → aT b (arc m) = c m) (hf : ∀ m, m < q → aF b (arc m) = c (m + 1)) :
    ∀ m, m ≤ q → accN b.cons (pshR off arc x m) b.cons.length h = accN b.cons off b.cons.length h + (if c 0 = h then x else 0) - (if c m = h then x else 0)
  | 0, _ => by simp only [pshR]; omega
  | m + 1, hm => by
    have ih := pshR_acc hv off x h hi ht hf m (by omega)
    simp only [pshR]
    rw [psh_acc hv _ (hi m (by omega)), ih, ht m (by omega), hf m (by omega)]
    omega
theorem sumR_psh (off : Nat → Int) (a : Arc) (x : Int) : ∀ n, sumR n (psh off a x) = sumR n off + if a.1 < n then (if a.2 then -x else x) else 0
  | 0 => by simp [sumR, sumI]
  | n + 1 => by
    rw [sumR_succ, sumR_succ, sumR_psh off a x n]
    unfold psh
    by_cases c : n = a.1
    · subst c
      rw [if_neg (Nat.lt_irrefl _), if_pos rfl, if_pos (Nat.lt_succ_self _)]
      split <;> omega
    · rw [if_neg c]
      by_cases c2 : a.1 < n
      · rw [if_pos c2, if_pos (c := a.1 < n + 1) (by omega)]; omega
      · rw [if_neg c2, if_neg (c := a.1 < n + 1) (by omega)]; omega
theorem sumR_pshR (off : Nat → Int) {arc : Nat → Arc} {n q : Nat} (x : Int) (hi : ∀ m, m < q → (arc m).1 < n) : ∀ m, m ≤ q → sumR n (pshR off arc x m) = sumR n off - x * sumR m (fun j => aC (arc j))
  | 0, _ => by simp [pshR, sumR, sumI]
  | m + 1, hm => by
    simp only [pshR]
    rw [sumR_psh, sumR_pshR off x hi m (by omega), if_pos (hi m (by omega)), sumR_succ, Int.mul_add]
    unfold aC
    split
    · rw [Int.mul_one]; omega
    · rw [show x * (-1 : Int) = -x by omega]; omega
/-- what is set off along a ring -/
theorem cyc_off {b : BookD} (hv : VBook b) {cap off : Nat → Int} {arc : Nat → Arc} {c : Nat → Nat} {q : Nat} {x : Int} (ho : OffF b cap off) (hc : CycA b (arcsL (fL cap off) b.cons.length) arc c q) (hx : 1 ≤ x) (hle : ∀ j, j < q → x ≤ fL cap off (arc j)) :
    OffF b cap (pshR off arc x q) ∧ sumR b.cons.length off + 1 ≤ sumR b.cons.length (pshR off arc x q) := by
  have hi : ∀ m, m < q → (arc m).1 < b.cons.length := fun m hm => (mem_arcs.1 (hc.mem m hm)).1
  have hne : ∀ j k, j < q → k < j → arc k ≠ arc j := fun j k hj hk e => hc.ne j k hj hk (by rw [← hc.to j hj, ← hc.to k (by omega), e])
  refine ⟨⟨fun i hi' => pshR_bd ho.bd (by omega) hne hle i hi', fun h => ?_⟩, ?_⟩
  · rw [pshR_acc hv off x h hi hc.to hc.frm q (Nat.le_refl _), ho.net, hc.back]; omega
  · rw [sumR_pshR off x hi q (Nat.le_refl _)]
    have h1 := hc.cost
    have h2 : x * sumR q (fun m => aC (arc m)) ≤ x * (-1) := Int.mul_le_mul_of_nonneg_left (by omega) (by omega)
    omega
/-! ### Heights -/
/-- what heights prove -/
def provF (b : BookD) (hs : Nat → Int) : Nat → Int
  | 0 => 0
  | k + 1 => provF b hs k + (b.cons.getD k default).num * max 0 (1 + hs (b.cons.getD k default).frm.toNat - hs (b.cons.getD k default).to.toNat)
theorem wsum {b : BookD} (hv : VBook b) (off hs : Nat → Int) : ∀ k, k ≤ b.cons.length → sumR k (fun i => off i * (hs (b.cons.getD i default).to.toNat - hs (b.cons.getD i default).frm.toNat)) = sumR b.houses.toNat (fun h => hs h * accN b.cons off k h)
  | 0, _ => by
    have : (fun h : Nat => hs h * accN b.cons off 0 h) = fun _ => 0 := by funext h; simp [accN]
    rw [this, sumR_zero]; rfl
  | k + 1, hk => by
    have hf := hv.frm k (by omega)
    have ht := hv.to k (by omega)
    have e1 : (fun h : Nat => hs h * accN b.cons off (k + 1) h) = fun h : Nat => hs h * accN b.cons off k h + (if (b.cons.getD k default).to = (h : Int) then off k * hs (b.cons.getD k default).to.toNat else 0) - (if (b.cons.getD k default).frm = (h : Int) then off k * hs (b.cons.getD k default).frm.toNat else 0) := by
      funext h
      simp only [accN]
      rw [Int.mul_sub, Int.mul_add]
      congr 1
      · congr 1
        by_cases c : (b.cons.getD k default).to = (h : Int)
        · rw [if_pos c, if_pos c, Int.mul_comm, c, Int.toNat_natCast]
        · rw [if_neg c, if_neg c, Int.mul_zero]
      · by_cases c : (b.cons.getD k default).frm = (h : Int)
        · rw [if_pos c, if_pos c, Int.mul_comm, c, Int.toNat_natCast]
        · rw [if_neg c, if_neg c, Int.mul_zero]
    rw [sumR_succ, wsum hv off hs k (by omega), e1, sumR_sub, sumR_add, sumR_one ht.1 (by omega), sumR_one hf.1 (by omega), Int.mul_sub]
    omega
end Go.Proofs.Ytilhflfbbfeakaa
end
section
namespace Go.Proofs.Ytilhflfbbfeakaa
open Go Go.RowKit Go.Tl
set_option linter.unusedVariables false
set_option linter.unusedSimpArgs false
section
variable {P : Program} {N : Nat} {o : Oper} {md : Nat → Prop} {s : Slots} {h : List Ent} {K : Slots → List Ent → Prop}
end
end Go.Proofs.Ytilhflfbbfeakaa
end
end
section
namespace Go.Proofs.Ytilhflfbbfeakaa
open Go Go.RowKit Go.Tl
set_option linter.unusedVariables false
set_option linter.unusedSimpArgs false
set_option maxRecDepth 100000
set_option maxHeartbeats 4000000
attribute [local irreducible] AWP AWL AOp PV LV AWT AWE
/-- a number for each contract, from 0 to its Number -/
def listedB (b : BookD) (l : List Int) : Bool := decide (l.length = b.cons.length) && (List.range l.length).all fun k => inB (l.getD k 0) 0 (b.cons.getD k default).num
theorem listed_iff {b : BookD} {l : List Int} : listedB b l = true ↔ l.length = b.cons.length ∧ ∀ k, k < l.length → 0 ≤ l.getD k 0 ∧ l.getD k 0 ≤ (b.cons.getD k default).num := by
  simp only [listedB, Bool.and_eq_true, decide_eq_true_eq, List.all_eq_true, List.mem_range, inB_iff]
theorem listed_no {b : BookD} {l : List Int} {k : Nat} (hk : k < l.length) (h : inB (l.getD k 0) 0 (b.cons.getD k default).num = false) : listedB b l = false := by
  cases e : listedB b l
  · rfl
  · have := inB_iff.2 ((listed_iff.1 e).2 k hk)
    rw [h] at this; cases this
theorem listed_yes {b : BookD} {l : List Int} (hl : l.length = b.cons.length) (h : ∀ k, k < l.length → inB (l.getD k 0) 0 (b.cons.getD k default).num = true) : listedB b l = true :=
  listed_iff.2 ⟨hl, fun k hk => inB_iff.1 (h k hk)⟩
theorem listed_len {b : BookD} {l : List Int} (hl : l.length ≠ b.cons.length) : listedB b l = false := by
  cases e : listedB b l
  · rfl
  · exact absurd (listed_iff.1 e).1 hl
/-- a setting off -/
def offB (b : BookD) (l : List Int) : Bool := listedB b l && (netL b fun i => l.getD i 0).all fun n => decide (n = 0)
theorem listed_bd {b : BookD} {l : List Int} (hv : VBook b) (h : listedB b l = true) : ∀ i, i < b.cons.length → -1000000 ≤ l.getD i 0 ∧ l.getD i 0 ≤ 1000000 := fun i hi => by
  obtain ⟨e, h⟩ := listed_iff.1 h
  have := h i (by omega)
  have := hv.num i hi
  omega
end Go.Proofs.Ytilhflfbbfeakaa
end
section
namespace Go.Proofs.Ytilhflfbbfeakaa
open Go Go.RowKit Go.Tl
set_option linter.unusedVariables false
set_option linter.unusedSimpArgs false
set_option maxRecDepth 100000
set_option maxHeartbeats 4000000
attribute [local irreducible] AWP AWL AOp PV LV AWT AWE
/-- heights -/
def highB (b : BookD) (hs : List Int) : Bool := decide ((hs.length : Int) = b.houses) && hs.all fun x => inB x (-10) 10
/-- what a contract adds -/
def upN (c : ConD) (hs : List Int) : Int := c.num * max 0 (1 + hs.getD c.frm.toNat 0 - hs.getD c.to.toNat 0)
/-- what the heights prove, by the first contracts -/
def provN (b : BookD) (hs : List Int) : Nat → Int
  | 0 => 0
  | k + 1 => provN b hs k + upN (b.cons.getD k default) hs
section
variable {c : ConD} {hs : List Int} {a : Int} {cp : Bool} {g : Nat} {x : Ent} {u2 u8 : AV} {jf jt : Nat}
end
end Go.Proofs.Ytilhflfbbfeakaa
end
