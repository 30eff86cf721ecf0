/- What comes to each house: plain; the drawn regions of sums and of Net. -/
import Derived.Test.YtilhflfbbfeakaaRb
namespace Go.Proofs.Ytilhflfbbfeakaa
open Go Go.RowKit Go.Tl
set_option linter.unusedVariables false
set_option linter.unusedSimpArgs false
set_option maxRecDepth 100000
set_option maxHeartbeats 4000000
attribute [local irreducible] AWP AWL AOp PV LV AWT AWE
/-- a valid book -/
structure VBook (b : BookD) : Prop where
  houses : 1 ≤ b.houses ∧ b.houses ≤ 6
  len : b.cons.length ≤ 8
  frm : ∀ k, k < b.cons.length → 0 ≤ (b.cons.getD k default).frm ∧ (b.cons.getD k default).frm < b.houses
  to : ∀ k, k < b.cons.length → 0 ≤ (b.cons.getD k default).to ∧ (b.cons.getD k default).to < b.houses
  ne : ∀ k, k < b.cons.length → (b.cons.getD k default).frm ≠ (b.cons.getD k default).to
  num : ∀ k, k < b.cons.length → 1 ≤ (b.cons.getD k default).num ∧ (b.cons.getD k default).num ≤ 100
  price : ∀ k, k < b.cons.length → 1 ≤ (b.cons.getD k default).price ∧ (b.cons.getD k default).price ≤ 1000
theorem vbook {b : BookD} (h : faultN b = 0) : VBook b := by
  unfold faultN at h
  by_cases h1 : 6 < b.houses ∨ 8 < b.cons.length
  · rw [if_pos h1] at h; exact absurd h (by decide)
  rw [if_neg h1] at h
  by_cases h2 : 1 ≤ b.houses ∧ b.cons.all (conB b.houses) = true
  case neg => rw [if_neg h2] at h; exact absurd h (by decide)
  have hc : ∀ k, k < b.cons.length → (0 ≤ (b.cons.getD k default).frm ∧ (b.cons.getD k default).frm ≤ b.houses - 1) ∧ (0 ≤ (b.cons.getD k default).to ∧ (b.cons.getD k default).to ≤ b.houses - 1) ∧ (b.cons.getD k default).frm ≠ (b.cons.getD k default).to ∧ (1 ≤ (b.cons.getD k default).num ∧ (b.cons.getD k default).num ≤ 100) ∧ (1 ≤ (b.cons.getD k default).price ∧ (b.cons.getD k default).price ≤ 1000) := fun k hk => by
    have := (all_getD (d := default)).1 h2.2 k hk
    simpa only [conB, Bool.and_eq_true, inB_iff, decide_eq_true_eq] using this
  exact ⟨by omega, by omega, fun k hk => by have := (hc k hk).1; omega, fun k hk => by have := (hc k hk).2.1; omega, fun k hk => (hc k hk).2.2.1, fun k hk => (hc k hk).2.2.2.1, fun k hk => (hc k hk).2.2.2.2⟩
/-- what has come to a house with the first contracts -/
def accN (cs : List ConD) (f : Nat → Int) : Nat → Nat → Int
  | 0, _ => 0
  | k + 1, h => accN cs f k h + (if (cs.getD k default).to = (h : Int) then f k else 0) - (if (cs.getD k default).frm = (h : Int) then f k else 0)
theorem accN_bd {cs : List ConD} {f : Nat → Int} {B : Int} (hB : 0 ≤ B) : ∀ (k : Nat) (h : Nat), (∀ i, i < k → -B ≤ f i ∧ f i ≤ B) → -(2 * B * k) ≤ accN cs f k h ∧ accN cs f k h ≤ 2 * B * k
  | 0, h, _ => by simp [accN]
  | k + 1, h, hf => by
    have ih := accN_bd (cs := cs) hB k h (fun i hi => hf i (by omega))
    have h1 := hf k (by omega)
    simp only [accN]
    have e : (2 * B * ((k + 1 : Nat) : Int)) = 2 * B * k + 2 * B := by rw [Int.natCast_add, Int.mul_add]; simp
    split <;> split <;> omega
def netL (b : BookD) (f : Nat → Int) : List Int := (List.range b.houses.toNat).map fun h => accN b.cons f b.cons.length h
abbrev nwS (cp : Bool) (xs : List Int) (g2 ga n k : Nat) : Slots := [(1, .t (intsT cp xs)), (2, .v (ptrV g2)), (5, .v (.slice (some ⟨ga, 0, none⟩) n n)), (6, intA k)]
section
variable {b : BookD} {xs : List Int} {cp : Bool} {g2 ga n k j : Nat} {F G : Nat → Int}
theorem net_5 (hk : k < b.cons.length) (hkx : k < xs.length) (hj : (b.cons.getD k default).to = (j : Int)) (hjn : j < n) (b1 : -1000000000 ≤ F j ∧ F j ≤ 1000000000) (b2 : -1000000000 ≤ xs.getD k 0 ∧ xs.getD k 0 ≤ 1000000000) (hG : ∀ q, q < n → G q = if q = j then F j + xs.getD k 0 else F q) {ops : Array Oper} (h : regF Try.f25 5 = some ops) :
    AWP Try.prog Try.f25.ntmps none (.region 5 ops true) (cutQ (fun s h => s = nwS cp xs g2 ga n k ∧ h = [refB g2 b, .rw (.slice (some ⟨ga, 0, none⟩) n n) 3 1 (fRows G n)])) (nwS cp xs g2 ga n k) [refB g2 b, .rw (.slice (some ⟨ga, 0, none⟩) n n) 3 1 (fRows F n)] := by
  cases h
  have r1 : ((fRows F n).getD j [])[0]? = some (intA (F j)) := fRows_at hjn
  have r2 := fRows_len F n
  have hjt : (b.cons.getD k default).to.toNat = j := by omega
  refine awp_tree T0 [(0, 0), (1, 0), (2, 1), (3, 0), (4, 0), (5, 0), (6, 1), (7, 0), (8, 1), (9, 0), (10, 0), (11, 0), (12, 1), (13, 0), (14, 0), (15, 3)] (.op 0 0 (.op 1 0 (.op 2 1 (.op 3 0 (.op 4 0 (.op 5 0 (.op 6 1 (.op 7 0 (.op 8 1 (.op 9 0 (.op 10 0 (.op 11 0 (.op 12 1 (.op 13 0 (.op 14 0 (.op 15 3 .stop)))))))))))))))) [.cl g2 _ _, .rw _ _ _ _] rfl (by kernel_rfl) (by solve | repeat' constructor) ?_
  refine awt_po rfl (wt_none rfl) (pv_move rfl rfl) rfl rfl ?_
  refine awt_po rfl (wt_none rfl) (pv_fa T0 rfl rfl rfl (by simp; rfl)) rfl rfl ?_
  refine awt_lo rfl (wt_none rfl) (lv_cl1 T0 rfl rfl rfl (by solve | repeat' constructor) (by first | rfl | assumption)) rfl rfl rfl ?_
  refine awt_po rfl (wt_none rfl) (pv_move rfl rfl) rfl rfl ?_
  refine awt_po rfl (wt_none rfl) (pv_ix_t T0 rfl rfl rfl rfl (by omega) (by first | exact Int.toNat_natCast _ | rfl)) rfl rfl ?_
  refine awt_po rfl (wt_none rfl) (pv_fa_elt T0 rfl rfl rfl (by simp; rfl)) rfl rfl ?_
  refine awt_lo rfl (wt_none rfl) (lv_elt_sc T0 rfl rfl rfl rfl) rfl rfl rfl ?_
  refine awt_po rfl (wt_none rfl) (pv_ix_own T0 rfl rfl rfl rfl (by omega) hjt) rfl rfl ?_
  refine awt_lo rfl (wt_none rfl) (lv_rp T0 rfl rfl rfl (by solve | repeat' constructor) (by first | omega | (simp; omega)) (by omega) (by first | assumption | rfl)) rfl rfl rfl ?_
  refine awt_po rfl (wt_none rfl) (pv_move rfl rfl) rfl rfl ?_
  refine awt_po rfl (wt_none rfl) (pv_move rfl rfl) rfl rfl ?_
  refine awt_po rfl (wt_none rfl) (pv_ix_t T0 rfl rfl rfl rfl (by omega) (by first | exact Int.toNat_natCast _ | rfl)) rfl rfl ?_
  refine awt_lo rfl (wt_none rfl) (lv_elt_sc T0 rfl rfl rfl rfl) rfl rfl rfl ?_
  refine awt_po rfl (wt_none rfl) (pv_add rfl rfl rfl (by first | assumption | exact wr64 (by omega))) rfl rfl ?_
  refine awt_po rfl (wt_none rfl) (pv_ix_own T0 rfl rfl rfl rfl (by omega) hjt) rfl rfl ?_
  refine awt_s (md := fun _ => True) rfl (wt_none rfl) (aop_store_rp T0 rfl rfl rfl rfl rfl rfl rfl rfl (by solve | repeat' constructor) (by first | omega | (simp; omega)) (by omega) rfl trivial ?_)
  refine awe_end ?_
  simp only [cellsA]
  rw [fRows_set hjn hG]
  exact cut_n ⟨rfl, rfl⟩ (by first | ((repeat' (first | exact True.intro | refine ⟨rfl, ?_⟩)); all_goals fail) | fail) (by solve | repeat' constructor)
theorem net_6 (hk : k < b.cons.length) (hkx : k < xs.length) (hj : (b.cons.getD k default).frm = (j : Int)) (hjn : j < n) (b1 : -1000000000 ≤ F j ∧ F j ≤ 1000000000) (b2 : -1000000000 ≤ xs.getD k 0 ∧ xs.getD k 0 ≤ 1000000000) (hG : ∀ q, q < n → G q = if q = j then F j - xs.getD k 0 else F q) {ops : Array Oper} (h : regF Try.f25 6 = some ops) :
    AWP Try.prog Try.f25.ntmps none (.region 6 ops true) (cutQ (fun s h => s = nwS cp xs g2 ga n k ∧ h = [refB g2 b, .rw (.slice (some ⟨ga, 0, none⟩) n n) 3 1 (fRows G n)])) (nwS cp xs g2 ga n k) [refB g2 b, .rw (.slice (some ⟨ga, 0, none⟩) n n) 3 1 (fRows F n)] := by
  cases h
  have r1 : ((fRows F n).getD j [])[0]? = some (intA (F j)) := fRows_at hjn
  have r2 := fRows_len F n
  have hjt : (b.cons.getD k default).frm.toNat = j := by omega
  refine awp_tree T0 [(0, 0), (1, 0), (2, 1), (3, 0), (4, 0), (5, 0), (6, 1), (7, 0), (8, 1), (9, 0), (10, 0), (11, 0), (12, 1), (13, 0), (14, 0), (15, 3)] (.op 0 0 (.op 1 0 (.op 2 1 (.op 3 0 (.op 4 0 (.op 5 0 (.op 6 1 (.op 7 0 (.op 8 1 (.op 9 0 (.op 10 0 (.op 11 0 (.op 12 1 (.op 13 0 (.op 14 0 (.op 15 3 .stop)))))))))))))))) [.cl g2 _ _, .rw _ _ _ _] rfl (by kernel_rfl) (by solve | repeat' constructor) ?_
  refine awt_po rfl (wt_none rfl) (pv_move rfl rfl) rfl rfl ?_
  refine awt_po rfl (wt_none rfl) (pv_fa T0 rfl rfl rfl (by simp; rfl)) rfl rfl ?_
  refine awt_lo rfl (wt_none rfl) (lv_cl1 T0 rfl rfl rfl (by solve | repeat' constructor) (by first | rfl | assumption)) rfl rfl rfl ?_
  refine awt_po rfl (wt_none rfl) (pv_move rfl rfl) rfl rfl ?_
  refine awt_po rfl (wt_none rfl) (pv_ix_t T0 rfl rfl rfl rfl (by omega) (by first | exact Int.toNat_natCast _ | rfl)) rfl rfl ?_
  refine awt_po rfl (wt_none rfl) (pv_fa_elt T0 rfl rfl rfl (by simp; rfl)) rfl rfl ?_
  refine awt_lo rfl (wt_none rfl) (lv_elt_sc T0 rfl rfl rfl rfl) rfl rfl rfl ?_
  refine awt_po rfl (wt_none rfl) (pv_ix_own T0 rfl rfl rfl rfl (by omega) hjt) rfl rfl ?_
  refine awt_lo rfl (wt_none rfl) (lv_rp T0 rfl rfl rfl (by solve | repeat' constructor) (by first | omega | (simp; omega)) (by omega) (by first | assumption | rfl)) rfl rfl rfl ?_
  refine awt_po rfl (wt_none rfl) (pv_move rfl rfl) rfl rfl ?_
  refine awt_po rfl (wt_none rfl) (pv_move rfl rfl) rfl rfl ?_
  refine awt_po rfl (wt_none rfl) (pv_ix_t T0 rfl rfl rfl rfl (by omega) (by first | exact Int.toNat_natCast _ | rfl)) rfl rfl ?_
  refine awt_lo rfl (wt_none rfl) (lv_elt_sc T0 rfl rfl rfl rfl) rfl rfl rfl ?_
  refine awt_po rfl (wt_none rfl) (pv_sub rfl rfl rfl (by first | assumption | exact wr64 (by omega))) rfl rfl ?_
  refine awt_po rfl (wt_none rfl) (pv_ix_own T0 rfl rfl rfl rfl (by omega) hjt) rfl rfl ?_
  refine awt_s (md := fun _ => True) rfl (wt_none rfl) (aop_store_rp T0 rfl rfl rfl rfl rfl rfl rfl rfl (by solve | repeat' constructor) (by first | omega | (simp; omega)) (by omega) rfl trivial ?_)
  refine awe_end ?_
  simp only [cellsA]
  rw [fRows_set hjn hG]
  exact cut_n ⟨rfl, rfl⟩ (by first | ((repeat' (first | exact True.intro | refine ⟨rfl, ?_⟩)); all_goals fail) | fail) (by solve | repeat' constructor)
end
abbrev swS (fv t14 e21 : AV) (l15 : Int) (g7 g9 ga n k q : Nat) : Slots := [(1, fv), (5, .v (.slice (some ⟨ga, 0, none⟩) n n)), (6, intA k), (7, .v (ptrV g7)), (9, .v (ptrV g9)), (14, t14), (15, intA l15), (16, intA k), (21, e21), (22, intA q)]
section
variable {c : ConD} {fv t14 e21 : AV} {l15 : Int} {q : Nat} {g7 g9 ga n k j gN F : Nat} {fsN csN : List AV} {o : Ob} {A G : Nat → Int} {v : Int}
theorem sums_8b (hF : PCall Try.prog F [conA c] (fun r => r = intA (j : Int))) (hFn : T0.fns.any F.beq = true) (hcal : Tl.Callee fv gN fsN csN) (hg : T0.fns.any gN.beq = true)
    (hnum : ACall Try.prog gN (fsN ++ [intA k] ++ csN) [.ob o] (fun r h' => r = intA v ∧ h' = [.ob o])) (hjn : j < n) (b1 : -1000000000 ≤ A j ∧ A j ≤ 1000000000) (b2 : -1000000000 ≤ v ∧ v ≤ 1000000000) (hG : ∀ q, q < n → G q = if q = j then A j + 1 * v else A q) {ops : Array Oper} (h : regF Try.f57 8 = some ops) :
    AWP Try.prog Try.f57.ntmps none (.region 8 ops true) (cutQ (fun s h => s = swS fv t14 e21 l15 g7 g9 ga n k q ∧ h = [.cl g9 110 [.v (.func (.func F) #[] #[]), intA 1], .cl g7 83 [intA c.frm, intA c.to, intA c.num, intA c.price], .rw (.slice (some ⟨ga, 0, none⟩) n n) 3 1 (fRows G n), .ob o]))
      (swS fv t14 e21 l15 g7 g9 ga n k q) [.cl g9 110 [.v (.func (.func F) #[] #[]), intA 1], .cl g7 83 [intA c.frm, intA c.to, intA c.num, intA c.price], .rw (.slice (some ⟨ga, 0, none⟩) n n) 3 1 (fRows A n), .ob o] := by
  cases h
  have r1 : ((fRows A n).getD j [])[0]? = some (intA (A j)) := fRows_at hjn
  have r2 := fRows_len A n
  refine awp_tree T0 [(0, 0), (1, 0), (2, 1), (3, 1), (7, 0), (8, 1), (9, 0), (10, 0), (4, 2), (5, 0), (6, 1), (11, 2), (12, 0), (13, 0), (14, 0), (15, 3)] (.op 0 0 (.op 1 0 (.op 2 1 (.op 3 1 (.op 7 0 (.op 8 1 (.op 9 0 (.op 10 0 (.op 4 2 (.op 5 0 (.op 6 1 (.op 11 2 (.op 12 0 (.op 13 0 (.op 14 0 (.op 15 3 .stop)))))))))))))))) [.cl g9 110 _, .cl g7 83 _, .rw _ _ _ _] rfl (by kernel_rfl) (by solve | repeat' constructor) ?_
  refine awt_po rfl (wt_none rfl) (pv_move rfl rfl) rfl rfl ?_
  refine awt_po rfl (wt_none rfl) (pv_fa T0 rfl rfl rfl (by simp; rfl)) rfl rfl ?_
  refine awt_lo rfl (wt_none rfl) (lv_cl1 T0 rfl rfl rfl (by solve | repeat' constructor) (by first | rfl | assumption)) rfl rfl rfl ?_
  refine awt_lo rfl (wt_none rfl) (lv_cla T0 rfl rfl rfl (by solve | repeat' constructor) rfl) rfl rfl rfl ?_
  refine awt_po rfl (wt_none rfl) (pv_fa T0 rfl rfl rfl (by simp; rfl)) rfl rfl ?_
  refine awt_lo rfl (wt_none rfl) (lv_cl1 T0 rfl rfl rfl (by solve | repeat' constructor) (by first | rfl | assumption)) rfl rfl rfl ?_
  refine awt_po rfl (wt_none rfl) (pv_move rfl rfl) rfl rfl ?_
  refine awt_po rfl (wt_none rfl) (pv_move rfl rfl) rfl rfl ?_
  refine awt_h (hm := []) rfl (wt_none rfl) (by solve | repeat' constructor) rfl (st_call T0 (hF) rfl rfl rfl rfl (by first | exact callee_lit | exact callee_v | exact callee_fn | assumption) (by solve | repeat' constructor) (by first | rfl | assumption) rfl ?_)
  (rintro _ rfl; refine awt_lit 29 rfl ?_)
  refine awt_po rfl (wt_none rfl) (pv_ix_own T0 rfl rfl rfl rfl (by omega) (by first | exact Int.toNat_natCast _ | rfl)) rfl rfl ?_
  refine awt_lo rfl (wt_none rfl) (lv_rp T0 rfl rfl rfl (by solve | repeat' constructor) (by first | omega | (simp; omega)) (by omega) (by first | assumption | rfl)) rfl rfl rfl ?_
  refine awt_h (hm := _) rfl (wt_none rfl) ?sub rfl (st_acall T0 (hnum) rfl rfl rfl rfl (by first | exact callee_lit | exact callee_v | exact callee_fn | assumption) (by solve | repeat' constructor) (by first | rfl | assumption) rfl (by first | ((repeat' (first | exact SubH.refl _ | apply SubH.cons | exact Pick.here | apply Pick.there)); all_goals fail) | fail) (fun b hb => hb) ?_)
  case sub => exact (by solve | repeat' constructor)
  rintro r h ⟨rfl, rfl⟩
  refine awt_n1 rfl (wt_none rfl) (pv_mul rfl rfl rfl (by first | assumption | exact wr64 (by omega))) rfl rfl rfl ?_
  refine awt_n1 rfl (wt_none rfl) (pv_add rfl rfl rfl (by first | assumption | exact wr64 (by omega))) rfl rfl rfl ?_
  refine awt_po rfl (wt_none rfl) (pv_ix_own T0 rfl rfl rfl rfl (by omega) (by first | exact Int.toNat_natCast _ | rfl)) rfl rfl ?_
  refine awt_s (md := fun _ => True) rfl (wt_none rfl) (aop_store_rp T0 rfl rfl rfl rfl rfl rfl rfl rfl (by solve | repeat' constructor) (by first | omega | (simp; omega)) (by omega) rfl trivial ?_)
  refine awe_end ?_
  simp only [cellsA]
  rw [fRows_set hjn hG]
  exact cut_n ⟨rfl, rfl⟩ (by first | ((repeat' (first | exact True.intro | refine ⟨rfl, ?_⟩)); all_goals fail) | fail) (by solve | repeat' constructor)
theorem sums_8s (hF : PCall Try.prog F [conA c] (fun r => r = intA (j : Int))) (hFn : T0.fns.any F.beq = true) (hcal : Tl.Callee fv gN fsN csN) (hg : T0.fns.any gN.beq = true)
    (hnum : ACall Try.prog gN (fsN ++ [intA k] ++ csN) [.ob o] (fun r h' => r = intA v ∧ h' = [.ob o])) (hjn : j < n) (b1 : -1000000000 ≤ A j ∧ A j ≤ 1000000000) (b2 : -1000000000 ≤ v ∧ v ≤ 1000000000) (hG : ∀ q, q < n → G q = if q = j then A j + -1 * v else A q) {ops : Array Oper} (h : regF Try.f57 8 = some ops) :
    AWP Try.prog Try.f57.ntmps none (.region 8 ops true) (cutQ (fun s h => s = swS fv t14 e21 l15 g7 g9 ga n k q ∧ h = [.cl g9 110 [.v (.func (.func F) #[] #[]), intA (-1)], .cl g7 83 [intA c.frm, intA c.to, intA c.num, intA c.price], .rw (.slice (some ⟨ga, 0, none⟩) n n) 3 1 (fRows G n), .ob o]))
      (swS fv t14 e21 l15 g7 g9 ga n k q) [.cl g9 110 [.v (.func (.func F) #[] #[]), intA (-1)], .cl g7 83 [intA c.frm, intA c.to, intA c.num, intA c.price], .rw (.slice (some ⟨ga, 0, none⟩) n n) 3 1 (fRows A n), .ob o] := by
  cases h
  have r1 : ((fRows A n).getD j [])[0]? = some (intA (A j)) := fRows_at hjn
  have r2 := fRows_len A n
  refine awp_tree T0 [(0, 0), (1, 0), (2, 1), (3, 1), (7, 0), (8, 1), (9, 0), (10, 0), (4, 2), (5, 0), (6, 1), (11, 2), (12, 0), (13, 0), (14, 0), (15, 3)] (.op 0 0 (.op 1 0 (.op 2 1 (.op 3 1 (.op 7 0 (.op 8 1 (.op 9 0 (.op 10 0 (.op 4 2 (.op 5 0 (.op 6 1 (.op 11 2 (.op 12 0 (.op 13 0 (.op 14 0 (.op 15 3 .stop)))))))))))))))) [.cl g9 110 _, .cl g7 83 _, .rw _ _ _ _] rfl (by kernel_rfl) (by solve | repeat' constructor) ?_
  refine awt_po rfl (wt_none rfl) (pv_move rfl rfl) rfl rfl ?_
  refine awt_po rfl (wt_none rfl) (pv_fa T0 rfl rfl rfl (by simp; rfl)) rfl rfl ?_
  refine awt_lo rfl (wt_none rfl) (lv_cl1 T0 rfl rfl rfl (by solve | repeat' constructor) (by first | rfl | assumption)) rfl rfl rfl ?_
  refine awt_lo rfl (wt_none rfl) (lv_cla T0 rfl rfl rfl (by solve | repeat' constructor) rfl) rfl rfl rfl ?_
  refine awt_po rfl (wt_none rfl) (pv_fa T0 rfl rfl rfl (by simp; rfl)) rfl rfl ?_
  refine awt_lo rfl (wt_none rfl) (lv_cl1 T0 rfl rfl rfl (by solve | repeat' constructor) (by first | rfl | assumption)) rfl rfl rfl ?_
  refine awt_po rfl (wt_none rfl) (pv_move rfl rfl) rfl rfl ?_
  refine awt_po rfl (wt_none rfl) (pv_move rfl rfl) rfl rfl ?_
  refine awt_h (hm := []) rfl (wt_none rfl) (by solve | repeat' constructor) rfl (st_call T0 (hF) rfl rfl rfl rfl (by first | exact callee_lit | exact callee_v | exact callee_fn | assumption) (by solve | repeat' constructor) (by first | rfl | assumption) rfl ?_)
  (rintro _ rfl; refine awt_lit 29 rfl ?_)
  refine awt_po rfl (wt_none rfl) (pv_ix_own T0 rfl rfl rfl rfl (by omega) (by first | exact Int.toNat_natCast _ | rfl)) rfl rfl ?_
  refine awt_lo rfl (wt_none rfl) (lv_rp T0 rfl rfl rfl (by solve | repeat' constructor) (by first | omega | (simp; omega)) (by omega) (by first | assumption | rfl)) rfl rfl rfl ?_
  refine awt_h (hm := _) rfl (wt_none rfl) ?sub rfl (st_acall T0 (hnum) rfl rfl rfl rfl (by first | exact callee_lit | exact callee_v | exact callee_fn | assumption) (by solve | repeat' constructor) (by first | rfl | assumption) rfl (by first | ((repeat' (first | exact SubH.refl _ | apply SubH.cons | exact Pick.here | apply Pick.there)); all_goals fail) | fail) (fun b hb => hb) ?_)
  case sub => exact (by solve | repeat' constructor)
  rintro r h ⟨rfl, rfl⟩
  refine awt_n1 rfl (wt_none rfl) (pv_mul rfl rfl rfl (by first | assumption | exact wr64 (by omega))) rfl rfl rfl ?_
  refine awt_n1 rfl (wt_none rfl) (pv_add rfl rfl rfl (by first | assumption | exact wr64 (by omega))) rfl rfl rfl ?_
  refine awt_po rfl (wt_none rfl) (pv_ix_own T0 rfl rfl rfl rfl (by omega) (by first | exact Int.toNat_natCast _ | rfl)) rfl rfl ?_
  refine awt_s (md := fun _ => True) rfl (wt_none rfl) (aop_store_rp T0 rfl rfl rfl rfl rfl rfl rfl rfl (by solve | repeat' constructor) (by first | omega | (simp; omega)) (by omega) rfl trivial ?_)
  refine awe_end ?_
  simp only [cellsA]
  rw [fRows_set hjn hG]
  exact cut_n ⟨rfl, rfl⟩ (by first | ((repeat' (first | exact True.intro | refine ⟨rfl, ?_⟩)); all_goals fail) | fail) (by solve | repeat' constructor)
end
end Go.Proofs.Ytilhflfbbfeakaa
