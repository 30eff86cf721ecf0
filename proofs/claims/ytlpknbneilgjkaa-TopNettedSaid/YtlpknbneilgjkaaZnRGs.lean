/- Joined texts: RRc0, RRc, RRe, RGs. -/
import Derived.Test.YtlpknbneilgjkaaZnRRb
import Derived.Test.YtlpknbneilgjkaaZnGTs
import Derived.Test.YtlpknbneilgjkaaZnRFr
section
namespace Go.Proofs.Ytlpknbneilgjkaa.R
open Go Go.RowKit Go.Tl
set_option linter.unusedVariables false
set_option linter.unusedSimpArgs false
set_option maxRecDepth 100000
set_option maxHeartbeats 4000000
attribute [local irreducible] AWP AWL AOp PV LV AWT AWE
structure VBook (b : BookD) : Prop where
  houses : 1 ≤ b.houses ∧ b.houses ≤ 6
  len : b.cons.length ≤ 8
  frm : ∀ k, k < b.cons.length → 0 ≤ (b.cons.getD k default).frm ∧ (b.cons.getD k default).frm < b.houses
  to : ∀ k, k < b.cons.length → 0 ≤ (b.cons.getD k default).to ∧ (b.cons.getD k default).to < b.houses
  ne : ∀ k, k < b.cons.length → (b.cons.getD k default).frm ≠ (b.cons.getD k default).to
  num : ∀ k, k < b.cons.length → 1 ≤ (b.cons.getD k default).num ∧ (b.cons.getD k default).num ≤ 100
  price : ∀ k, k < b.cons.length → 1 ≤ (b.cons.getD k default).price ∧ (b.cons.getD k default).price ≤ 1000
theorem vbook {b : BookD} (h : faultN b = 0) : VBook b := by
  unfold faultN at h
  by_cases h1 : 6 < b.houses ∨ 8 < b.cons.length
  · rw [if_pos h1] at h; exact absurd h (by decide)
  rw [if_neg h1] at h
  by_cases h2 : 1 ≤ b.houses ∧ b.cons.all (conB b.houses) = true
  case neg => rw [if_neg h2] at h; exact absurd h (by decide)
  have hc : ∀ k, k < b.cons.length → (0 ≤ (b.cons.getD k default).frm ∧ (b.cons.getD k default).frm ≤ b.houses - 1) ∧ (0 ≤ (b.cons.getD k default).to ∧ (b.cons.getD k default).to ≤ b.houses - 1) ∧ (b.cons.getD k default).frm ≠ (b.cons.getD k default).to ∧ (1 ≤ (b.cons.getD k default).num ∧ (b.cons.getD k default).num ≤ 100) ∧ (1 ≤ (b.cons.getD k default).price ∧ (b.cons.getD k default).price ≤ 1000) := fun k hk => by
    have := (all_getD (d := default)).1 h2.2 k hk
    simpa only [conB, Bool.and_eq_true, inB_iff, decide_eq_true_eq] using this
  exact ⟨by omega, by omega, fun k hk => by have := (hc k hk).1; omega, fun k hk => by have := (hc k hk).2.1; omega, fun k hk => (hc k hk).2.2.1, fun k hk => (hc k hk).2.2.2.1, fun k hk => (hc k hk).2.2.2.2⟩
def accN (cs : List ConD) (f : Nat → Int) : Nat → Nat → Int
  | 0, _ => 0
  | k + 1, h => accN cs f k h + (if (cs.getD k default).to = (h : Int) then f k else 0) - (if (cs.getD k default).frm = (h : Int) then f k else 0)
theorem accN_bd {cs : List ConD} {f : Nat → Int} {B : Int} (hB : 0 ≤ B) : ∀ (k : Nat) (h : Nat), (∀ i, i < k → -B ≤ f i ∧ f i ≤ B) → -(2 * B * k) ≤ accN cs f k h ∧ accN cs f k h ≤ 2 * B * k
  | 0, h, _ => by simp [accN]
  | k + 1, h, hf => by
    have ih := accN_bd (cs := cs) hB k h (fun i hi => hf i (by omega))
    have h1 := hf k (by omega)
    simp only [accN]
    have e : (2 * B * ((k + 1 : Nat) : Int)) = 2 * B * k + 2 * B := by rw [Int.natCast_add, Int.mul_add]; simp
    split <;> split <;> omega
def netL (b : BookD) (f : Nat → Int) : List Int := (List.range b.houses.toNat).map fun h => accN b.cons f b.cons.length h
abbrev nwS (cp : Bool) (xs : List Int) (g2 ga n k : Nat) : Slots := [(1, .t (intsT cp xs)), (2, .v (ptrV g2)), (5, .v (.slice (some ⟨ga, 0, none⟩) n n)), (6, intA k)]
section
variable {b : BookD} {xs : List Int} {cp : Bool} {g2 ga n k j : Nat} {F G : Nat → Int}
theorem net_5 (hk : k < b.cons.length) (hkx : k < xs.length) (hj : (b.cons.getD k default).to = (j : Int)) (hjn : j < n) (b1 : -1000000000 ≤ F j ∧ F j ≤ 1000000000) (b2 : -1000000000 ≤ xs.getD k 0 ∧ xs.getD k 0 ≤ 1000000000) (hG : ∀ q, q < n → G q = if q = j then F j + xs.getD k 0 else F q) {ops : Array Oper} (h : regF Try.f68 5 = some ops) :
    AWP Try.prog Try.f68.ntmps none (.region 5 ops true) (cutQ (fun s h => s = nwS cp xs g2 ga n k ∧ h = [refB g2 b, .rw (.slice (some ⟨ga, 0, none⟩) n n) 3 1 (fRows G n)])) (nwS cp xs g2 ga n k) [refB g2 b, .rw (.slice (some ⟨ga, 0, none⟩) n n) 3 1 (fRows F n)] := by
  cases h
  have r1 : ((fRows F n).getD j [])[0]? = some (intA (F j)) := fRows_at hjn
  have r2 := fRows_len F n
  have hjt : (b.cons.getD k default).to.toNat = j := by omega
  refine awp_tree T0 [(0, 0), (1, 0), (2, 1), (3, 0), (4, 0), (5, 0), (6, 1), (7, 0), (8, 1), (9, 0), (10, 0), (11, 0), (12, 1), (13, 0), (14, 0), (15, 3)] (.op 0 0 (.op 1 0 (.op 2 1 (.op 3 0 (.op 4 0 (.op 5 0 (.op 6 1 (.op 7 0 (.op 8 1 (.op 9 0 (.op 10 0 (.op 11 0 (.op 12 1 (.op 13 0 (.op 14 0 (.op 15 3 .stop)))))))))))))))) [.cl g2 _ _, .rw _ _ _ _] rfl (by kernel_rfl) (by solve | repeat' constructor) ?_
  refine awt_po rfl (wt_none rfl) (pv_move rfl rfl) rfl rfl ?_
  refine awt_po rfl (wt_none rfl) (pv_fa T0 rfl rfl rfl (by simp; rfl)) rfl rfl ?_
  refine awt_lo rfl (wt_none rfl) (lv_cl1 T0 rfl rfl rfl (by solve | repeat' constructor) (by first | rfl | assumption)) rfl rfl rfl ?_
  refine awt_po rfl (wt_none rfl) (pv_move rfl rfl) rfl rfl ?_
  refine awt_po rfl (wt_none rfl) (pv_ix_t T0 rfl rfl rfl rfl (by omega) (by first | exact Int.toNat_natCast _ | rfl)) rfl rfl ?_
  refine awt_po rfl (wt_none rfl) (pv_fa_elt T0 rfl rfl rfl (by simp; rfl)) rfl rfl ?_
  refine awt_lo rfl (wt_none rfl) (lv_elt_sc T0 rfl rfl rfl rfl) rfl rfl rfl ?_
  refine awt_po rfl (wt_none rfl) (pv_ix_own T0 rfl rfl rfl rfl (by omega) hjt) rfl rfl ?_
  refine awt_lo rfl (wt_none rfl) (lv_rp T0 rfl rfl rfl (by solve | repeat' constructor) (by first | omega | (simp; omega)) (by omega) (by first | assumption | rfl)) rfl rfl rfl ?_
  refine awt_po rfl (wt_none rfl) (pv_move rfl rfl) rfl rfl ?_
  refine awt_po rfl (wt_none rfl) (pv_move rfl rfl) rfl rfl ?_
  refine awt_po rfl (wt_none rfl) (pv_ix_t T0 rfl rfl rfl rfl (by omega) (by first | exact Int.toNat_natCast _ | rfl)) rfl rfl ?_
  refine awt_lo rfl (wt_none rfl) (lv_elt_sc T0 rfl rfl rfl rfl) rfl rfl rfl ?_
  refine awt_po rfl (wt_none rfl) (pv_add rfl rfl rfl (by first | assumption | exact wr64 (by omega))) rfl rfl ?_
  refine awt_po rfl (wt_none rfl) (pv_ix_own T0 rfl rfl rfl rfl (by omega) hjt) rfl rfl ?_
  refine awt_s (md := fun _ => True) rfl (wt_none rfl) (aop_store_rp T0 rfl rfl rfl rfl rfl rfl rfl rfl (by solve | repeat' constructor) (by first | omega | (simp; omega)) (by omega) rfl trivial ?_)
  refine awe_end ?_
  simp only [cellsA]
  rw [fRows_set hjn hG]
  exact cut_n ⟨rfl, rfl⟩ (by first | ((repeat' (first | exact True.intro | refine ⟨rfl, ?_⟩)); all_goals fail) | fail) (by solve | repeat' constructor)
theorem net_6 (hk : k < b.cons.length) (hkx : k < xs.length) (hj : (b.cons.getD k default).frm = (j : Int)) (hjn : j < n) (b1 : -1000000000 ≤ F j ∧ F j ≤ 1000000000) (b2 : -1000000000 ≤ xs.getD k 0 ∧ xs.getD k 0 ≤ 1000000000) (hG : ∀ q, q < n → G q = if q = j then F j - xs.getD k 0 else F q) {ops : Array Oper} (h : regF Try.f68 6 = some ops) :
    AWP Try.prog Try.f68.ntmps none (.region 6 ops true) (cutQ (fun s h => s = nwS cp xs g2 ga n k ∧ h = [refB g2 b, .rw (.slice (some ⟨ga, 0, none⟩) n n) 3 1 (fRows G n)])) (nwS cp xs g2 ga n k) [refB g2 b, .rw (.slice (some ⟨ga, 0, none⟩) n n) 3 1 (fRows F n)] := by
  cases h
  have r1 : ((fRows F n).getD j [])[0]? = some (intA (F j)) := fRows_at hjn
  have r2 := fRows_len F n
  have hjt : (b.cons.getD k default).frm.toNat = j := by omega
  refine awp_tree T0 [(0, 0), (1, 0), (2, 1), (3, 0), (4, 0), (5, 0), (6, 1), (7, 0), (8, 1), (9, 0), (10, 0), (11, 0), (12, 1), (13, 0), (14, 0), (15, 3)] (.op 0 0 (.op 1 0 (.op 2 1 (.op 3 0 (.op 4 0 (.op 5 0 (.op 6 1 (.op 7 0 (.op 8 1 (.op 9 0 (.op 10 0 (.op 11 0 (.op 12 1 (.op 13 0 (.op 14 0 (.op 15 3 .stop)))))))))))))))) [.cl g2 _ _, .rw _ _ _ _] rfl (by kernel_rfl) (by solve | repeat' constructor) ?_
  refine awt_po rfl (wt_none rfl) (pv_move rfl rfl) rfl rfl ?_
  refine awt_po rfl (wt_none rfl) (pv_fa T0 rfl rfl rfl (by simp; rfl)) rfl rfl ?_
  refine awt_lo rfl (wt_none rfl) (lv_cl1 T0 rfl rfl rfl (by solve | repeat' constructor) (by first | rfl | assumption)) rfl rfl rfl ?_
  refine awt_po rfl (wt_none rfl) (pv_move rfl rfl) rfl rfl ?_
  refine awt_po rfl (wt_none rfl) (pv_ix_t T0 rfl rfl rfl rfl (by omega) (by first | exact Int.toNat_natCast _ | rfl)) rfl rfl ?_
  refine awt_po rfl (wt_none rfl) (pv_fa_elt T0 rfl rfl rfl (by simp; rfl)) rfl rfl ?_
  refine awt_lo rfl (wt_none rfl) (lv_elt_sc T0 rfl rfl rfl rfl) rfl rfl rfl ?_
  refine awt_po rfl (wt_none rfl) (pv_ix_own T0 rfl rfl rfl rfl (by omega) hjt) rfl rfl ?_
  refine awt_lo rfl (wt_none rfl) (lv_rp T0 rfl rfl rfl (by solve | repeat' constructor) (by first | omega | (simp; omega)) (by omega) (by first | assumption | rfl)) rfl rfl rfl ?_
  refine awt_po rfl (wt_none rfl) (pv_move rfl rfl) rfl rfl ?_
  refine awt_po rfl (wt_none rfl) (pv_move rfl rfl) rfl rfl ?_
  refine awt_po rfl (wt_none rfl) (pv_ix_t T0 rfl rfl rfl rfl (by omega) (by first | exact Int.toNat_natCast _ | rfl)) rfl rfl ?_
  refine awt_lo rfl (wt_none rfl) (lv_elt_sc T0 rfl rfl rfl rfl) rfl rfl rfl ?_
  refine awt_po rfl (wt_none rfl) (pv_sub rfl rfl rfl (by first | assumption | exact wr64 (by omega))) rfl rfl ?_
  refine awt_po rfl (wt_none rfl) (pv_ix_own T0 rfl rfl rfl rfl (by omega) hjt) rfl rfl ?_
  refine awt_s (md := fun _ => True) rfl (wt_none rfl) (aop_store_rp T0 rfl rfl rfl rfl rfl rfl rfl rfl (by solve | repeat' constructor) (by first | omega | (simp; omega)) (by omega) rfl trivial ?_)
  refine awe_end ?_
  simp only [cellsA]
  rw [fRows_set hjn hG]
  exact cut_n ⟨rfl, rfl⟩ (by first | ((repeat' (first | exact True.intro | refine ⟨rfl, ?_⟩)); all_goals fail) | fail) (by solve | repeat' constructor)
end
abbrev swS (fv t14 e21 : AV) (l15 : Int) (g7 g9 ga n k q : Nat) : Slots := [(1, fv), (5, .v (.slice (some ⟨ga, 0, none⟩) n n)), (6, intA k), (7, .v (ptrV g7)), (9, .v (ptrV g9)), (14, t14), (15, intA l15), (16, intA k), (21, e21), (22, intA q)]
section
variable {c : ConD} {fv t14 e21 : AV} {l15 : Int} {q : Nat} {g7 g9 ga n k j gN F : Nat} {fsN csN : List AV} {o : Ob} {A G : Nat → Int} {v : Int}
theorem sums_8b (hF : PCall Try.prog F [conA c] (fun r => r = intA (j : Int))) (hFn : T0.fns.any F.beq = true) (hcal : Tl.Callee fv gN fsN csN) (hg : T0.fns.any gN.beq = true)
    (hnum : ACall Try.prog gN (fsN ++ [intA k] ++ csN) [.ob o] (fun r h' => r = intA v ∧ h' = [.ob o])) (hjn : j < n) (b1 : -1000000000 ≤ A j ∧ A j ≤ 1000000000) (b2 : -1000000000 ≤ v ∧ v ≤ 1000000000) (hG : ∀ q, q < n → G q = if q = j then A j + 1 * v else A q) {ops : Array Oper} (h : regF Try.f152 8 = some ops) :
    AWP Try.prog Try.f152.ntmps none (.region 8 ops true) (cutQ (fun s h => s = swS fv t14 e21 l15 g7 g9 ga n k q ∧ h = [.cl g9 304 [.v (.func (.func F) #[] #[]), intA 1], .cl g7 164 [intA c.frm, intA c.to, intA c.num, intA c.price], .rw (.slice (some ⟨ga, 0, none⟩) n n) 3 1 (fRows G n), .ob o]))
      (swS fv t14 e21 l15 g7 g9 ga n k q) [.cl g9 304 [.v (.func (.func F) #[] #[]), intA 1], .cl g7 164 [intA c.frm, intA c.to, intA c.num, intA c.price], .rw (.slice (some ⟨ga, 0, none⟩) n n) 3 1 (fRows A n), .ob o] := by
  cases h
  have r1 : ((fRows A n).getD j [])[0]? = some (intA (A j)) := fRows_at hjn
  have r2 := fRows_len A n
  refine awp_tree T0 [(0, 0), (1, 0), (2, 1), (3, 1), (7, 0), (8, 1), (9, 0), (10, 0), (4, 2), (5, 0), (6, 1), (11, 2), (12, 0), (13, 0), (14, 0), (15, 3)] (.op 0 0 (.op 1 0 (.op 2 1 (.op 3 1 (.op 7 0 (.op 8 1 (.op 9 0 (.op 10 0 (.op 4 2 (.op 5 0 (.op 6 1 (.op 11 2 (.op 12 0 (.op 13 0 (.op 14 0 (.op 15 3 .stop)))))))))))))))) [.cl g9 304 _, .cl g7 164 _, .rw _ _ _ _] rfl (by kernel_rfl) (by solve | repeat' constructor) ?_
  refine awt_po rfl (wt_none rfl) (pv_move rfl rfl) rfl rfl ?_
  refine awt_po rfl (wt_none rfl) (pv_fa T0 rfl rfl rfl (by simp; rfl)) rfl rfl ?_
  refine awt_lo rfl (wt_none rfl) (lv_cl1 T0 rfl rfl rfl (by solve | repeat' constructor) (by first | rfl | assumption)) rfl rfl rfl ?_
  refine awt_lo rfl (wt_none rfl) (lv_cla T0 rfl rfl rfl (by solve | repeat' constructor) rfl) rfl rfl rfl ?_
  refine awt_po rfl (wt_none rfl) (pv_fa T0 rfl rfl rfl (by simp; rfl)) rfl rfl ?_
  refine awt_lo rfl (wt_none rfl) (lv_cl1 T0 rfl rfl rfl (by solve | repeat' constructor) (by first | rfl | assumption)) rfl rfl rfl ?_
  refine awt_po rfl (wt_none rfl) (pv_move rfl rfl) rfl rfl ?_
  refine awt_po rfl (wt_none rfl) (pv_move rfl rfl) rfl rfl ?_
  refine awt_h (hm := []) rfl (wt_none rfl) (by solve | repeat' constructor) rfl (st_call T0 (hF) rfl rfl rfl rfl (by first | exact callee_lit | exact callee_v | exact callee_fn | assumption) (by solve | repeat' constructor) (by first | rfl | assumption) rfl ?_)
  (rintro _ rfl; refine awt_lit 29 rfl ?_)
  refine awt_po rfl (wt_none rfl) (pv_ix_own T0 rfl rfl rfl rfl (by omega) (by first | exact Int.toNat_natCast _ | rfl)) rfl rfl ?_
  refine awt_lo rfl (wt_none rfl) (lv_rp T0 rfl rfl rfl (by solve | repeat' constructor) (by first | omega | (simp; omega)) (by omega) (by first | assumption | rfl)) rfl rfl rfl ?_
  refine awt_h (hm := _) rfl (wt_none rfl) ?sub rfl (st_acall T0 (hnum) rfl rfl rfl rfl (by first | exact callee_lit | exact callee_v | exact callee_fn | assumption) (by solve | repeat' constructor) (by first | rfl | assumption) rfl (by first | ((repeat' (first | exact SubH.refl _ | apply SubH.cons | exact Pick.here | apply Pick.there)); all_goals fail) | fail) (fun b hb => hb) ?_)
  case sub => exact (by solve | repeat' constructor)
  rintro r h ⟨rfl, rfl⟩
  refine awt_n1 rfl (wt_none rfl) (pv_mul rfl rfl rfl (by first | assumption | exact wr64 (by omega))) rfl rfl rfl ?_
  refine awt_n1 rfl (wt_none rfl) (pv_add rfl rfl rfl (by first | assumption | exact wr64 (by omega))) rfl rfl rfl ?_
  refine awt_po rfl (wt_none rfl) (pv_ix_own T0 rfl rfl rfl rfl (by omega) (by first | exact Int.toNat_natCast _ | rfl)) rfl rfl ?_
  refine awt_s (md := fun _ => True) rfl (wt_none rfl) (aop_store_rp T0 rfl rfl rfl rfl rfl rfl rfl rfl (by solve | repeat' constructor) (by first | omega | (simp; omega)) (by omega) rfl trivial ?_)
  refine awe_end ?_
  simp only [cellsA]
  rw [fRows_set hjn hG]
  exact cut_n ⟨rfl, rfl⟩ (by first | ((repeat' (first | exact True.intro | refine ⟨rfl, ?_⟩)); all_goals fail) | fail) (by solve | repeat' constructor)
theorem sums_8s (hF : PCall Try.prog F [conA c] (fun r => r = intA (j : Int))) (hFn : T0.fns.any F.beq = true) (hcal : Tl.Callee fv gN fsN csN) (hg : T0.fns.any gN.beq = true)
    (hnum : ACall Try.prog gN (fsN ++ [intA k] ++ csN) [.ob o] (fun r h' => r = intA v ∧ h' = [.ob o])) (hjn : j < n) (b1 : -1000000000 ≤ A j ∧ A j ≤ 1000000000) (b2 : -1000000000 ≤ v ∧ v ≤ 1000000000) (hG : ∀ q, q < n → G q = if q = j then A j + -1 * v else A q) {ops : Array Oper} (h : regF Try.f152 8 = some ops) :
    AWP Try.prog Try.f152.ntmps none (.region 8 ops true) (cutQ (fun s h => s = swS fv t14 e21 l15 g7 g9 ga n k q ∧ h = [.cl g9 304 [.v (.func (.func F) #[] #[]), intA (-1)], .cl g7 164 [intA c.frm, intA c.to, intA c.num, intA c.price], .rw (.slice (some ⟨ga, 0, none⟩) n n) 3 1 (fRows G n), .ob o]))
      (swS fv t14 e21 l15 g7 g9 ga n k q) [.cl g9 304 [.v (.func (.func F) #[] #[]), intA (-1)], .cl g7 164 [intA c.frm, intA c.to, intA c.num, intA c.price], .rw (.slice (some ⟨ga, 0, none⟩) n n) 3 1 (fRows A n), .ob o] := by
  cases h
  have r1 : ((fRows A n).getD j [])[0]? = some (intA (A j)) := fRows_at hjn
  have r2 := fRows_len A n
  refine awp_tree T0 [(0, 0), (1, 0), (2, 1), (3, 1), (7, 0), (8, 1), (9, 0), (10, 0), (4, 2), (5, 0), (6, 1), (11, 2), (12, 0), (13, 0), (14, 0), (15, 3)] (.op 0 0 (.op 1 0 (.op 2 1 (.op 3 1 (.op 7 0 (.op 8 1 (.op 9 0 (.op 10 0 (.op 4 2 (.op 5 0 (.op 6 1 (.op 11 2 (.op 12 0 (.op 13 0 (.op 14 0 (.op 15 3 .stop)))))))))))))))) [.cl g9 304 _, .cl g7 164 _, .rw _ _ _ _] rfl (by kernel_rfl) (by solve | repeat' constructor) ?_
  refine awt_po rfl (wt_none rfl) (pv_move rfl rfl) rfl rfl ?_
  refine awt_po rfl (wt_none rfl) (pv_fa T0 rfl rfl rfl (by simp; rfl)) rfl rfl ?_
  refine awt_lo rfl (wt_none rfl) (lv_cl1 T0 rfl rfl rfl (by solve | repeat' constructor) (by first | rfl | assumption)) rfl rfl rfl ?_
  refine awt_lo rfl (wt_none rfl) (lv_cla T0 rfl rfl rfl (by solve | repeat' constructor) rfl) rfl rfl rfl ?_
  refine awt_po rfl (wt_none rfl) (pv_fa T0 rfl rfl rfl (by simp; rfl)) rfl rfl ?_
  refine awt_lo rfl (wt_none rfl) (lv_cl1 T0 rfl rfl rfl (by solve | repeat' constructor) (by first | rfl | assumption)) rfl rfl rfl ?_
  refine awt_po rfl (wt_none rfl) (pv_move rfl rfl) rfl rfl ?_
  refine awt_po rfl (wt_none rfl) (pv_move rfl rfl) rfl rfl ?_
  refine awt_h (hm := []) rfl (wt_none rfl) (by solve | repeat' constructor) rfl (st_call T0 (hF) rfl rfl rfl rfl (by first | exact callee_lit | exact callee_v | exact callee_fn | assumption) (by solve | repeat' constructor) (by first | rfl | assumption) rfl ?_)
  (rintro _ rfl; refine awt_lit 29 rfl ?_)
  refine awt_po rfl (wt_none rfl) (pv_ix_own T0 rfl rfl rfl rfl (by omega) (by first | exact Int.toNat_natCast _ | rfl)) rfl rfl ?_
  refine awt_lo rfl (wt_none rfl) (lv_rp T0 rfl rfl rfl (by solve | repeat' constructor) (by first | omega | (simp; omega)) (by omega) (by first | assumption | rfl)) rfl rfl rfl ?_
  refine awt_h (hm := _) rfl (wt_none rfl) ?sub rfl (st_acall T0 (hnum) rfl rfl rfl rfl (by first | exact callee_lit | exact callee_v | exact callee_fn | assumption) (by solve | repeat' constructor) (by first | rfl | assumption) rfl (by first | ((repeat' (first | exact SubH.refl _ | apply SubH.cons | exact Pick.here | apply Pick.there)); all_goals fail) | fail) (fun b hb => hb) ?_)
  case sub => exact (by solve | repeat' constructor)
  rintro r h ⟨rfl, rfl⟩
  refine awt_n1 rfl (wt_none rfl) (pv_mul rfl rfl rfl (by first | assumption | exact wr64 (by omega))) rfl rfl rfl ?_
  refine awt_n1 rfl (wt_none rfl) (pv_add rfl rfl rfl (by first | assumption | exact wr64 (by omega))) rfl rfl rfl ?_
  refine awt_po rfl (wt_none rfl) (pv_ix_own T0 rfl rfl rfl rfl (by omega) (by first | exact Int.toNat_natCast _ | rfl)) rfl rfl ?_
  refine awt_s (md := fun _ => True) rfl (wt_none rfl) (aop_store_rp T0 rfl rfl rfl rfl rfl rfl rfl rfl (by solve | repeat' constructor) (by first | omega | (simp; omega)) (by omega) rfl trivial ?_)
  refine awe_end ?_
  simp only [cellsA]
  rw [fRows_set hjn hG]
  exact cut_n ⟨rfl, rfl⟩ (by first | ((repeat' (first | exact True.intro | refine ⟨rfl, ?_⟩)); all_goals fail) | fail) (by solve | repeat' constructor)
end
end Go.Proofs.Ytlpknbneilgjkaa.R
end
section
namespace Go.Proofs.Ytlpknbneilgjkaa.R
open Go Go.RowKit Go.Tl
set_option linter.unusedVariables false
set_option linter.unusedSimpArgs false
set_option maxRecDepth 100000
set_option maxHeartbeats 4000000
attribute [local irreducible] AWP AWL AOp PV LV AWT AWE
theorem seller_p (c : ConD) : PCall Try.prog 209 [conA c] (fun r => r = intA c.frm) := by
  refine acall_of_awp T0 Try.func209 rfl rfl rfl ?_
  repeat (first | refine awp_seq ?_ | refine awp_region_lit rfl ?_)
  refine awl_hw (wt_none rfl) (st_box rfl rfl (by first | rfl | assumption) (by first | assumption | (simp only [cellsA]; rfl)) rfl rfl ?_)
  intro g2
  repeat (first | refine awp_seq ?_ | refine awp_region_lit rfl ?_ | refine awp_ret ?_ | (show AWL _ _ _ (⟨_, .assign _, _, _, _, _⟩ :: _) _ _ _; refine awl_pw (wt_none rfl) (pv_assign rfl rfl) rfl rfl ?_) | (show AWL _ _ _ (⟨_, .load _ _, _, _, _, _⟩ :: _) _ _ _; refine awl_lw (wt_none rfl) (lv_cl1 T0 rfl rfl rfl (by solve | repeat' constructor) (by first | rfl | assumption)) rfl rfl rfl ?_) | (show AWL _ _ _ (⟨_, .fieldAddr _ _ _, _, _, _, _⟩ :: _) _ _ _; refine awl_pw (wt_none rfl) (pv_fa T0 rfl rfl rfl (by simp; rfl)) rfl rfl ?_) | refine awl_nil ?_)
  exact body_p (.cons rfl .nil) rfl
theorem buyer_p (c : ConD) : PCall Try.prog 210 [conA c] (fun r => r = intA c.to) := by
  refine acall_of_awp T0 Try.func210 rfl rfl rfl ?_
  repeat (first | refine awp_seq ?_ | refine awp_region_lit rfl ?_)
  refine awl_hw (wt_none rfl) (st_box rfl rfl (by first | rfl | assumption) (by first | assumption | (simp only [cellsA]; rfl)) rfl rfl ?_)
  intro g2
  repeat (first | refine awp_seq ?_ | refine awp_region_lit rfl ?_ | refine awp_ret ?_ | (show AWL _ _ _ (⟨_, .assign _, _, _, _, _⟩ :: _) _ _ _; refine awl_pw (wt_none rfl) (pv_assign rfl rfl) rfl rfl ?_) | (show AWL _ _ _ (⟨_, .load _ _, _, _, _, _⟩ :: _) _ _ _; refine awl_lw (wt_none rfl) (lv_cl1 T0 rfl rfl rfl (by solve | repeat' constructor) (by first | rfl | assumption)) rfl rfl rfl ?_) | (show AWL _ _ _ (⟨_, .fieldAddr _ _ _, _, _, _, _⟩ :: _) _ _ _; refine awl_pw (wt_none rfl) (pv_fa T0 rfl rfl rfl (by simp; rfl)) rfl rfl ?_) | refine awl_nil ?_)
  exact body_p (.cons rfl .nil) rfl
abbrev endsA : AV := .ag [.v (.func (.func 209) #[] #[]), intA (-1), .v (.func (.func 210) #[] #[]), intA 1]
theorem ends_p : PCall Try.prog 192 [] (fun r => r = endsA) := by
  refine acall_of_awp T0 Try.func192 rfl rfl rfl ?_
  repeat (first | refine awp_seq ?_ | refine awp_region_lit rfl ?_)
  refine awl_hw (wt_none rfl) (st_alloc T0 rfl rfl rfl rfl (by simp only [Value.cells, List.toList_toArray, List.map_cons, List.map_nil]; rfl) ?_)
  intro g0
  repeat (first | refine awp_seq ?_ | refine awp_region_lit rfl ?_ | refine awp_ret ?_ | (show AWL _ _ _ (⟨_, .build _ _, _, _, _, _⟩ :: _) _ _ _; refine awl_pw (wt_none rfl) (pv_build T0 rfl rfl rfl (by simp only [Value.cells, List.toList_toArray, List.map_cons, List.map_nil]; rfl) (by first | ((repeat' (first | exact BParts.nil | apply BParts.cons | rfl)); all_goals fail) | fail) (by first | ((repeat' (first | exact FillA.nil | exact Sp.done | apply FillA.cons | apply Sp.put | apply Sp.skip | (simp only [cellsA]; rfl) | rfl)); all_goals fail) | fail)) rfl rfl ?_) | (show AWL _ _ _ (⟨_, .build _ _, _, _, _, _⟩ :: _) _ _ _; refine awl_pw (wt_none rfl) (pv_build_arr T0 rfl rfl rfl (by simp only [Value.cells, List.toList_toArray, List.map_cons, List.map_nil]; rfl) (by first | ((repeat' (first | exact BParts.nil | apply BParts.cons | rfl)); all_goals fail) | fail) (by first | ((repeat' (first | exact FillA.nil | exact Sp.done | apply FillA.cons | apply Sp.put | apply Sp.skip | (simp only [cellsA]; rfl) | rfl)); all_goals fail) | fail)) rfl rfl ?_) | (show AWL _ _ _ (⟨_, .store _ _ _, _, _, _, _⟩ :: _) _ _ _; refine awl_hw (wt_none rfl) (st_store T0 rfl rfl rfl rfl rfl (by first | assumption | (simp only [cellsA]; rfl)) rfl rfl rfl (by solve | repeat' constructor) (by solve | repeat' constructor) trivial ?_)) | refine awl_nil ?_)
  refine body_p (.cons ⟨g0, _, _, _, _, rfl, rfl, (by solve | repeat' constructor), by simp, .inl rfl, rfl⟩ .nil) ?_
  rfl
theorem fRows_zero (n : Nat) (cs : List ConD) (f : Nat → Int) : List.replicate n [AV.v (Value.int .i64 0)] = fRows (accN cs f 0) n := by
  refine List.ext_getElem (by simp [fRows]) fun k h1 h2 => ?_
  simp [fRows, accN, intRow]
theorem acc_small {cs : List ConD} {f : Nat → Int} {k h : Nat} (hk : k ≤ 8) (hf : ∀ i, i < k → -1000000 ≤ f i ∧ f i ≤ 1000000) : -100000000 ≤ accN cs f k h ∧ accN cs f k h ≤ 100000000 := by
  have := accN_bd (cs := cs) (f := f) (B := 1000000) (by omega) k h hf
  omega
theorem net_p (b : BookD) (cp : Bool) (xs : List Int) (hv : VBook b) (hx : xs.length = b.cons.length) (hb : ∀ i, i < xs.length → -1000000 ≤ xs.getD i 0 ∧ xs.getD i 0 ≤ 1000000) :
    PCall Try.prog 68 [bookA false b, .t (intsT cp xs)] (fun r => r = .t (intsT true (netL b (fun i => xs.getD i 0)))) := by
  have hh := hv.houses
  obtain ⟨n, hn⟩ : ∃ n : Nat, b.houses = n := ⟨b.houses.toNat, by omega⟩
  have hlen := hv.len
  refine acall_of_awp T0 Try.func68 rfl rfl rfl ?_
  repeat (first | refine awp_seq ?_ | refine awp_region_lit rfl ?_)
  refine awl_hw (wt_none rfl) (st_box rfl rfl (by first | rfl | assumption) (by first | assumption | (simp only [cellsA]; rfl)) rfl rfl ?_)
  intro g2
  repeat (first | refine awp_seq ?_ | refine awp_region_lit rfl ?_ | (show AWL _ _ _ (⟨_, .assign _, _, _, _, _⟩ :: _) _ _ _; refine awl_pw (wt_none rfl) (pv_assign rfl rfl) rfl rfl ?_) | (show AWL _ _ _ (⟨_, .load _ _, _, _, _, _⟩ :: _) _ _ _; refine awl_lw (wt_none rfl) (lv_cl1 T0 rfl rfl rfl (by solve | repeat' constructor) (by first | rfl | assumption)) rfl rfl rfl ?_) | (show AWL _ _ _ (⟨_, .fieldAddr _ _ _, _, _, _, _⟩ :: _) _ _ _; refine awl_pw (wt_none rfl) (pv_fa T0 rfl rfl rfl (by simp; rfl)) rfl rfl ?_) | refine awl_nil ?_)
  rw [hn]
  refine awl_hw (wt_none rfl) (aop_make T0 rfl rfl rfl rfl rfl rfl rfl rfl (by omega) rfl ?_)
  intro ga
  repeat (first | refine awp_seq ?_ | refine awp_block ?_ | refine awp_region_lit rfl ?_ | (show AWL _ _ _ (⟨_, .assign _, _, _, _, _⟩ :: _) _ _ _; refine awl_pw (wt_none rfl) (pv_assign rfl rfl) rfl rfl ?_) | refine awl_nil ?_)
  rw [fRows_zero n b.cons (fun i => xs.getD i 0)]
  refine awp_loop (fun m s h => ∃ (k : Nat), k ≤ b.cons.length ∧ m = b.cons.length - k ∧ s = nwS cp xs g2 ga n k ∧ h = [.cl g2 81 [intA n, .t (consT false b.cons)], .rw (.slice (some ⟨ga, 0, none⟩) n n) 3 1 (fRows (accN b.cons (fun i => xs.getD i 0) k) n)]) ?_ ⟨0, Nat.zero_le _, rfl, rfl, rfl⟩ (by first | ((repeat' (first | exact True.intro | refine ⟨rfl, ?_⟩)); all_goals fail) | fail) (by solve | repeat' constructor)
  rintro m s h ⟨k, hk, rfl, rfl, rfl⟩
  by_cases hlt : k < b.cons.length
  · have hfr := hv.frm k hlt
    have hto := hv.to k hlt
    have hbk := hb k (by omega)
    have hac : ∀ h : Nat, -100000000 ≤ accN b.cons (fun i => xs.getD i 0) k h ∧ accN b.cons (fun i => xs.getD i 0) k h ≤ 100000000 := fun h => acc_small (by omega) (fun i hi => hb i (by omega))
    obtain ⟨jt, hjt⟩ : ∃ j : Nat, (b.cons.getD k default).to = j := ⟨(b.cons.getD k default).to.toNat, by omega⟩
    obtain ⟨jf, hjf⟩ : ∃ j : Nat, (b.cons.getD k default).frm = j := ⟨(b.cons.getD k default).frm.toNat, by omega⟩
    have hR : refB g2 b = .cl g2 81 [intA n, .t (consT false b.cons)] := by show Ent.cl g2 81 [intA b.houses, _] = _; rw [hn]
    repeat (first | refine awp_seq ?_ | refine awp_block ?_ | refine awp_region_lit rfl ?_ | refine awp_skip ?_ | with_reducible refine then_n ?_ | refine awp_cond_t rfl (by first | rfl | assumption | exact dT (by omega)) ?_ | (show AWL _ _ _ (⟨_, .move _, _, _, _, _⟩ :: _) _ _ _; refine awl_pw (wt_none rfl) (pv_move rfl rfl) rfl rfl ?_) | (show AWL _ _ _ (⟨_, .load _ _, _, _, _, _⟩ :: _) _ _ _; refine awl_lw (wt_none rfl) (lv_cl1 T0 rfl rfl rfl (by solve | repeat' constructor) (by first | rfl | assumption)) rfl rfl rfl ?_) | (show AWL _ _ _ (⟨_, .fieldAddr _ _ _, _, _, _, _⟩ :: _) _ _ _; refine awl_pw (wt_none rfl) (pv_fa T0 rfl rfl rfl (by simp; rfl)) rfl rfl ?_) | (show AWL _ _ _ (⟨_, .binOp .lss _ _ _ _, _, _, _, _⟩ :: _) _ _ _; refine awl_pw (wt_none rfl) (pv_lss rfl rfl rfl) rfl rfl ?_) | (show AWL _ _ _ (⟨_, .call ⟨.builtin .len, _, _⟩, _, _, _, _⟩ :: _) _ _ _; refine awl_pw (wt_none rfl) (pv_len_t T0 rfl rfl rfl) rfl rfl ?_) | refine awl_nil ?_)
    refine awp_cut _ (awp_weak (by first | ((repeat' (first | exact True.intro | refine ⟨rfl, ?_⟩)); all_goals fail) | fail) (by rw [hR]; (solve | repeat' constructor)) (net_5 (b := b) (xs := xs) (cp := cp) (g2 := g2) (ga := ga) (n := n) (k := k) (j := jt) (F := accN b.cons (fun i => xs.getD i 0) k) (G := fun h => accN b.cons (fun i => xs.getD i 0) k h + (if (b.cons.getD k default).to = (h : Int) then xs.getD k 0 else 0)) hlt (by omega) hjt (by omega) (by have := hac jt; omega) (by omega) (fun q hq => ?_) rfl)) ?_
    · by_cases e : q = jt
      · subst e; rw [if_pos hjt, if_pos rfl]
      · rw [if_neg (by omega), if_neg e, Int.add_zero]
    rintro s h ⟨rfl, rfl⟩
    rw [hR]
    skip
    refine awp_cutB _ (awp_weak (by first | ((repeat' (first | exact True.intro | refine ⟨rfl, ?_⟩)); all_goals fail) | fail) (by rw [hR]; (solve | repeat' constructor)) (net_6 (b := b) (xs := xs) (cp := cp) (g2 := g2) (ga := ga) (n := n) (k := k) (j := jf) (F := fun h => accN b.cons (fun i => xs.getD i 0) k h + (if (b.cons.getD k default).to = (h : Int) then xs.getD k 0 else 0)) (G := accN b.cons (fun i => xs.getD i 0) (k + 1)) hlt (by omega) hjf (by omega) (by have := hac jf; show _ ≤ accN _ _ k jf + _ ∧ accN _ _ k jf + _ ≤ _; split <;> omega) (by omega) (fun q hq => ?_) rfl)) ?_
    · show accN _ _ k q + _ - _ = _
      by_cases e : q = jf
      · subst e; rw [if_pos rfl, if_pos hjf]
      · rw [if_neg e, if_neg (c := (b.cons.getD k default).frm = (q : Int)) (by omega), Int.sub_zero]
    rintro s h ⟨rfl, rfl⟩
    rw [hR]
    repeat (first | refine awp_region_lit rfl ?_ | (show AWL _ _ _ (⟨_, .move _, _, _, _, _⟩ :: _) _ _ _; refine awl_pw (wt_none rfl) (pv_move rfl rfl) rfl rfl ?_) | (show AWL _ _ _ (⟨_, .assign _, _, _, _, _⟩ :: _) _ _ _; refine awl_pw (wt_none rfl) (pv_assign rfl rfl) rfl rfl ?_) | (show AWL _ _ _ (⟨_, .binOp .add _ _ _ _, _, _, _, _⟩ :: _) _ _ _; refine awl_pw (wt_none rfl) (pv_add rfl rfl rfl (by first | assumption | exact wr64 (by omega))) rfl rfl ?_) | refine awl_nil ?_)
    refine rnd_n _ _ _ ?_ ⟨k + 1, hlt, rfl, rfl, rfl⟩ (by first | ((repeat' (first | exact True.intro | refine ⟨rfl, ?_⟩)); all_goals fail) | fail) (by solve | repeat' constructor)
    omega
  obtain rfl : k = b.cons.length := by omega
  have hnl : (netL b (fun i => xs.getD i 0)).length = n := by simp [netL, hn]
  refine awp_ghost (ghost_freeze (E := 3) (sz := 1) (n := (netL b (fun i => xs.getD i 0)).length) (rows := fRows (accN b.cons (fun i => xs.getD i 0) b.cons.length) n) (d := 5) (fun q => [.sc (.int .i64 ((netL b (fun i => xs.getD i 0)).getD q 0))]) (by solve | repeat' constructor) rfl (by rw [fRows_len, hnl]) (by rw [hnl]; exact fRows_tree (by simp [netL, hn]))) ?_
  repeat (first | refine awp_seq ?_ | refine awp_region_lit rfl ?_ | refine awp_exit ?_ | refine awp_ret ?_ | with_reducible refine then_n ?_ | refine awp_cond_f rfl (by first | rfl | assumption | exact dF (by omega)) ?_ | (show AWL _ _ _ (⟨_, .move _, _, _, _, _⟩ :: _) _ _ _; refine awl_pw (wt_none rfl) (pv_move rfl rfl) rfl rfl ?_) | (show AWL _ _ _ (⟨_, .assign _, _, _, _, _⟩ :: _) _ _ _; refine awl_pw (wt_none rfl) (pv_assign rfl rfl) rfl rfl ?_) | (show AWL _ _ _ (⟨_, .load _ _, _, _, _, _⟩ :: _) _ _ _; refine awl_lw (wt_none rfl) (lv_cl1 T0 rfl rfl rfl (by solve | repeat' constructor) (by first | rfl | assumption)) rfl rfl rfl ?_) | (show AWL _ _ _ (⟨_, .fieldAddr _ _ _, _, _, _, _⟩ :: _) _ _ _; refine awl_pw (wt_none rfl) (pv_fa T0 rfl rfl rfl (by simp; rfl)) rfl rfl ?_) | (show AWL _ _ _ (⟨_, .binOp .lss _ _ _ _, _, _, _, _⟩ :: _) _ _ _; refine awl_pw (wt_none rfl) (pv_lss rfl rfl rfl) rfl rfl ?_) | (show AWL _ _ _ (⟨_, .call ⟨.builtin .len, _, _⟩, _, _, _, _⟩ :: _) _ _ _; refine awl_pw (wt_none rfl) (pv_len_t T0 rfl rfl rfl) rfl rfl ?_) | refine awl_nil ?_)
  exact body_p (.cons rfl .nil) rfl
end Go.Proofs.Ytlpknbneilgjkaa.R
end
section
namespace Go.Proofs.Ytlpknbneilgjkaa.R
open Go Go.RowKit Go.Tl
set_option linter.unusedVariables false
set_option linter.unusedSimpArgs false
set_option maxRecDepth 100000
set_option maxHeartbeats 4000000
attribute [local irreducible] AWP AWL AOp PV LV AWT AWE
def numF (b : BookD) (i : Nat) : Int := (b.cons.getD i default).num
theorem all_p (cp : Bool) (b : BookD) (hl : b.cons.length ≤ 1000) : PCall Try.prog 69 [bookA cp b] (fun r => r = .t (intsT true (b.cons.map (·.num)))) := by
  refine acall_of_awp T0 Try.func69 rfl rfl rfl ?_
  repeat (first | refine awp_seq ?_ | refine awp_region_lit rfl ?_)
  refine awl_hw (wt_none rfl) (st_box rfl rfl (by first | rfl | assumption) (by first | assumption | (simp only [cellsA]; rfl)) rfl rfl ?_)
  intro g1
  repeat (first | refine awp_seq ?_ | refine awp_block ?_ | refine awp_region_lit rfl ?_ | (show AWL _ _ _ (⟨_, .assign _, _, _, _, _⟩ :: _) _ _ _; refine awl_pw (wt_none rfl) (pv_assign rfl rfl) rfl rfl ?_) | refine awl_nil ?_)
  refine awp_ghost (ghost_nilrow 3 1) ?_
  refine awp_loop (fun m s h => ∃ (k : Nat) (a : Option Addr) (c : Nat) (rows : List (List AV)), k ≤ b.cons.length ∧ m = b.cons.length - k ∧ rows.length = k ∧ rows = ((b.cons.map (·.num)).take k).map intRow ∧
    s = [(1, .v (ptrV g1)), (3, .v (.slice a k c)), (4, intA k)] ∧ h = [.cl g1 81 [intA b.houses, .t (consT cp b.cons)], .rw (.slice a k c) 3 1 rows]) ?_ ⟨0, _, _, _, Nat.zero_le _, rfl, rfl, rfl, rfl, rfl⟩ (by first | ((repeat' (first | exact True.intro | refine ⟨rfl, ?_⟩)); all_goals fail) | fail) (by solve | repeat' constructor)
  rintro m s h ⟨k, a, c, rows, hk, rfl, hn, hrows, rfl, rfl⟩
  by_cases hlt : k < b.cons.length
  · have hlt' : k < (b.cons.map (·.num)).length := by simpa using hlt
    have e0 : (b.cons.map (·.num)).getD k 0 = (b.cons.getD k default).num := by simp [List.getD_eq_getElem?_getD, hlt]
    repeat (first | refine awp_seq ?_ | refine awp_block ?_ | refine awp_region_lit rfl ?_ | refine awp_skip ?_ | with_reducible refine then_n ?_ | refine awp_cond_t rfl (by first | rfl | assumption | exact dT (by omega)) ?_ | (show AWL _ _ _ (⟨_, .move _, _, _, _, _⟩ :: _) _ _ _; refine awl_pw (wt_none rfl) (pv_move rfl rfl) rfl rfl ?_) | (show AWL _ _ _ (⟨_, .load _ _, _, _, _, _⟩ :: _) _ _ _; refine awl_lw (wt_none rfl) (lv_cl1 T0 rfl rfl rfl (by solve | repeat' constructor) (by first | rfl | assumption)) rfl rfl rfl ?_) | (show AWL _ _ _ (⟨_, .load _ _, _, _, _, _⟩ :: _) _ _ _; refine awl_lw (wt_none rfl) (lv_elt_sc T0 rfl rfl rfl rfl) rfl rfl rfl ?_) | (show AWL _ _ _ (⟨_, .fieldAddr _ _ _, _, _, _, _⟩ :: _) _ _ _; refine awl_pw (wt_none rfl) (pv_fa T0 rfl rfl rfl (by simp; rfl)) rfl rfl ?_) | (show AWL _ _ _ (⟨_, .fieldAddr _ _ _, _, _, _, _⟩ :: _) _ _ _; refine awl_pw (wt_none rfl) (pv_fa_elt T0 rfl rfl rfl (by simp; rfl)) rfl rfl ?_) | (show AWL _ _ _ (⟨_, .indexAddr _ _ _, _, _, _, _⟩ :: _) _ _ _; refine awl_pw (wt_none rfl) (pv_ix_t T0 rfl rfl rfl rfl (by omega) (by first | exact Int.toNat_natCast _ | rfl)) rfl rfl ?_) | (show AWL _ _ _ (⟨_, .binOp .lss _ _ _ _, _, _, _, _⟩ :: _) _ _ _; refine awl_pw (wt_none rfl) (pv_lss rfl rfl rfl) rfl rfl ?_) | (show AWL _ _ _ (⟨_, .call ⟨.builtin .len, _, _⟩, _, _, _, _⟩ :: _) _ _ _; refine awl_pw (wt_none rfl) (pv_len_t T0 rfl rfl rfl) rfl rfl ?_) | refine awl_nil ?_)
    refine awl_hw (wt_none rfl) (st_bsl T0 rfl rfl rfl rfl rfl (by solve | repeat' constructor) rfl rfl rfl rfl (by simp only [List.map_cons, List.map_nil, cellsA]; rfl) ?_)
    intro g19
    skip
    refine awl_hw (wt_none rfl) (st_app T0 rfl rfl rfl rfl rfl rfl rfl rfl rfl (by solve | repeat' constructor) (by solve | repeat' constructor) rfl rfl hn (by omega) (fun _ _ => trivial) ?_)
    intro a20 c20 p20
    repeat (first | refine awp_region_lit rfl ?_ | (show AWL _ _ _ (⟨_, .move _, _, _, _, _⟩ :: _) _ _ _; refine awl_pw (wt_none rfl) (pv_move rfl rfl) rfl rfl ?_) | (show AWL _ _ _ (⟨_, .assign _, _, _, _, _⟩ :: _) _ _ _; refine awl_pw (wt_none rfl) (pv_assign rfl rfl) rfl rfl ?_) | (show AWL _ _ _ (⟨_, .binOp .add _ _ _ _, _, _, _, _⟩ :: _) _ _ _; refine awl_pw (wt_none rfl) (pv_add rfl rfl rfl (by first | assumption | exact wr64 (by omega))) rfl rfl ?_) | refine awl_nil ?_)
    refine rnd_n _ _ _ ?_ ⟨k + 1, _, _, _, hlt, rfl, ?_, ?_, rfl, rfl⟩ (by first | ((repeat' (first | exact True.intro | refine ⟨rfl, ?_⟩)); all_goals fail) | fail) (by solve | repeat' constructor)
    · omega
    · simp; omega
    · rw [hrows, rows_step (d := (0 : Int)) intRow hlt', e0]; rfl
  obtain rfl : k = b.cons.length := by omega
  have e1 : (b.cons.map (·.num)).length = b.cons.length := by simp
  rw [List.take_of_length_le (by omega)] at hrows
  refine awp_ghost (ghost_freeze (E := 3) (sz := 1) (n := (b.cons.map (·.num)).length) (rows := rows) (d := 3) (fun q => [.sc (.int .i64 ((b.cons.map (·.num)).getD q 0))]) (by solve | repeat' constructor) rfl (by rw [hn, e1]) (by rw [hrows]; exact intRows_tree _)) ?_
  repeat (first | refine awp_seq ?_ | refine awp_region_lit rfl ?_ | refine awp_exit ?_ | refine awp_ret ?_ | with_reducible refine then_n ?_ | refine awp_cond_f rfl (by first | rfl | assumption | exact dF (by omega)) ?_ | (show AWL _ _ _ (⟨_, .move _, _, _, _, _⟩ :: _) _ _ _; refine awl_pw (wt_none rfl) (pv_move rfl rfl) rfl rfl ?_) | (show AWL _ _ _ (⟨_, .assign _, _, _, _, _⟩ :: _) _ _ _; refine awl_pw (wt_none rfl) (pv_assign rfl rfl) rfl rfl ?_) | (show AWL _ _ _ (⟨_, .load _ _, _, _, _, _⟩ :: _) _ _ _; refine awl_lw (wt_none rfl) (lv_cl1 T0 rfl rfl rfl (by solve | repeat' constructor) (by first | rfl | assumption)) rfl rfl rfl ?_) | (show AWL _ _ _ (⟨_, .fieldAddr _ _ _, _, _, _, _⟩ :: _) _ _ _; refine awl_pw (wt_none rfl) (pv_fa T0 rfl rfl rfl (by simp; rfl)) rfl rfl ?_) | (show AWL _ _ _ (⟨_, .binOp .lss _ _ _ _, _, _, _, _⟩ :: _) _ _ _; refine awl_pw (wt_none rfl) (pv_lss rfl rfl rfl) rfl rfl ?_) | (show AWL _ _ _ (⟨_, .call ⟨.builtin .len, _, _⟩, _, _, _, _⟩ :: _) _ _ _; refine awl_pw (wt_none rfl) (pv_len_t T0 rfl rfl rfl) rfl rfl ?_) | refine awl_nil ?_)
  exact body_p (.cons rfl .nil) rfl
end Go.Proofs.Ytlpknbneilgjkaa.R
end
section
namespace Go.Proofs.Ytlpknbneilgjkaa.R
open Go Go.RowKit Go.Tl
set_option linter.unusedVariables false
set_option linter.unusedSimpArgs false
set_option maxRecDepth 100000
set_option maxHeartbeats 4000000
attribute [local irreducible] AWP AWL AOp PV LV AWT AWE
theorem accN_congr {cs : List ConD} {f g : Nat → Int} : ∀ (k h : Nat), (∀ i, i < k → f i = g i) → accN cs f k h = accN cs g k h
  | 0, h, _ => rfl
  | k + 1, h, hf => by simp only [accN]; rw [accN_congr k h (fun i hi => hf i (by omega)), hf k (by omega)]
theorem netL_congr {b : BookD} {f g : Nat → Int} (h : ∀ i, i < b.cons.length → f i = g i) : netL b f = netL b g := List.map_congr_left fun q _ => accN_congr _ _ h
theorem netL_len {b : BookD} {f : Nat → Int} : (netL b f).length = b.houses.toNat := by simp [netL]
theorem nums_at {b : BookD} {i : Nat} (h : i < b.cons.length) : (b.cons.map (·.num)).getD i 0 = numF b i := by simp [numF, List.getD_eq_getElem?_getD, h]
def sumR (n : Nat) (F : Nat → Int) : Int := sumI ((List.range n).map F)
theorem sumR_succ (n : Nat) (F : Nat → Int) : sumR (n + 1) F = sumR n F + F n := by simp [sumR, List.range_succ, sumI_append, sumI]
theorem sumR_congr {n : Nat} {F G : Nat → Int} (h : ∀ i, i < n → F i = G i) : sumR n F = sumR n G := by
  unfold sumR; rw [List.map_congr_left fun i hi => h i (List.mem_range.1 hi)]
theorem sumR_zero (n : Nat) : sumR n (fun _ => 0) = 0 := by
  induction n with
  | zero => rfl
  | succ n ih => rw [sumR_succ, ih]; rfl
theorem sumR_add {n : Nat} {F G : Nat → Int} : sumR n (fun i => F i + G i) = sumR n F + sumR n G := by
  induction n with
  | zero => rfl
  | succ n ih => rw [sumR_succ, sumR_succ, sumR_succ, ih]; omega
theorem sumR_sub {n : Nat} {F G : Nat → Int} : sumR n (fun i => F i - G i) = sumR n F - sumR n G := by
  induction n with
  | zero => rfl
  | succ n ih => rw [sumR_succ, sumR_succ, sumR_succ, ih]; omega
theorem sumR_le {n : Nat} {F G : Nat → Int} (h : ∀ i, i < n → F i ≤ G i) : sumR n F ≤ sumR n G := by
  induction n with
  | zero => exact Int.le_refl _
  | succ n ih => rw [sumR_succ, sumR_succ]; have := ih (fun i hi => h i (by omega)); have := h n (by omega); omega
theorem sumR_one {n : Nat} {j v : Int} (h0 : 0 ≤ j) (h1 : j < n) : sumR n (fun i => if j = (i : Int) then v else 0) = v := by
  induction n with
  | zero => omega
  | succ n ih =>
    rw [sumR_succ]
    by_cases e : j = (n : Int)
    · rw [if_pos e, sumR_congr (G := fun _ => 0) (fun i hi => if_neg (by omega)), sumR_zero]; omega
    · rw [if_neg e, ih (by omega)]; omega
theorem acc_sum {b : BookD} (hv : VBook b) (f : Nat → Int) : ∀ k, k ≤ b.cons.length → sumR b.houses.toNat (fun h => accN b.cons f k h) = 0
  | 0, _ => sumR_zero _
  | k + 1, hk => by
    have ih := acc_sum hv f k (by omega)
    have h1 := hv.frm k (by omega)
    have h2 := hv.to k (by omega)
    show sumR _ (fun h => accN b.cons f k h + _ - _) = 0
    rw [sumR_sub, sumR_add, ih, sumR_one h2.1 (by omega), sumR_one h1.1 (by omega)]
    omega
theorem net_at {b : BookD} {f : Nat → Int} {h : Nat} (hh : h < b.houses.toNat) : (netL b f).getD h 0 = accN b.cons f b.cons.length h := by
  simp [netL, List.getD_eq_getElem?_getD, hh]
theorem sumI_take {l : List Int} {k : Nat} (h : k < l.length) : sumI (l.take (k + 1)) = sumI (l.take k) + l.getD k 0 := by
  rw [List.take_succ_eq_append_getElem h, sumI_append]
  simp [sumI, List.getD_eq_getElem?_getD, h]
theorem total_q (cp : Bool) (xs : List Int) (hl : xs.length ≤ 1000) (hb : ∀ x ∈ xs, -1000000000 ≤ x ∧ x ≤ 1000000000) : PCall Try.prog 31 [.t (intsT cp xs)] (fun r => r = intA (sumI xs)) := by
  refine acall_of_awp T0 Try.func31 rfl rfl rfl ?_
  repeat (first | refine awp_seq ?_ | refine awp_block ?_ | refine awp_region_lit rfl ?_ | ((first | (show AWL _ _ _ (⟨_, .assign _, _, _, _, _⟩ :: _) _ _ _; refine awl_pw ?w (pv_assign rfl rfl) rfl rfl ?_)); case w => first | exact wt_none rfl | exact wt_some' rfl rfl rfl rfl (by first | rfl | assumption | exact dT (by omega) | exact dF (by omega))) | refine awl_nil ?_)
  refine awp_loop (fun m s h => ∃ (k : Nat), k ≤ xs.length ∧ m = xs.length - k ∧ s = [(0, .t (intsT cp xs)), (3, intA (sumI (xs.take k))), (4, intA k)] ∧ h = []) ?_ ⟨0, Nat.zero_le _, rfl, rfl, rfl⟩ (by first | ((repeat' (first | exact True.intro | refine ⟨rfl, ?_⟩)); all_goals fail) | fail) (by solve | repeat' constructor)
  rintro m s h ⟨k, hk, rfl, rfl, rfl⟩
  by_cases hlt : k < xs.length
  · have h1 := hb _ (getD_mem (d := (0 : Int)) hlt)
    have h2 := sumI_bd (xs.take k) 1000000000 (fun x hx => hb x (List.mem_of_mem_take hx))
    rw [List.length_take, Nat.min_eq_left hk] at h2
    repeat (first | refine awp_seq ?_ | refine awp_block ?_ | refine awp_region_lit rfl ?_ | refine awp_skip ?_ | with_reducible refine then_n ?_ | refine awp_cond_t rfl (by first | rfl | assumption | exact dT (by omega)) ?_ | ((first | (show AWL _ _ _ (⟨_, .move _, _, _, _, _⟩ :: _) _ _ _; refine awl_pw ?w (pv_move rfl rfl) rfl rfl ?_) | (show AWL _ _ _ (⟨_, .assign _, _, _, _, _⟩ :: _) _ _ _; refine awl_pw ?w (pv_assign rfl rfl) rfl rfl ?_) | (show AWL _ _ _ (⟨_, .load _ _, _, _, _, _⟩ :: _) _ _ _; refine awl_lw ?w (lv_elt_sc T0 rfl rfl rfl rfl) rfl rfl rfl ?_) | (show AWL _ _ _ (⟨_, .indexAddr _ _ _, _, _, _, _⟩ :: _) _ _ _; refine awl_pw ?w (pv_ix_t T0 rfl rfl rfl rfl (by omega) (by first | exact Int.toNat_natCast _ | rfl)) rfl rfl ?_) | (show AWL _ _ _ (⟨_, .binOp .add _ _ _ _, _, _, _, _⟩ :: _) _ _ _; refine awl_pw ?w (pv_add rfl rfl rfl (by first | assumption | exact wr64 (by omega))) rfl rfl ?_) | (show AWL _ _ _ (⟨_, .binOp .lss _ _ _ _, _, _, _, _⟩ :: _) _ _ _; refine awl_pw ?w (pv_lss rfl rfl rfl) rfl rfl ?_) | (show AWL _ _ _ (⟨_, .call ⟨.builtin .len, _, _⟩, _, _, _, _⟩ :: _) _ _ _; refine awl_pw ?w (pv_len_t T0 rfl rfl rfl) rfl rfl ?_)); case w => first | exact wt_none rfl | exact wt_some' rfl rfl rfl rfl (by first | rfl | assumption | exact dT (by omega) | exact dF (by omega))) | refine awl_nil ?_)
    rw [← sumI_take hlt]
    refine rnd_n _ _ _ ?_ ⟨k + 1, hlt, rfl, rfl, rfl⟩ (by first | ((repeat' (first | exact True.intro | refine ⟨rfl, ?_⟩)); all_goals fail) | fail) (by solve | repeat' constructor)
    omega
  · obtain rfl : k = xs.length := by omega
    rw [List.take_length]
    repeat (first | refine awp_seq ?_ | refine awp_region_lit rfl ?_ | refine awp_exit ?_ | refine awp_ret ?_ | with_reducible refine then_n ?_ | refine awp_cond_f rfl (by first | rfl | assumption | exact dF (by omega)) ?_ | ((first | (show AWL _ _ _ (⟨_, .move _, _, _, _, _⟩ :: _) _ _ _; refine awl_pw ?w (pv_move rfl rfl) rfl rfl ?_) | (show AWL _ _ _ (⟨_, .assign _, _, _, _, _⟩ :: _) _ _ _; refine awl_pw ?w (pv_assign rfl rfl) rfl rfl ?_) | (show AWL _ _ _ (⟨_, .binOp .lss _ _ _ _, _, _, _, _⟩ :: _) _ _ _; refine awl_pw ?w (pv_lss rfl rfl rfl) rfl rfl ?_) | (show AWL _ _ _ (⟨_, .call ⟨.builtin .len, _, _⟩, _, _, _, _⟩ :: _) _ _ _; refine awl_pw ?w (pv_len_t T0 rfl rfl rfl) rfl rfl ?_)); case w => first | exact wt_none rfl | exact wt_some' rfl rfl rfl rfl (by first | rfl | assumption | exact dT (by omega) | exact dF (by omega))) | refine awl_nil ?_)
    exact body_p (.cons rfl .nil) rfl
theorem total_v {cp : Bool} {xs : List Int} {y : Int} (hl : xs.length ≤ 1000) (hb : ∀ x ∈ xs, -1000000000 ≤ x ∧ x ≤ 1000000000) (h : sumI xs = y) : PCall Try.prog 31 [.t (intsT cp xs)] (fun r => r = intA y) := by subst h; exact total_q cp xs hl hb
theorem consT_le {cp : Bool} (cs : List ConD) : TrLe (consT cp cs) (consT false cs) := .sl (fun h => by cases h) (fun k hk => ⟨rfl, fun j x x' h1 h2 => by rw [h1] at h2; cases h2; exact .refl _⟩)
theorem bookA_le {cp : Bool} (b : BookD) : AVLe (bookA cp b) (bookA false b) := .ag (.cons (.refl _) (.cons (.t (consT_le _)) .nil))
theorem book_w (cp : Bool) (b : BookD) (hl : b.cons.length ≤ 1000) : PCall Try.prog 24 [bookA cp b] (fun r => r = bookA true b) := pcall_weak (book_p b hl) (.cons (bookA_le _) .nil)
theorem pigeon : ∀ (h n : Nat) (f : Nat → Nat), (∀ i, i < n → f i < h) → (∀ i j, i < n → j < i → f j ≠ f i) → n ≤ h
  | 0, n, f, hb, _ => by
    rcases Nat.eq_zero_or_pos n with e | e
    · omega
    · exact absurd (hb 0 e) (Nat.not_lt_zero _)
  | h + 1, n, f, hb, hd => by
    by_cases ex : ∃ i, i < n ∧ f i = h
    · obtain ⟨i0, hi0, e0⟩ := ex
      have := pigeon h (n - 1) (fun i => if i < i0 then f i else f (i + 1)) (fun i hi => by
        split
        · have := hb i (by omega)
          have : f i ≠ f i0 := hd i0 i hi0 (by omega)
          omega
        · have := hb (i + 1) (by omega)
          have : f i0 ≠ f (i + 1) := hd (i + 1) i0 (by omega) (by omega)
          omega) (fun i j hi hj => by
        split <;> split <;> first | omega | exact hd _ _ (by omega) (by omega))
      omega
    · have := pigeon h n f (fun i hi => by
        have := hb i hi
        have : f i ≠ h := fun e => ex ⟨i, hi, e⟩
        omega) hd
      omega
theorem acc_add {cs : List ConD} {f g : Nat → Int} (h : Nat) : ∀ k, accN cs (fun i => f i + g i) k h = accN cs f k h + accN cs g k h
  | 0 => rfl
  | k + 1 => by
    simp only [accN]
    rw [acc_add h k]
    split <;> split <;> omega
theorem acc_zero {cs : List ConD} (h : Nat) : ∀ k, accN cs (fun _ => 0) k h = 0
  | 0 => rfl
  | k + 1 => by
    simp only [accN]
    rw [acc_zero h k]
    split <;> split <;> rfl
theorem acc_one {cs : List ConD} {x : Nat} {v : Int} (h : Nat) : ∀ k, accN cs (fun i => if (x : Int) = (i : Int) then v else 0) k h = if x < k then (if (cs.getD x default).to = (h : Int) then v else 0) - (if (cs.getD x default).frm = (h : Int) then v else 0) else 0
  | 0 => by simp [accN]
  | k + 1 => by
    simp only [accN]
    rw [acc_one h k]
    by_cases e : x = k
    · subst e
      rw [if_neg (Nat.lt_irrefl _), if_pos (Nat.lt_succ_self _), if_pos rfl]
      omega
    · rw [if_neg (c := (x : Int) = (k : Int)) (by omega)]
      simp only [ite_self, Int.add_zero, Int.sub_zero]
      by_cases c : x < k
      · rw [if_pos c, if_pos (c := x < k + 1) (by omega)]
      · rw [if_neg c, if_neg (c := x < k + 1) (by omega)]
end Go.Proofs.Ytlpknbneilgjkaa.R
end
