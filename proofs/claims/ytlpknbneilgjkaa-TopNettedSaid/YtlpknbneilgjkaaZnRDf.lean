/- bring and deliver: their walks. -/
import Derived.Test.YtlpknbneilgjkaaZnRDe
import Derived.Test.YtlpknbneilgjkaaZnRDh
import Derived.Test.YtlpknbneilgjkaaZnGTs
import Derived.Test.YtlpknbneilgjkaaZnRFr
namespace Go.Proofs.Ytlpknbneilgjkaa.R
open Go Go.RowKit Go.Tl
set_option linter.unusedVariables false
set_option linter.unusedSimpArgs false
set_option maxRecDepth 100000
set_option maxHeartbeats 4000000
inductive BringR (b : BookD) (cap : Nat → Int) (fr : Nat) (nd f : Nat → Int) : Bool → (Nat → Int) → (Nat → Int) → Prop
  | no {Z : Nat → Bool} (hat : Z fr = true) (hcl : ∀ v, v < b.houses.toNat → Z v = true → nd v ≤ 0 ∧ ∀ a : Arc, a.1 < b.cons.length → 0 < fL cap f a → aF b a = v → Z (aT b a) = true) : BringR b cap fr nd f false nd f
  | yes {nd' f' : Nat → Int} (hbd : ∀ i, i < b.cons.length → 0 ≤ f' i ∧ f' i ≤ cap i) (hsum : ∀ v, nd' v + accN b.cons f' b.cons.length v = nd v + accN b.cons f b.cons.length v)
      (hup : nd fr < nd' fr ∧ nd' fr ≤ 0) (hnd : ∀ v, v ≠ fr → nd' v ≤ nd v ∧ (nd' v = nd v ∨ 0 ≤ nd' v)) : BringR b cap fr nd f true nd' f'
theorem bring_of {b : BookD} {cap : Nat → Int} {fr : Nat} {nd f nd' f' : Nat → Int} {n : Int} {Z' : Nat → Bool} (h0 : nd fr < 0) (h : BrPost b cap fr (0 - nd fr) (fun _ => false) nd f n Z' nd' f') : BringR b cap fr nd f (decide (0 < n)) (fun q => if q = fr then nd' fr + n else nd' q) f' := by
  cases h with
  | none hsub hat hcl =>
    have e : (fun q => if q = fr then nd fr + 0 else nd q) = nd := by funext q; by_cases c : q = fr; subst c; simp; simp [c]
    rw [e]
    exact .no hat fun v hv hz => hcl v hv hz rfl
  | some hn hbd hsum hnd hkeep =>
    rw [decide_eq_true (show 0 < n by omega)]
    have h1 := hnd fr
    refine .yes hbd (fun v => ?_) ?_ (fun v hv => ?_)
    · have := hsum v
      show (if v = fr then nd' fr + n else nd' v) + _ = _
      by_cases c : v = fr
      · subst c; rw [if_pos rfl]; rw [if_pos rfl] at this; omega
      · rw [if_neg c]; rw [if_neg (fun e => c e.symm)] at this; omega
    · show nd fr < (if fr = fr then nd' fr + n else nd' fr) ∧ (if fr = fr then nd' fr + n else nd' fr) ≤ 0
      rw [if_pos rfl]; omega
    · show (if v = fr then nd' fr + n else nd' v) ≤ _ ∧ ((if v = fr then nd' fr + n else nd' v) = _ ∨ 0 ≤ (if v = fr then nd' fr + n else nd' v))
      rw [if_neg hv]; exact hnd v
def dlF (b : BookD) (l : List Int) (a : Arc) : Int := if a.2 = false ∧ l.contains (a.1 : Int) = true then numF b a.1 else 0
theorem dl_zero (b : BookD) : (fun _ => intA 0) = fun a => intA (dlF b [] a) := by
  funext a; unfold dlF; simp
theorem dl_all (b : BookD) (e : List Int) : dlF b e = fL (capS b (inL e)) (fun _ => 0) := by
  funext a
  obtain ⟨i, t⟩ := a
  unfold dlF fL capS inL
  cases t
  · cases c : e.contains (i : Int) <;> simp [c]
  · simp
theorem nd_bd {b : BookD} (hv : VBook b) {cap f nd : Nat → Int} (hcap : ∀ i, i < b.cons.length → cap i ≤ 100) (hbd : ∀ i, i < b.cons.length → 0 ≤ f i ∧ f i ≤ cap i) {v : Nat} (h : nd v + accN b.cons f b.cons.length v = accN b.cons (numF b) b.cons.length v) : -100000 ≤ nd v ∧ nd v ≤ 100000 := by
  have hlen := hv.len
  have h1 := accN_bd (cs := b.cons) (f := f) (B := 100) (by omega) b.cons.length v (fun i hi => by have := hbd i hi; have := hcap i hi; omega)
  have h2 := accN_bd (cs := b.cons) (f := numF b) (B := 100) (by omega) b.cons.length v (fun i hi => by have := hv.num i hi; unfold numF; omega)
  omega
theorem sumR_ge' {n j : Nat} {F : Nat → Int} (h0 : ∀ i, i < n → 0 ≤ F i) (hj : j < n) : F j ≤ sumR n F := by
  induction n with
  | zero => exact absurd hj (Nat.not_lt_zero _)
  | succ n ih =>
    have hnn : 0 ≤ sumR n F := by have := sumR_le (n := n) (F := fun _ => 0) (G := F) (fun i hi => h0 i (by omega)); rw [sumR_zero] at this; exact this
    rw [sumR_succ]
    by_cases e : j = n
    · subst e; omega
    · have := ih (fun i hi => h0 i (by omega)) (by omega); have := h0 n (by omega); omega
theorem del_of {b : BookD} (hv : VBook b) {cap f nd : Nat → Int} (hbd : ∀ i, i < b.cons.length → 0 ≤ f i ∧ f i ≤ cap i) (hsum : ∀ v, v < b.houses.toNat → nd v + accN b.cons f b.cons.length v = accN b.cons (numF b) b.cons.length v) (h0 : ∀ v, v < b.houses.toNat → 0 ≤ nd v) : DelF b cap f := by
  have e1 := acc_sum hv f b.cons.length (Nat.le_refl _)
  have e2 := acc_sum hv (numF b) b.cons.length (Nat.le_refl _)
  have e3 : sumR b.houses.toNat (fun h => nd h + accN b.cons f b.cons.length h) = sumR b.houses.toNat (fun h => accN b.cons (numF b) b.cons.length h) := sumR_congr fun h hh => hsum h hh
  rw [sumR_add, e1, e2] at e3
  refine ⟨hbd, fun h => ?_⟩
  by_cases c : h < b.houses.toNat
  · have h1 := sumR_ge' (n := b.houses.toNat) (F := nd) h0 c
    have h2 := h0 h c
    have h3 := hsum h c
    have e4 : sumR b.houses.toNat (fun h => nd h) = sumR b.houses.toNat nd := rfl
    omega
  · rw [acc_far hv f (by omega) _ (Nat.le_refl _), acc_far hv (numF b) (by omega) _ (Nat.le_refl _)]
theorem no_of {b : BookD} (hv : VBook b) {S : Nat → Bool} {f nd : Nat → Int} {fr : Nat} (hbd : ∀ i, i < b.cons.length → 0 ≤ f i ∧ f i ≤ capS b S i) (hsum : ∀ v, v < b.houses.toNat → nd v + accN b.cons f b.cons.length v = accN b.cons (numF b) b.cons.length v) (hfr : fr < b.houses.toNat) (hneg : nd fr < 0)
    {Z : Nat → Bool} (hat : Z fr = true) (hcl : ∀ v, v < b.houses.toNat → Z v = true → nd v ≤ 0 ∧ ∀ a : Arc, a.1 < b.cons.length → 0 < fL (capS b S) f a → aF b a = v → Z (aT b a) = true) : ¬ EnoughS b S := by
  refine cut_not hv hbd hsum (fun i hi h1 h2 => ?_) (fun i hi h1 h2 => ?_) (fun h hh hz => (hcl h hh hz).1) hfr hat hneg
  · have hf := hv.frm i hi
    have hb := hbd i hi
    refine Classical.byContradiction fun hne => ?_
    have := (hcl (b.cons.getD i default).frm.toNat (by omega) h1).2 (i, false) hi (by show 0 < capS b S i - f i; omega) rfl
    have h3 : Z (b.cons.getD i default).to.toNat = true := this
    rw [h2] at h3; cases h3
  · have ht := hv.to i hi
    have hb := hbd i hi
    refine Classical.byContradiction fun hne => ?_
    have := (hcl (b.cons.getD i default).to.toNat (by omega) h1).2 (i, true) hi (by show 0 < f i; omega) rfl
    have h3 : Z (b.cons.getD i default).frm.toNat = true := this
    rw [h2] at h3; cases h3
attribute [local irreducible] AWP AWL AOp PV LV AWT AWE
theorem difs_o (cp : Bool) (b : BookD) (hv : VBook b) : ACall Try.prog 106 [bookA cp b] [] (fun r h' => ∃ ga, r = .v (.slice (some ⟨ga, 0, none⟩) b.houses.toNat b.houses.toNat) ∧ h' = [.rw (.slice (some ⟨ga, 0, none⟩) b.houses.toNat b.houses.toNat) 3 1 (fRows (accN b.cons (numF b) b.cons.length) b.houses.toNat)]) := by
  have hlen := hv.len
  refine acall_of_awp T0 Try.func106 rfl rfl rfl ?_
  repeat (first | refine awp_seq ?_ | refine awp_region_lit rfl ?_)
  refine awl_hw (wt_none rfl) (st_box rfl rfl (by first | rfl | assumption) (by first | assumption | (simp only [cellsA]; rfl)) rfl rfl ?_)
  intro g1
  repeat (first | refine awp_seq ?_ | refine awp_region_lit rfl ?_ | (show AWL _ _ _ (⟨_, .assign _, _, _, _, _⟩ :: _) _ _ _; refine awl_pw (wt_none rfl) (pv_assign rfl rfl) rfl rfl ?_) | (show AWL _ _ _ (⟨_, .load _ _, _, _, _, _⟩ :: _) _ _ _; refine awl_lw (wt_none rfl) (lv_cla T0 rfl rfl rfl (by solve | repeat' constructor) rfl) rfl rfl rfl ?_) | refine awl_nil ?_)
  refine awl_pw (wt_none rfl) (pv_makeFunc_v (fs := []) (cs := [ptrV g1]) rfl rfl rfl) rfl rfl ?_
  refine awl_hw (wt_none rfl) (st_acall T0 (acall_unpack2 (sums_o (o := packOb [.cl g1 99 [intA b.houses, .t (consT cp b.cons)]]) (f := numF b) (fsN := []) (csN := [.v (ptrV g1)]) (gN := 153) (fv := .v (.func (.func 153) #[] #[ptrV g1])) cp b hv (callee_v (a := []) (b := [ptrV g1])) rfl (fun i hi => by have := hv.num i hi; unfold numF; omega) (fun i hi => acall_pack (diff1_p cp b g1 i hi (by omega))))) rfl rfl rfl rfl (by first | exact callee_lit | exact callee_v | exact callee_fn | assumption) (by solve | repeat' constructor) (by first | rfl | assumption) rfl (by first | ((repeat' (first | exact SubH.refl _ | apply SubH.cons | exact Pick.here | apply Pick.there)); all_goals fail) | fail) (fun _ _ => trivial) ?_)
  rintro r h ⟨h1, ⟨ga, rfl, rfl⟩, rfl⟩
  simp only [List.cons_append, List.nil_append]
  repeat (first | refine awp_ret ?_ | (show AWL _ _ _ (⟨_, .assign _, _, _, _, _⟩ :: _) _ _ _; refine awl_pw (wt_none rfl) (pv_assign rfl rfl) rfl rfl ?_) | refine awl_nil ?_)
  exact body_r (h' := [.rw (.slice (some ⟨ga, 0, none⟩) b.houses.toNat b.houses.toNat) 3 1 (fRows (accN b.cons (numF b) b.cons.length) b.houses.toNat)]) (.cons rfl .nil) (by solve | repeat' constructor) ⟨ga, rfl, rfl⟩
section
variable {b : BookD} {cp cp' : Bool} {g2 g3 g5 g7 g8 gs gn gw gm fr H i : Nat} {nd : Nat → Int} {F : Arc → Int} {l e : List Int} {u1 u15 u16 u17 : AV} {rest : List Ent}
theorem df_4 {R : Int → (Nat → Bool) → (Nat → Int) → (Arc → Int) → Prop} (hf : fr < H) (hH : H ≤ 6) (hb : -100000 ≤ nd fr ∧ nd fr ≤ 100000) (hC : ACall Try.prog 154 [intA fr, intA (0 - nd fr), .v (ptrV g7), .v (ptrV g5), .v (ptrV g3), .v (ptrV g8)] (brE g3 g5 g7 g8 gs gn gw gm b cp H (fun _ => false) nd F) (fun r h' => ∃ n Z' nd' F', R n Z' nd' F' ∧ r = intA n ∧ h' = brE g3 g5 g7 g8 gs gn gw gm b cp H Z' nd' F'))
    {ops : Array Oper} (h : regF Try.f107 4 = some ops) :
    AWP Try.prog Try.f107.ntmps none (.region 4 ops true) (cutQ (fun s h => ∃ n Z' nd' F', R n Z' nd' F' ∧ s = [(9, intA n), (1, intA fr), (5, .v (ptrV g5))] ∧ h = brE g3 g5 g7 g8 gs gn gw gm b cp H Z' nd' F'))
      [(1, intA fr), (5, .v (ptrV g5)), (8, .v (ptrV g8))] (brE g3 g5 g7 g8 gs gn gw gm b cp H (fun _ => false) nd F) := by
  cases h
  have r1 : ((fRows nd H).getD fr [])[0]? = some (intA (nd fr)) := fRows_at hf
  have r2 := fRows_len nd H
  refine awp_tree T0 [(0, 1), (1, 0), (2, 1), (3, 0), (4, 0), (5, 1), (6, 0), (7, 3), (8, 0)] (.op 0 1 (.op 1 0 (.op 2 1 (.op 3 0 (.op 4 0 (.op 5 1 (.op 6 0 (.op 7 3 (.op 8 0 .stop))))))))) [.cl g7 _ _, .rw (.slice (some ⟨gs, 0, none⟩) H H) _ _ _, .cl g5 _ _, .rw (.slice (some ⟨gn, 0, none⟩) H H) _ _ _, .cl g3 _ _, .cl gw _ _, leftM gm F, .cl g8 _ _] rfl (by kernel_rfl) (by solve | repeat' constructor) ?_
  refine awt_lo rfl (wt_none rfl) (lv_cl1 T0 rfl rfl rfl (by solve | repeat' constructor) (by first | rfl | assumption)) rfl rfl rfl ?_
  refine awt_po rfl (wt_none rfl) (pv_move rfl rfl) rfl rfl ?_
  refine awt_lo rfl (wt_none rfl) (lv_cl1 T0 rfl rfl rfl (by solve | repeat' constructor) (by first | rfl | assumption)) rfl rfl rfl ?_
  refine awt_po rfl (wt_none rfl) (pv_move rfl rfl) rfl rfl ?_
  refine awt_po rfl (wt_none rfl) (pv_ix_own T0 rfl rfl rfl rfl (by omega) (by first | exact (rfl : Int.toNat 0 = 0) | exact Int.toNat_natCast _ | rfl)) rfl rfl ?_
  refine awt_lo rfl (wt_none rfl) (lv_rp T0 rfl rfl rfl (by solve | repeat' constructor) (by first | omega | (simp; omega)) (by omega) (by first | assumption | rfl)) rfl rfl rfl ?_
  refine awt_po rfl (wt_none rfl) (pv_neg rfl rfl (wr64 (by omega))) rfl rfl ?_
  refine awt_s (md := fun _ => True) rfl (wt_none rfl) (st_acall T0 (hC) rfl rfl rfl rfl (by first | exact callee_lit | exact callee_v | exact callee_fn | assumption) (by solve | repeat' constructor) (by first | rfl | assumption) rfl (by first | ((repeat' (first | exact SubH.refl _ | apply SubH.cons | exact Pick.here | apply Pick.there)); all_goals fail) | fail) (fun _ _ => trivial) ?_)
  rintro r h' ⟨n, Z', nd', F', hR, rfl, rfl⟩
  refine awe_p rfl (wt_none rfl) (pv_assign rfl rfl) rfl rfl ?_
  refine awe_end ?_
  exact cut_n ⟨n, Z', nd', F', hR, rfl, rfl⟩ (by first | ((repeat' (first | exact True.intro | refine ⟨rfl, ?_⟩)); all_goals fail) | fail) (by solve | repeat' constructor)
theorem df_5 (hi : i < b.cons.length) (hl : b.cons.length ≤ 1000) {ops : Array Oper} (h : regF Try.f65 5 = some ops) :
    AWP Try.prog Try.f65.ntmps none (.region 5 ops true) (cutQ (fun s h => s = [(2, .v (ptrV g2)), (6, .v (ptrV gw)), (15, u15), (16, u16), (17, u17)] ∧ h = [workE gw gm b cp, leftM gm (dlF b (l ++ [(i : Int)])), .cl g2 99 [intA b.houses, .t (consT cp b.cons)]]))
      [(2, .v (ptrV g2)), (6, .v (ptrV gw)), (8, intA i), (15, u15), (16, u16), (17, u17)] [workE gw gm b cp, leftM gm (dlF b l), .cl g2 99 [intA b.houses, .t (consT cp b.cons)]] := by
  cases h
  have hup : updF (fun a => intA (dlF b l a)) (i, false) (intA (b.cons.getD i default).num) = fun a => intA (dlF b (l ++ [(i : Int)]) a) := by
    funext a
    obtain ⟨j, t⟩ := a
    unfold updF dlF
    by_cases c : ((j, t) : Arc) = (i, false)
    · cases c; simp [numF]
    · rw [if_neg c]
      cases t
      · have : j ≠ i := fun h => c (by rw [h])
        have : (j : Int) ≠ (i : Int) := by omega
        simp [this]
      · simp
  refine awp_tree T0 [(0, 0), (1, 0), (2, 0), (3, 1), (4, 0), (5, 0), (6, 0), (7, 1), (8, 0), (9, 0), (10, 0), (11, 1), (12, 3)] (.op 0 0 (.op 1 0 (.op 2 0 (.op 3 1 (.op 4 0 (.op 5 0 (.op 6 0 (.op 7 1 (.op 8 0 (.op 9 0 (.op 10 0 (.op 11 1 (.op 12 3 .stop))))))))))))) [.cl gw _ _, .cl g2 _ _] rfl (by kernel_rfl) (by solve | repeat' constructor) ?_
  refine awt_po rfl (wt_none rfl) (pv_move rfl rfl) rfl rfl ?_
  refine awt_po rfl (wt_none rfl) (pv_nilCheck rfl rfl) rfl rfl ?_
  refine awt_po rfl (wt_none rfl) (pv_fa T0 rfl rfl rfl (by simp; rfl)) rfl rfl ?_
  refine awt_lo rfl (wt_none rfl) (lv_cl1 T0 rfl rfl rfl (by solve | repeat' constructor) (by first | rfl | assumption)) rfl rfl rfl ?_
  refine awt_po rfl (wt_none rfl) (pv_move rfl rfl) rfl rfl ?_
  refine awt_po rfl (wt_none rfl) (pv_build T0 rfl rfl rfl (by simp only [Value.cells, List.toList_toArray, List.map_cons, List.map_nil]; rfl) (by first | ((repeat' (first | exact BParts.nil | apply BParts.cons | rfl)); all_goals fail) | fail) (by first | ((repeat' (first | exact FillA.nil | exact Sp.done | apply FillA.cons | apply Sp.put | apply Sp.skip | (simp only [cellsA]; rfl) | rfl)); all_goals fail) | fail)) rfl rfl ?_
  refine awt_po rfl (wt_none rfl) (pv_fa T0 rfl rfl rfl (by simp; rfl)) rfl rfl ?_
  refine awt_lo rfl (wt_none rfl) (lv_cl1 T0 rfl rfl rfl (by solve | repeat' constructor) (by first | rfl | assumption)) rfl rfl rfl ?_
  refine awt_po rfl (wt_none rfl) (pv_move rfl rfl) rfl rfl ?_
  refine awt_po rfl (wt_none rfl) (pv_ix_t T0 rfl rfl rfl rfl (by omega) (by first | exact (rfl : Int.toNat 0 = 0) | exact Int.toNat_natCast _ | rfl)) rfl rfl ?_
  refine awt_po rfl (wt_none rfl) (pv_fa_elt T0 rfl rfl rfl (by simp; rfl)) rfl rfl ?_
  refine awt_lo rfl (wt_none rfl) (lv_elt_sc T0 rfl rfl rfl rfl) rfl rfl rfl ?_
  refine awt_s (md := fun _ => True) rfl (wt_none rfl) (aop_mapUpdateF Ma (k := (i, false)) rfl rfl rfl rfl rfl rfl (by solve | repeat' constructor) hup trivial ?_)
  refine awe_end ?_
  exact cut_n ⟨rfl, rfl⟩ (by first | ((repeat' (first | exact True.intro | refine ⟨rfl, ?_⟩)); all_goals fail) | fail) (by solve | repeat' constructor)
end
theorem bring_p (gn gw gm : Nat) (b : BookD) (cp : Bool) (cap : Nat → Int) (hv : VBook b) (H : Nat) (hH : b.houses = H) (hcap : ∀ i, i < b.cons.length → cap i ≤ 100) (fr : Nat) (nd f : Nat → Int) (hfr : fr < H) (hneg : nd fr < 0) (hnd : ∀ v, v < H → -100000 ≤ nd v ∧ nd v ≤ 100000) (hbd : ∀ i, i < b.cons.length → 0 ≤ f i ∧ f i ≤ cap i) :
    ACall Try.prog 107 [.v (ptrV gw), intA fr, .v (.slice (some ⟨gn, 0, none⟩) H H)] [workE gw gm b cp, leftM gm (fL cap f), .rw (.slice (some ⟨gn, 0, none⟩) H H) 3 1 (fRows nd H)]
      (fun r h' => ∃ rb nd' f', BringR b cap fr nd f rb nd' f' ∧ r = boolA rb ∧ h' = [workE gw gm b cp, leftM gm (fL cap f'), .rw (.slice (some ⟨gn, 0, none⟩) H H) 3 1 (fRows nd' H)]) := by
  have hh := hv.houses
  have hndf := hnd fr hfr
  refine acall_of_awp T0 Try.func107 rfl rfl rfl ?_
  repeat (first | refine awp_seq ?_ | refine awp_region_lit rfl ?_)
  refine awl_hw (wt_none rfl) (st_box rfl rfl (by first | rfl | assumption) (by first | assumption | (simp only [cellsA]; rfl)) rfl rfl ?_)
  intro g3
  skip
  refine awl_hw (wt_none rfl) (st_box rfl rfl (by first | rfl | assumption) (by first | assumption | (simp only [cellsA]; rfl)) rfl rfl ?_)
  intro g5
  repeat (first | refine awp_seq ?_ | refine awp_region_lit rfl ?_ | (show AWL _ _ _ (⟨_, .assign _, _, _, _, _⟩ :: _) _ _ _; refine awl_pw (wt_none rfl) (pv_assign rfl rfl) rfl rfl ?_) | (show AWL _ _ _ (⟨_, .load _ _, _, _, _, _⟩ :: _) _ _ _; refine awl_lw (wt_none rfl) (lv_cl1 T0 rfl rfl rfl (by solve | repeat' constructor) (by first | rfl | assumption)) rfl rfl rfl ?_) | (show AWL _ _ _ (⟨_, .fieldAddr _ _ _, _, _, _, _⟩ :: _) _ _ _; refine awl_pw (wt_none rfl) (pv_fa T0 rfl rfl rfl (by simp; rfl)) rfl rfl ?_) | (show AWL _ _ _ (⟨_, .nilCheck _, _, _, _, _⟩ :: _) _ _ _; refine awl_pw (wt_none rfl) (pv_nilCheck rfl rfl) rfl rfl ?_) | refine awl_nil ?_)
  rw [hH]
  refine awl_hw (wt_none rfl) (aop_make T0 rfl rfl rfl rfl rfl rfl rfl rfl (by omega) rfl ?_)
  intro gs
  have hz : List.replicate H [AV.v (Value.bool false)] = bRows (fun _ => false) H := by
    refine List.ext_getElem (by simp [bRows]) fun k h1 h2 => ?_
    simp [bRows]
  skip
  refine awl_hw (wt_none rfl) (st_alloc T0 rfl rfl rfl rfl (by simp only [Value.cells, List.toList_toArray, List.map_cons, List.map_nil]; rfl) ?_)
  intro g7
  repeat (first | refine awp_seq ?_ | refine awp_region_lit rfl ?_ | (show AWL _ _ _ (⟨_, .store _ _ _, _, _, _, _⟩ :: _) _ _ _; refine awl_hw (wt_none rfl) (st_store T0 rfl rfl rfl rfl rfl (by first | assumption | (simp only [cellsA]; rfl)) rfl rfl rfl (by solve | repeat' constructor) (by solve | repeat' constructor) trivial ?_)) | refine awl_nil ?_)
  refine awl_hw (wt_none rfl) (st_alloc T0 rfl rfl rfl rfl (by simp only [Value.cells, List.toList_toArray, List.map_cons, List.map_nil]; rfl) ?_)
  intro g8
  repeat (first | refine awp_seq ?_ | refine awp_region_lit rfl ?_ | refine awl_nil ?_)
  refine awl_pw (wt_none rfl) (pv_makeFunc_v (fs := []) (cs := [ptrV g7, ptrV g5, ptrV g3, ptrV g8]) rfl rfl rfl) rfl rfl ?_
  repeat (first | refine awp_seq ?_ | (show AWL _ _ _ (⟨_, .store _ _ _, _, _, _, _⟩ :: _) _ _ _; refine awl_hw (wt_none rfl) (st_store T0 rfl rfl rfl rfl rfl (by first | assumption | (simp only [cellsA]; rfl)) rfl rfl rfl (by solve | repeat' constructor) (by solve | repeat' constructor) trivial ?_)) | refine awl_nil ?_)
  have hC := bwalk1_p g3 g5 g7 g8 gs gn gw gm b cp cap hv H hH hcap (posN (unF fun _ => false) H) fr (0 - nd fr) (fun _ => false) nd f (Nat.le_refl _) hfr rfl (by omega) (by omega) hnd hbd
  rw [hz]
  have hpost : ∀ n Z' nd' f', BrPost b cap fr (0 - nd fr) (fun _ => false) nd f n Z' nd' f' → BringR b cap fr nd f (decide (0 < n)) (fun q => if q = fr then nd' fr + n else nd' q) f' ∧ (-100000 ≤ nd' fr ∧ nd' fr ≤ 100000) ∧ 0 ≤ n ∧ n ≤ 100000 := fun n Z' nd' f' hP => by
    refine ⟨bring_of hneg hP, ?_⟩
    cases hP with
    | none => omega
    | some hn _ _ hnd' => have := hnd' fr; omega
  refine awp_cut _ (awp_weak (by first | ((repeat' (first | exact True.intro | refine ⟨rfl, ?_⟩)); all_goals fail) | fail) (by solve | repeat' constructor) (df_4 (b := b) (cp := cp) (g3 := g3) (g5 := g5) (g7 := g7) (g8 := g8) (gs := gs) (gn := gn) (gw := gw) (gm := gm) (fr := fr) (H := H) (nd := nd) (F := fL cap f)
    (R := fun n Z2 nd2 F2 => ∃ f2, BrPost b cap fr (0 - nd fr) (fun _ => false) nd f n Z2 nd2 f2 ∧ F2 = fL cap f2) hfr (by omega) hndf (hC.mono fun r h' ⟨n, Z2, nd2, f2, hP, e1, e2⟩ => ⟨n, Z2, nd2, _, ⟨f2, hP, rfl⟩, e1, e2⟩) rfl)) ?_
  rintro s h ⟨n, Z2, nd2, F2, ⟨f2, hP, rfl⟩, rfl, rfl⟩
  obtain ⟨hR, hb1, hb2⟩ := hpost n Z2 nd2 f2 hP
  have r1 : ((fRows nd2 H).getD fr [])[0]? = some (intA (nd2 fr)) := fRows_at hfr
  have r2 := fRows_len nd2 H
  have hset := fRows_set (f := nd2) (g := fun q => if q = fr then nd2 fr + n else nd2 q) (m := H) (j := fr) (v := nd2 fr + n) hfr (fun q _ => rfl)
  repeat (first | refine awp_seq ?_ | refine awp_region_lit rfl ?_ | (show AWL _ _ _ (⟨_, .move _, _, _, _, _⟩ :: _) _ _ _; refine awl_pw (wt_none rfl) (pv_move rfl rfl) rfl rfl ?_) | (show AWL _ _ _ (⟨_, .load _ _, _, _, _, _⟩ :: _) _ _ _; refine awl_lw (wt_none rfl) (lv_cl1 T0 rfl rfl rfl (by solve | repeat' constructor) (by first | rfl | assumption)) rfl rfl rfl ?_) | (show AWL _ _ _ (⟨_, .load _ _, _, _, _, _⟩ :: _) _ _ _; refine awl_lw (wt_none rfl) (lv_rp T0 rfl rfl rfl (by solve | repeat' constructor) (by first | omega | (simp; omega)) (by omega) (by first | assumption | rfl)) rfl rfl rfl ?_) | (show AWL _ _ _ (⟨_, .indexAddr _ _ _, _, _, _, _⟩ :: _) _ _ _; refine awl_pw (wt_none rfl) (pv_ix_own T0 rfl rfl rfl rfl (by omega) (by first | exact (rfl : Int.toNat 0 = 0) | exact Int.toNat_natCast _ | rfl)) rfl rfl ?_) | (show AWL _ _ _ (⟨_, .binOp .add _ _ _ _, _, _, _, _⟩ :: _) _ _ _; refine awl_pw (wt_none rfl) (pv_add rfl rfl rfl (by first | assumption | exact wr64 (by omega))) rfl rfl ?_))
  refine awl_hw (wt_none rfl) (aop_store_rp T0 rfl rfl rfl rfl rfl rfl rfl rfl (by solve | repeat' constructor) (by first | omega | (simp; omega)) (by omega) rfl trivial ?_)
  simp only [cellsA]
  rw [hset]
  repeat (first | refine awp_seq ?_ | refine awp_region_lit rfl ?_ | refine awp_ret ?_ | (show AWL _ _ _ (⟨_, .move _, _, _, _, _⟩ :: _) _ _ _; refine awl_pw (wt_none rfl) (pv_move rfl rfl) rfl rfl ?_) | (show AWL _ _ _ (⟨_, .assign _, _, _, _, _⟩ :: _) _ _ _; refine awl_pw (wt_none rfl) (pv_assign rfl rfl) rfl rfl ?_) | (show AWL _ _ _ (⟨_, .binOp .gtr _ _ _ _, _, _, _, _⟩ :: _) _ _ _; refine awl_pw (wt_none rfl) (pv_gtr rfl rfl rfl) rfl rfl ?_) | refine awl_nil ?_)
  exact body_r (h' := [workE gw gm b cp, leftM gm (fL cap f2), .rw (.slice (some ⟨gn, 0, none⟩) H H) 3 1 (fRows (fun q => if q = fr then nd2 fr + n else nd2 q) H)]) (.cons rfl .nil) (by solve | repeat' constructor) ⟨decide (0 < n), _, f2, hR, rfl, rfl⟩
theorem deliver_p (cp cp' : Bool) (b : BookD) (e : List Int) (hv : VBook b) (he : ∀ x ∈ e, 0 ≤ x ∧ x < b.cons.length) (hel : e.length ≤ 1000) :
    PCall Try.prog 65 [bookA cp b, .t (intsT cp' e)] (fun r => (∃ f, DelF b (capS b (inL e)) f ∧ r = .tup [.t (intsT true (digL f b.cons.length)), boolA true]) ∨ (¬ EnL b e ∧ r = .tup [noneA, boolA false])) := by
  have hh := hv.houses
  have hlen := hv.len
  obtain ⟨H, hH⟩ : ∃ n : Nat, b.houses = n := ⟨b.houses.toNat, by omega⟩
  have hHt : b.houses.toNat = H := by omega
  have hcap : ∀ i, i < b.cons.length → capS b (inL e) i ≤ 100 := fun i hi => by
    have := hv.num i hi
    unfold capS
    split
    · exact this.2
    · omega
  have hcap0 : ∀ i, i < b.cons.length → 0 ≤ capS b (inL e) i := fun i hi => by
    have h1 : 1 ≤ numF b i := (hv.num i hi).1
    unfold capS
    split <;> omega
  refine acall_of_awp T0 Try.func65 rfl rfl rfl ?_
  repeat (first | refine awp_seq ?_ | refine awp_region_lit rfl ?_)
  refine awl_hw (wt_none rfl) (st_box rfl rfl (by first | rfl | assumption) (by first | assumption | (simp only [cellsA]; rfl)) rfl rfl ?_)
  intro g2
  repeat (first | refine awp_seq ?_ | refine awp_region_lit rfl ?_ | (show AWL _ _ _ (⟨_, .assign _, _, _, _, _⟩ :: _) _ _ _; refine awl_pw (wt_none rfl) (pv_assign rfl rfl) rfl rfl ?_) | (show AWL _ _ _ (⟨_, .load _ _, _, _, _, _⟩ :: _) _ _ _; refine awl_lw (wt_none rfl) (lv_cla T0 rfl rfl rfl (by solve | repeat' constructor) rfl) rfl rfl rfl ?_) | refine awl_nil ?_)
  refine awl_hw (wt_none rfl) (aop_makeMapF akV (intA 0) rfl rfl rfl ?_)
  intro gm
  rw [dl_zero b]
  repeat (first | (show AWL _ _ _ (⟨_, .build _ _, _, _, _, _⟩ :: _) _ _ _; refine awl_pw (wt_none rfl) (pv_build T0 rfl rfl rfl (by simp only [Value.cells, List.toList_toArray, List.map_cons, List.map_nil]; rfl) (by first | ((repeat' (first | exact BParts.nil | apply BParts.cons | rfl)); all_goals fail) | fail) (by first | ((repeat' (first | exact FillA.nil | exact Sp.done | apply FillA.cons | apply Sp.put | apply Sp.skip | (simp only [cellsA]; rfl) | rfl)); all_goals fail) | fail)) rfl rfl ?_))
  refine awl_hw (wt_none rfl) (st_box rfl rfl (by first | rfl | assumption) (by first | assumption | (simp only [cellsA]; rfl)) rfl rfl ?_)
  intro gw
  repeat (first | refine awp_seq ?_ | refine awp_block ?_ | refine awp_region_lit rfl ?_ | (show AWL _ _ _ (⟨_, .move _, _, _, _, _⟩ :: _) _ _ _; refine awl_pw (wt_none rfl) (pv_move rfl rfl) rfl rfl ?_) | (show AWL _ _ _ (⟨_, .assign _, _, _, _, _⟩ :: _) _ _ _; refine awl_pw (wt_none rfl) (pv_assign rfl rfl) rfl rfl ?_) | (show AWL _ _ _ (⟨_, .call ⟨.builtin .len, _, _⟩, _, _, _, _⟩ :: _) _ _ _; refine awl_pw (wt_none rfl) (pv_len_t T0 rfl rfl rfl) rfl rfl ?_) | refine awl_nil ?_)
  refine awp_loop (fun m s h => ∃ (k : Nat), k ≤ e.length ∧ m = e.length - k ∧ s = [(2, .v (ptrV g2)), (6, .v (ptrV gw)), (15, .t (intsT cp' e)), (16, intA e.length), (17, intA k)] ∧ h = [workE gw gm b cp, leftM gm (dlF b (e.take k)), .cl g2 99 [intA b.houses, .t (consT cp b.cons)]]) ?_ ⟨0, Nat.zero_le _, rfl, rfl, rfl⟩ (by first | ((repeat' (first | exact True.intro | refine ⟨rfl, ?_⟩)); all_goals fail) | fail) (by solve | repeat' constructor)
  rintro m s h ⟨k, hk, rfl, rfl, rfl⟩
  by_cases hlt : k < e.length
  · have hx := he _ (getD_mem (d := (0 : Int)) hlt)
    obtain ⟨i, hi⟩ : ∃ i : Nat, e.getD k 0 = i := ⟨_, (Int.toNat_of_nonneg hx.1).symm⟩
    have hst : e.take (k + 1) = e.take k ++ [(i : Int)] := by
      rw [← hi, List.take_add_one]
      simp [List.getD_eq_getElem?_getD, hlt]
    repeat (first | refine awp_seq ?_ | refine awp_block ?_ | refine awp_region_lit rfl ?_ | refine awp_skip ?_ | with_reducible refine then_n ?_ | refine awp_cond_t rfl (by first | rfl | assumption | exact dT (by omega)) ?_ | (show AWL _ _ _ (⟨_, .assign _, _, _, _, _⟩ :: _) _ _ _; refine awl_pw (wt_none rfl) (pv_assign rfl rfl) rfl rfl ?_) | (show AWL _ _ _ (⟨_, .load _ _, _, _, _, _⟩ :: _) _ _ _; refine awl_lw (wt_none rfl) (lv_elt_sc T0 rfl rfl rfl rfl) rfl rfl rfl ?_) | (show AWL _ _ _ (⟨_, .indexAddr _ _ _, _, _, _, _⟩ :: _) _ _ _; refine awl_pw (wt_none rfl) (pv_ix_t T0 rfl rfl rfl rfl (by omega) (by first | exact (rfl : Int.toNat 0 = 0) | exact Int.toNat_natCast _ | rfl)) rfl rfl ?_) | (show AWL _ _ _ (⟨_, .binOp .lss _ _ _ _, _, _, _, _⟩ :: _) _ _ _; refine awl_pw (wt_none rfl) (pv_lss rfl rfl rfl) rfl rfl ?_) | refine awl_nil ?_)
    rw [hi]
    refine awp_cutB _ (awp_weak (by first | ((repeat' (first | exact True.intro | refine ⟨rfl, ?_⟩)); all_goals fail) | fail) (by solve | repeat' constructor) (df_5 (b := b) (cp := cp) (g2 := g2) (gw := gw) (gm := gm) (i := i) (l := e.take k) (u15 := .t (intsT cp' e)) (u16 := intA e.length) (u17 := intA k) (by omega) (by omega) rfl)) ?_
    rintro s h ⟨rfl, rfl⟩
    rw [← hst]
    repeat (first | refine awp_region_lit rfl ?_ | (show AWL _ _ _ (⟨_, .move _, _, _, _, _⟩ :: _) _ _ _; refine awl_pw (wt_none rfl) (pv_move rfl rfl) rfl rfl ?_) | (show AWL _ _ _ (⟨_, .binOp .add _ _ _ _, _, _, _, _⟩ :: _) _ _ _; refine awl_pw (wt_none rfl) (pv_add rfl rfl rfl (by first | assumption | exact wr64 (by omega))) rfl rfl ?_) | refine awl_nil ?_)
    refine rnd_n _ _ _ ?_ ⟨k + 1, hlt, rfl, rfl, rfl⟩ (by first | ((repeat' (first | exact True.intro | refine ⟨rfl, ?_⟩)); all_goals fail) | fail) (by solve | repeat' constructor)
    omega
  obtain rfl : k = e.length := by omega
  rw [List.take_length, dl_all]
  have hdo := difs_o cp b hv
  rw [hHt] at hdo
  repeat (first | refine awp_seq ?_ | refine awp_region_lit rfl ?_ | refine awp_exit ?_ | refine awp_cond_f rfl (by first | rfl | assumption | exact dF (by omega)) ?_ | (show AWL _ _ _ (⟨_, .load _ _, _, _, _, _⟩ :: _) _ _ _; refine awl_lw (wt_none rfl) (lv_cla T0 rfl rfl rfl (by solve | repeat' constructor) rfl) rfl rfl rfl ?_) | (show AWL _ _ _ (⟨_, .binOp .lss _ _ _ _, _, _, _, _⟩ :: _) _ _ _; refine awl_pw (wt_none rfl) (pv_lss rfl rfl rfl) rfl rfl ?_) | refine awl_nil ?_)
  refine awl_hw (wt_none rfl) (st_acall T0 (hdo) rfl rfl rfl rfl (by first | exact callee_lit | exact callee_v | exact callee_fn | assumption) (by solve | repeat' constructor) (by first | rfl | assumption) rfl (by first | ((repeat' (first | exact SubH.refl _ | apply SubH.cons | exact Pick.here | apply Pick.there)); all_goals fail) | fail) (fun _ _ => trivial) ?_)
  rintro r h ⟨gn, rfl, rfl⟩
  simp only [List.cons_append, List.nil_append]
  repeat (first | refine awp_seq ?_ | refine awp_block ?_ | refine awp_region_lit rfl ?_ | (show AWL _ _ _ (⟨_, .move _, _, _, _, _⟩ :: _) _ _ _; refine awl_pw (wt_none rfl) (pv_move rfl rfl) rfl rfl ?_) | (show AWL _ _ _ (⟨_, .assign _, _, _, _, _⟩ :: _) _ _ _; refine awl_pw (wt_none rfl) (pv_assign rfl rfl) rfl rfl ?_) | (show AWL _ _ _ (⟨_, .load _ _, _, _, _, _⟩ :: _) _ _ _; refine awl_lw (wt_none rfl) (lv_cl1 T0 rfl rfl rfl (by solve | repeat' constructor) (by first | rfl | assumption)) rfl rfl rfl ?_) | (show AWL _ _ _ (⟨_, .fieldAddr _ _ _, _, _, _, _⟩ :: _) _ _ _; refine awl_pw (wt_none rfl) (pv_fa T0 rfl rfl rfl (by simp; rfl)) rfl rfl ?_) | refine awl_nil ?_)
  refine awp_loop (fun m s h => ∃ (k : Nat) (nd f : Nat → Int), k ≤ H ∧ m = H - k ∧ (∀ i, i < b.cons.length → 0 ≤ f i ∧ f i ≤ capS b (inL e) i) ∧ (∀ v, v < H → nd v + accN b.cons f b.cons.length v = accN b.cons (numF b) b.cons.length v) ∧ (∀ v, v < k → 0 ≤ nd v) ∧
    s = [(6, .v (ptrV gw)), (9, .v (.slice (some ⟨gn, 0, none⟩) H H)), (37, intA b.houses), (38, intA k)] ∧ h = [workE gw gm b cp, leftM gm (fL (capS b (inL e)) f), .rw (.slice (some ⟨gn, 0, none⟩) H H) 3 1 (fRows nd H)]) ?_
    ⟨0, accN b.cons (numF b) b.cons.length, fun _ => 0, Nat.zero_le _, rfl, fun i hi => ⟨Int.le_refl _, hcap0 i hi⟩, (fun v _ => by rw [acc_zero]; omega), (fun v hv => absurd hv (Nat.not_lt_zero _)), rfl, rfl⟩ (by first | ((repeat' (first | exact True.intro | refine ⟨rfl, ?_⟩)); all_goals fail) | fail) (by solve | repeat' constructor)
  rintro m s h ⟨k, nd, f, hk, rfl, hbd, hsum, hnn, rfl, rfl⟩
  by_cases hlt2 : (k : Int) < b.houses
  case neg =>
    obtain rfl : k = H := by omega
    repeat (first | refine awp_seq ?_ | refine awp_region_lit rfl ?_ | refine awp_exit ?_ | refine awp_cond_f rfl (by first | rfl | assumption | exact dF (by omega)) ?_ | (show AWL _ _ _ (⟨_, .move _, _, _, _, _⟩ :: _) _ _ _; refine awl_pw (wt_none rfl) (pv_move rfl rfl) rfl rfl ?_) | (show AWL _ _ _ (⟨_, .binOp .lss _ _ _ _, _, _, _, _⟩ :: _) _ _ _; refine awl_pw (wt_none rfl) (pv_lss rfl rfl rfl) rfl rfl ?_) | refine awl_nil ?_)
    refine awl_hw (wt_none rfl) (st_acall T0 (woff_p cp b gw gm (fL (capS b (inL e)) f) (by omega)) rfl rfl rfl rfl (by first | exact callee_lit | exact callee_v | exact callee_fn | assumption) (by solve | repeat' constructor) (by first | rfl | assumption) rfl (by first | ((repeat' (first | exact SubH.refl _ | apply SubH.cons | exact Pick.here | apply Pick.there)); all_goals fail) | fail) (fun _ _ => trivial) ?_)
    rintro r h ⟨rfl, rfl⟩
    simp only [List.cons_append, List.nil_append]
    repeat (first | refine awp_ret ?_ | (show AWL _ _ _ (⟨_, .assign _, _, _, _, _⟩ :: _) _ _ _; refine awl_pw (wt_none rfl) (pv_assign rfl rfl) rfl rfl ?_) | refine awl_nil ?_)
    exact body_p (.cons rfl (.cons rfl .nil)) (.inl ⟨f, del_of hv hbd (by rw [hHt]; exact hsum) (by rw [hHt]; exact hnn), rfl⟩)
  have hkH : k < H := by omega
  repeat (first | refine awp_seq ?_ | refine awp_block ?_ | refine awp_region_lit rfl ?_ | refine awp_skip ?_ | refine awp_cond_t rfl (by first | rfl | assumption | exact dT (by omega)) ?_ | (show AWL _ _ _ (⟨_, .move _, _, _, _, _⟩ :: _) _ _ _; refine awl_pw (wt_none rfl) (pv_move rfl rfl) rfl rfl ?_) | (show AWL _ _ _ (⟨_, .assign _, _, _, _, _⟩ :: _) _ _ _; refine awl_pw (wt_none rfl) (pv_assign rfl rfl) rfl rfl ?_) | (show AWL _ _ _ (⟨_, .binOp .lss _ _ _ _, _, _, _, _⟩ :: _) _ _ _; refine awl_pw (wt_none rfl) (pv_lss rfl rfl rfl) rfl rfl ?_) | refine awl_nil ?_)
  refine awp_loop (fun m s h => ∃ (nd f : Nat → Int), m = (0 - nd k).toNat ∧ (∀ i, i < b.cons.length → 0 ≤ f i ∧ f i ≤ capS b (inL e) i) ∧ (∀ v, v < H → nd v + accN b.cons f b.cons.length v = accN b.cons (numF b) b.cons.length v) ∧ (∀ v, v < k → 0 ≤ nd v) ∧
    s = [(10, intA k), (6, .v (ptrV gw)), (9, .v (.slice (some ⟨gn, 0, none⟩) H H)), (37, intA b.houses), (38, intA k)] ∧ h = [workE gw gm b cp, leftM gm (fL (capS b (inL e)) f), .rw (.slice (some ⟨gn, 0, none⟩) H H) 3 1 (fRows nd H)]) ?_
    ⟨nd, f, rfl, hbd, hsum, hnn, rfl, rfl⟩ (by first | ((repeat' (first | exact True.intro | refine ⟨rfl, ?_⟩)); all_goals fail) | fail) (by solve | repeat' constructor)
  clear hbd hsum hnn nd f
  rintro m s h ⟨nd, f, rfl, hbd, hsum, hnn, rfl, rfl⟩
  have r1 : ((fRows nd H).getD k [])[0]? = some (intA (nd k)) := fRows_at hkH
  have r2 := fRows_len nd H
  by_cases hneg : nd k < 0
  case neg =>
    have d1 := decide_eq_false hneg
    repeat (first | refine awp_seq ?_ | refine awp_region_lit rfl ?_ | refine awp_exit ?_ | with_reducible refine then_n ?_ | refine awp_cond_f rfl (by first | rfl | assumption | exact dF (by omega)) ?_ | (show AWL _ _ _ (⟨_, .move _, _, _, _, _⟩ :: _) _ _ _; refine awl_pw (wt_none rfl) (pv_move rfl rfl) rfl rfl ?_) | (show AWL _ _ _ (⟨_, .load _ _, _, _, _, _⟩ :: _) _ _ _; refine awl_lw (wt_none rfl) (lv_rp T0 rfl rfl rfl (by solve | repeat' constructor) (by first | omega | (simp; omega)) (by omega) (by first | assumption | rfl)) rfl rfl rfl ?_) | (show AWL _ _ _ (⟨_, .indexAddr _ _ _, _, _, _, _⟩ :: _) _ _ _; refine awl_pw (wt_none rfl) (pv_ix_own T0 rfl rfl rfl rfl (by omega) (by first | exact (rfl : Int.toNat 0 = 0) | exact Int.toNat_natCast _ | rfl)) rfl rfl ?_) | (show AWL _ _ _ (⟨_, .binOp .add _ _ _ _, _, _, _, _⟩ :: _) _ _ _; refine awl_pw (wt_none rfl) (pv_add rfl rfl rfl (by first | assumption | exact wr64 (by omega))) rfl rfl ?_) | (show AWL _ _ _ (⟨_, .binOp .lss _ _ _ _, _, _, _, _⟩ :: _) _ _ _; refine awl_pw (wt_none rfl) (pv_lss rfl rfl rfl) rfl rfl ?_) | refine awl_nil ?_)
    refine rnd_n _ _ _ ?_ ⟨k + 1, nd, f, by omega, rfl, hbd, hsum, fun v hv' => ?_, rfl, rfl⟩ (by first | ((repeat' (first | exact True.intro | refine ⟨rfl, ?_⟩)); all_goals fail) | fail) (by solve | repeat' constructor)
    · omega
    · by_cases c : v = k
      · subst c; omega
      · exact hnn v (by omega)
  have d1 := decide_eq_true hneg
  repeat (first | refine awp_seq ?_ | refine awp_block ?_ | refine awp_region_lit rfl ?_ | refine awp_skip ?_ | with_reducible refine then_n ?_ | refine awp_cond_t rfl (by first | rfl | assumption | exact dT (by omega)) ?_ | (show AWL _ _ _ (⟨_, .move _, _, _, _, _⟩ :: _) _ _ _; refine awl_pw (wt_none rfl) (pv_move rfl rfl) rfl rfl ?_) | (show AWL _ _ _ (⟨_, .load _ _, _, _, _, _⟩ :: _) _ _ _; refine awl_lw (wt_none rfl) (lv_rp T0 rfl rfl rfl (by solve | repeat' constructor) (by first | omega | (simp; omega)) (by omega) (by first | assumption | rfl)) rfl rfl rfl ?_) | (show AWL _ _ _ (⟨_, .indexAddr _ _ _, _, _, _, _⟩ :: _) _ _ _; refine awl_pw (wt_none rfl) (pv_ix_own T0 rfl rfl rfl rfl (by omega) (by first | exact (rfl : Int.toNat 0 = 0) | exact Int.toNat_natCast _ | rfl)) rfl rfl ?_) | (show AWL _ _ _ (⟨_, .binOp .lss _ _ _ _, _, _, _, _⟩ :: _) _ _ _; refine awl_pw (wt_none rfl) (pv_lss rfl rfl rfl) rfl rfl ?_) | refine awl_nil ?_)
  refine awl_hw (wt_none rfl) (st_acall T0 (bring_p gn gw gm b cp (capS b (inL e)) hv H hH hcap k nd f hkH hneg (fun v hv' => nd_bd hv hcap hbd (hsum v hv')) hbd) rfl rfl rfl rfl (by first | exact callee_lit | exact callee_v | exact callee_fn | assumption) (by solve | repeat' constructor) (by first | rfl | assumption) rfl (by first | ((repeat' (first | exact SubH.refl _ | apply SubH.cons | exact Pick.here | apply Pick.there)); all_goals fail) | fail) (fun _ _ => trivial) ?_)
  rintro r h ⟨rb, nd', f', hR, rfl, rfl⟩
  simp only [List.cons_append, List.nil_append]
  cases hR with
  | no hat hcl =>
    repeat (first | refine awp_seq ?_ | refine awp_region_lit rfl ?_ | refine awp_ret ?_ | with_reducible refine then_n ?_ | with_reducible refine then_r ?_ | with_reducible refine blk_r ?_ | refine rnd_r ?_ | refine awp_cond_t rfl (by first | rfl | assumption | exact dT (by omega)) ?_ | (show AWL _ _ _ (⟨_, .assign _, _, _, _, _⟩ :: _) _ _ _; refine awl_pw (wt_none rfl) (pv_assign rfl rfl) rfl rfl ?_) | (show AWL _ _ _ (⟨_, .unOp .not _ _, _, _, _, _⟩ :: _) _ _ _; refine awl_pw (wt_none rfl) (pv_not rfl rfl) rfl rfl ?_) | refine awl_nil ?_)
    exact body_p (.cons rfl (.cons rfl .nil)) (.inr ⟨no_of hv hbd (by rw [hHt]; exact hsum) (by omega) hneg hat hcl, rfl⟩)
  | yes hbd' hsum' hup hnd' =>
    repeat (first | refine awp_skip ?_ | with_reducible refine then_n ?_ | with_reducible refine blk_n ?_ | refine awp_cond_f rfl (by first | rfl | assumption | exact dF (by omega)) ?_ | (show AWL _ _ _ (⟨_, .unOp .not _ _, _, _, _, _⟩ :: _) _ _ _; refine awl_pw (wt_none rfl) (pv_not rfl rfl) rfl rfl ?_) | refine awl_nil ?_)
    refine rnd_n _ _ _ ?_ ⟨nd', f', rfl, hbd', fun v hv' => ?_, fun v hv' => ?_, rfl, rfl⟩ (by first | ((repeat' (first | exact True.intro | refine ⟨rfl, ?_⟩)); all_goals fail) | fail) (by solve | repeat' constructor)
    · omega
    · have h1 := hsum v hv'
      have h2 := hsum' v
      omega
    · have h1 := hnd' v (by omega)
      have h2 := hnn v hv'
      omega
end Go.Proofs.Ytlpknbneilgjkaa.R
