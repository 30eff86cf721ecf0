/- Joined texts: Sf, Gp. -/
import Derived.Test.YtilhflfbbfeakaaGBf
import Derived.Test.YtilhflfbbfeakaaRq
import Derived.Test.YtilhflfbbfeakaaTz
import Derived.Test.YtilhflfbbfeakaaGSd
section
namespace Go.Tl
open Go Go.RowKit
theorem acall_borrow2c {P : Program} {g : Nat} {A : AV} {v : Value} {E sz n : Nat} {rows : List (List AV)} {f : Nat → List Tr} {u : AV} (hcl : ∀ (w : World) (S S' : Nat → Prop) (v : Value), VRel w S u v → VRel w S' u v) (C : PCall P g [A, .t (.sl true sz n f)] (fun r => r = u)) (hn : rows.length = n) (hf : ∀ k, k < n → rows.getD k [] = (f k).map AV.ofTr) :
    ACall P g [A, .v v] [.rw v E sz rows] (fun r h' => r = u ∧ h' = [.rw v E sz rows]) := fun w S vs h1 h2 h3 => by
  have he := h2.ent _ List.mem_cons_self
  have ht := row_tree he hn hf
  have hown : ∀ b, v.ownBlock = some b → b < w.heap.size := fun b hb => by
    obtain ⟨xs, ho, _⟩ := he
    exact (ho.lt b hb).2
  have hlt' : ∀ b, (S b ∨ v.ownBlock = some b) → b < w.heap.size := fun b hb => by
    rcases hb with hb | hb
    · exact h1 b hb
    · exact hown b hb
  obtain ⟨a, us, rfl, ha, h3⟩ := Go.Proofs.Ytilhflfbbfeakaa.rels1 h3
  have hvs : us = [v] := VRels.lits_inv (xs := [v]) h3
  subst hvs
  refine (C w _ [a, v] hlt' HRel.nil (.cons (ha.mono (fun b hb => .inl hb) (fun _ _ => rfl)) (.cons (.t ht) .nil))).mono fun e w' ⟨v', S'', r, h', e1, hq, hvr, E', hlt, hr, hl⟩ => ?_
  obtain ⟨rfl, rfl⟩ := hq
  have hk : ∀ b, b < w.heap.size → w'.heap[b]? = w.heap[b]? := fun b hb => E'.keep b hb (fun ⟨e, he, _⟩ => by cases he)
  exact ⟨_, S, _, _, e1, ⟨rfl, rfl⟩, hcl _ _ _ _ hvr, ⟨E'.os, E'.tape, E'.output, E'.size, fun b hb _ => hk b hb, fun _ h => h, fun _ h => .inl h⟩, fun b hb => Nat.lt_of_lt_of_le (h1 b hb) E'.size,
    h2.same h1 (fun _ h => h) (fun _ h => .inl h) ⟨E'.os, E'.tape, E'.output, E'.size, fun b hb _ => hk b hb⟩, fun e he g hg => .inl ⟨e, he, hg⟩⟩
theorem tup2_closed {x y : Value} (w : World) (S S' : Nat → Prop) (v : Value) (h : VRel w S (.tup [.v x, .v y]) v) : VRel w S' (.tup [.v x, .v y]) v := by
  cases h with
  | @tup _ vs hl hh =>
    refine .tup hl fun j a b ha hb => ?_
    have h1 := hh j a b ha hb
    match j with
    | 0 => simp at ha; subst ha; rw [h1.lit_inv]; exact .v _
    | 1 => simp at ha; subst ha; rw [h1.lit_inv]; exact .v _
    | j + 2 => simp at ha
end Go.Tl
namespace Go.Proofs.Ytilhflfbbfeakaa
open Go Go.RowKit Go.Tl
set_option linter.unusedVariables false
set_option linter.unusedSimpArgs false
set_option maxRecDepth 100000
set_option maxHeartbeats 4000000
/-- digits that come before others, the last one first -/
def bef (G F : Nat → Int) : Nat → Prop
  | 0 => False
  | k + 1 => G k < F k ∨ (G k = F k ∧ bef G F k)
theorem bef_max {G F : Nat → Int} {M : Int} : ∀ {h : Nat}, (∀ v, v < h → G v ≤ M) → (∀ v, v < h → F v = M) → bef G F h ∨ ∀ v, v < h → G v = F v
  | 0, _, _ => .inr fun v hv => absurd hv (Nat.not_lt_zero _)
  | h + 1, hG, hF => by
    have h1 := hG h (Nat.lt_succ_self _)
    have h2 := hF h (Nat.lt_succ_self _)
    by_cases c : G h < F h
    · exact .inl (.inl c)
    · rcases bef_max (h := h) (fun v hv => hG v (by omega)) (fun v hv => hF v (by omega)) with h3 | h3
      · exact .inl (.inr ⟨by omega, h3⟩)
      · refine .inr fun v hv => ?_
        by_cases e : v = h
        · subst e; omega
        · exact h3 v (by omega)
theorem bef_zero {G F : Nat → Int} : ∀ {h : Nat}, (∀ v, v < h → 0 ≤ G v) → (∀ v, v < h → F v = 0) → ¬ bef G F h
  | 0, _, _ => fun h => h
  | h + 1, hG, hF => fun hb => by
    have h1 := hG h (Nat.lt_succ_self _)
    have h2 := hF h (Nat.lt_succ_self _)
    rcases hb with hb | ⟨_, hb⟩
    · omega
    · exact bef_zero (h := h) (fun v hv => hG v (by omega)) (fun v hv => hF v (by omega)) hb
/-- what comes before the next digits -/
theorem bef_step {G F F' : Nat → Int} {M : Int} {h : Nat} (hF : ∀ v, v < h → F v = M) (hz : ∀ v, v < h → F' v = 0) (hh : F' h = F h + 1) : ∀ {k : Nat}, h < k → (∀ v, v < k → 0 ≤ G v ∧ G v ≤ M) → (∀ v, v < k → h < v → F' v = F v) → bef G F' k → bef G F k ∨ ∀ v, v < k → G v = F v
  | 0, hk, _, _, _ => absurd hk (Nat.not_lt_zero _)
  | k + 1, hk, hG, hs, hb => by
    by_cases e : h = k
    · subst e
      rcases hb with hb | ⟨_, hb⟩
      · by_cases c : G h < F h
        · exact .inl (.inl c)
        · rcases bef_max (h := h) (fun v hv => (hG v (by omega)).2) hF with h3 | h3
          · exact .inl (.inr ⟨by omega, h3⟩)
          · refine .inr fun v hv => ?_
            by_cases e : v = h
            · subst e; omega
            · exact h3 v (by omega)
      · exact absurd hb (bef_zero (fun v hv => (hG v (by omega)).1) hz)
    · have he := hs k (Nat.lt_succ_self _) (by omega)
      rcases hb with hb | ⟨h1, hb⟩
      · exact .inl (.inl (by omega))
      · rcases bef_step hF hz hh (show h < k by omega) (fun v hv => hG v (by omega)) (fun v hv h' => hs v (by omega) h') hb with h3 | h3
        · exact .inl (.inr ⟨by omega, h3⟩)
        · refine .inr fun v hv => ?_
          by_cases e : v = k
          · subst e; omega
          · exact h3 v (by omega)
/-- how many digits are still to come -/
def remN (M : Nat) (F : Nat → Int) : Nat → Nat
  | 0 => 0
  | k + 1 => remN M F k + (M - (F k).toNat) * 7 ^ k
theorem rem_lt {M : Nat} (hM : M ≤ 6) (F : Nat → Int) : ∀ k, remN M F k < 7 ^ k
  | 0 => by simp [remN]
  | k + 1 => by
    have ih := rem_lt hM F k
    have h1 : (M - (F k).toNat) * 7 ^ k ≤ 6 * 7 ^ k := Nat.mul_le_mul_right _ (by omega)
    simp only [remN, Nat.pow_succ]
    omega
theorem rem_step {M : Nat} {F F' : Nat → Int} {h : Nat} (hM : M ≤ 6) (h0 : 0 ≤ F h) (hlt : F h < M) (hh : F' h = F h + 1) : ∀ {k : Nat}, h < k → (∀ v, v < k → h < v → F' v = F v) → remN M F' k < remN M F k
  | 0, hk, _ => absurd hk (Nat.not_lt_zero _)
  | k + 1, hk, hs => by
    by_cases e : h = k
    · subst e
      have h1 := rem_lt hM F' h
      simp only [remN]
      rw [hh]
      obtain ⟨q, hq⟩ : ∃ q : Nat, M - (F h).toNat = q + 1 := ⟨M - (F h).toNat - 1, by omega⟩
      have hq2 : M - (F h + 1).toNat = q := by omega
      rw [hq, hq2, Nat.add_mul, Nat.one_mul]
      omega
    · have ih := rem_step hM h0 hlt hh (show h < k by omega) (fun v hv h' => hs v (by omega) h')
      have he := hs k (Nat.lt_succ_self _) (by omega)
      simp only [remN]
      rw [he]
      omega
def digL (F : Nat → Int) (H : Nat) : List Int := (List.range H).map F
theorem digL_at {F : Nat → Int} {H v : Nat} (hv : v < H) : (digL F H).getD v 0 = F v := by simp [digL, List.getD_eq_getElem?_getD, hv]
theorem prov_eq {b : BookD} (hv : VBook b) (F : Nat → Int) : ∀ k, k ≤ b.cons.length → provN b (digL F b.houses.toNat) k = provF b F k
  | 0, _ => rfl
  | k + 1, hk => by
    have hf := hv.frm k (by omega)
    have ht := hv.to k (by omega)
    simp only [provN, provF, upN]
    rw [prov_eq hv F k (by omega), digL_at (by omega), digL_at (by omega)]
theorem provF_nn {b : BookD} (hv : VBook b) (F : Nat → Int) : ∀ k, k ≤ b.cons.length → 0 ≤ provF b F k
  | 0, _ => Int.le_refl _
  | k + 1, hk => by
    have h1 := provF_nn hv F k (by omega)
    have h2 := (hv.num k (by omega)).1
    have : 0 ≤ (b.cons.getD k default).num * max 0 (1 + F (b.cons.getD k default).frm.toNat - F (b.cons.getD k default).to.toNat) := Int.mul_nonneg (by omega) (by omega)
    simp only [provF]
    omega
theorem provF_congr {b : BookD} (hv : VBook b) {F G : Nat → Int} (h : ∀ v, v < b.houses.toNat → F v = G v) : ∀ k, k ≤ b.cons.length → provF b F k = provF b G k
  | 0, _ => rfl
  | k + 1, hk => by
    have hf := hv.frm k (by omega)
    have ht := hv.to k (by omega)
    simp only [provF]
    rw [provF_congr hv h k (by omega), h _ (by omega), h _ (by omega)]
attribute [local irreducible] AWP AWL AOp PV LV AWT AWE
section
variable {b : BookD} {g1 ga n h : Nat} {F : Nat → Int} {u3 : AV}
abbrev g7S (g1 ga n h : Nat) (u3 : AV) : Slots := [(1, .v (ptrV g1)), (3, u3), (4, .v (.slice (some ⟨ga, 0, none⟩) n n)), (7, intA h)]
theorem gr_7f (hb : b.houses = (n : Int)) (hh : n ≤ h) (hn : n ≤ 6) {ops : Array Oper} (hr : regF Try.f34 7 = some ops) :
    AWP Try.prog Try.f34.ntmps none (.region 7 ops true) (cutQ (fun s h' => s = (37, boolA false) :: g7S g1 ga n h u3 ∧ h' = [refB g1 b, .rw (.slice (some ⟨ga, 0, none⟩) n n) 3 1 (fRows F n)])) (g7S g1 ga n h u3) [refB g1 b, .rw (.slice (some ⟨ga, 0, none⟩) n n) 3 1 (fRows F n)] := by
  cases hr
  have d1 : decide ((h : Int) < b.houses) = false := decide_eq_false (by omega)
  refine awp_treeN T0 [(0, 0), (1, 0), (2, 1), (3, 0), (4, 0), (5, 0), (6, 0), (7, 0), (8, 1), (9, 0), (10, 1), (11, 0), (12, 0), (13, 0)] (.op 0 0 (.op 1 0 (.op 2 1 (.op 3 0 (.op 4 0 (.op 5 0 (.op 6 0 (.op 7 0 (.op 8 1 (.op 9 0 (.op 10 1 (.op 11 0 (.op 12 0 (.op 13 0 .stop)))))))))))))) [.cl g1 _ _, .rw _ _ _ _] rfl (by kernel_rfl) (by solve | repeat' constructor) ?_
  refine awt_po rfl (wt_none rfl) (pv_move rfl rfl) rfl rfl ?_
  refine awt_po rfl (wt_none rfl) (pv_fa T0 rfl rfl rfl (by simp; rfl)) rfl rfl ?_
  refine awt_lo rfl (wt_none rfl) (lv_cl1 T0 rfl rfl rfl (by solve | repeat' constructor) (by first | rfl | assumption)) rfl rfl rfl ?_
  refine awt_po rfl (wt_none rfl) (pv_lss rfl rfl rfl) rfl rfl ?_
  refine awt_po rfl (wt_none rfl) (pv_move rfl rfl) rfl rfl ?_
  refine awt_sk0 rfl (wf_some rfl rfl rfl rfl (by first | rfl | assumption | exact dT (by omega) | exact dF (by omega))) rfl rfl (fun _ _ h => h) rfl ?_
  refine awt_sk0 rfl (wf_some rfl rfl rfl rfl (by first | rfl | assumption | exact dT (by omega) | exact dF (by omega))) rfl rfl (fun _ _ h => h) rfl ?_
  refine awt_sk0 rfl (wf_some rfl rfl rfl rfl (by first | rfl | assumption | exact dT (by omega) | exact dF (by omega))) rfl rfl (fun _ _ h => h) rfl ?_
  refine awt_sk1 rfl (wf_some rfl rfl rfl rfl (by first | rfl | assumption | exact dT (by omega) | exact dF (by omega))) rfl rfl (fun _ _ h => h) rfl ?_
  refine awt_sk0 rfl (wf_some rfl rfl rfl rfl (by first | rfl | assumption | exact dT (by omega) | exact dF (by omega))) rfl rfl (fun _ _ h => h) rfl ?_
  refine awt_sk1 rfl (wf_some rfl rfl rfl rfl (by first | rfl | assumption | exact dT (by omega) | exact dF (by omega))) rfl rfl (fun _ _ h => h) rfl ?_
  refine awt_sk0 rfl (wf_some rfl rfl rfl rfl (by first | rfl | assumption | exact dT (by omega) | exact dF (by omega))) rfl rfl (fun _ _ h => h) rfl ?_
  refine awt_sk0 rfl (wf_some rfl rfl rfl rfl (by first | rfl | assumption | exact dT (by omega) | exact dF (by omega))) rfl rfl (fun _ _ h => h) rfl ?_
  refine awt_po rfl (wt_none rfl) (pv_pick_f rfl rfl (by first | rfl | assumption | exact dT (by omega) | exact dF (by omega)) rfl) rfl rfl ?_
  refine awt_end ?_
  exact cut_n ⟨rfl, rfl⟩ (by first | ((repeat' (first | exact True.intro | refine ⟨rfl, ?_⟩)); all_goals fail) | fail) (by solve | repeat' constructor)
theorem gr_7t {r : Bool} (hb : b.houses = (n : Int)) (hh : h < n) (hn : n ≤ 6) (he : decide (F h = b.houses - 1) = r) {ops : Array Oper} (hr : regF Try.f34 7 = some ops) :
    AWP Try.prog Try.f34.ntmps none (.region 7 ops true) (cutQ (fun s h' => s = (37, boolA r) :: g7S g1 ga n h u3 ∧ h' = [refB g1 b, .rw (.slice (some ⟨ga, 0, none⟩) n n) 3 1 (fRows F n)])) (g7S g1 ga n h u3) [refB g1 b, .rw (.slice (some ⟨ga, 0, none⟩) n n) 3 1 (fRows F n)] := by
  cases hr
  subst he
  have d1 : decide ((h : Int) < b.houses) = true := decide_eq_true (by omega)
  have r1 : ((fRows F n).getD h [])[0]? = some (intA (F h)) := fRows_at hh
  have r2 := fRows_len F n
  refine awp_treeN T0 [(0, 0), (1, 0), (2, 1), (3, 0), (4, 0), (5, 0), (6, 0), (7, 0), (8, 1), (9, 0), (10, 1), (11, 0), (12, 0), (13, 0)] (.op 0 0 (.op 1 0 (.op 2 1 (.op 3 0 (.op 4 0 (.op 5 0 (.op 6 0 (.op 7 0 (.op 8 1 (.op 9 0 (.op 10 1 (.op 11 0 (.op 12 0 (.op 13 0 .stop)))))))))))))) [.cl g1 _ _, .rw _ _ _ _] rfl (by kernel_rfl) (by solve | repeat' constructor) ?_
  refine awt_po rfl (wt_none rfl) (pv_move rfl rfl) rfl rfl ?_
  refine awt_po rfl (wt_none rfl) (pv_fa T0 rfl rfl rfl (by simp; rfl)) rfl rfl ?_
  refine awt_lo rfl (wt_none rfl) (lv_cl1 T0 rfl rfl rfl (by solve | repeat' constructor) (by first | rfl | assumption)) rfl rfl rfl ?_
  refine awt_po rfl (wt_none rfl) (pv_lss rfl rfl rfl) rfl rfl ?_
  refine awt_po rfl (wt_none rfl) (pv_move rfl rfl) rfl rfl ?_
  refine awt_po rfl (wt_some' rfl rfl rfl rfl (by first | rfl | assumption | exact dT (by omega) | exact dF (by omega))) (pv_move rfl rfl) rfl rfl ?_
  refine awt_po rfl (wt_some' rfl rfl rfl rfl (by first | rfl | assumption | exact dT (by omega) | exact dF (by omega))) (pv_move rfl rfl) rfl rfl ?_
  refine awt_po rfl (wt_some' rfl rfl rfl rfl (by first | rfl | assumption | exact dT (by omega) | exact dF (by omega))) (pv_ix_own T0 rfl rfl rfl rfl (by omega) (by first | exact Int.toNat_natCast _ | rfl)) rfl rfl ?_
  refine awt_lo rfl (wt_some' rfl rfl rfl rfl (by first | rfl | assumption | exact dT (by omega) | exact dF (by omega))) (lv_rp T0 rfl rfl rfl (by solve | repeat' constructor) (by first | omega | (simp; omega)) (by omega) (by first | assumption | rfl)) rfl rfl rfl ?_
  refine awt_po rfl (wt_some' rfl rfl rfl rfl (by first | rfl | assumption | exact dT (by omega) | exact dF (by omega))) (pv_fa T0 rfl rfl rfl (by simp; rfl)) rfl rfl ?_
  refine awt_lo rfl (wt_some' rfl rfl rfl rfl (by first | rfl | assumption | exact dT (by omega) | exact dF (by omega))) (lv_cl1 T0 rfl rfl rfl (by solve | repeat' constructor) (by first | rfl | assumption)) rfl rfl rfl ?_
  refine awt_po rfl (wt_some' rfl rfl rfl rfl (by first | rfl | assumption | exact dT (by omega) | exact dF (by omega))) (pv_sub rfl rfl rfl (by first | assumption | exact wr64 (by omega))) rfl rfl ?_
  refine awt_po rfl (wt_some' rfl rfl rfl rfl (by first | rfl | assumption | exact dT (by omega) | exact dF (by omega))) (pv_eql rfl rfl rfl) rfl rfl ?_
  refine awt_po rfl (wt_none rfl) (pv_pick_t rfl rfl (by first | rfl | assumption | exact dT (by omega) | exact dF (by omega)) rfl) rfl rfl ?_
  refine awt_end ?_
  exact cut_n ⟨rfl, rfl⟩ (by first | ((repeat' (first | exact True.intro | refine ⟨rfl, ?_⟩)); all_goals fail) | fail) (by solve | repeat' constructor)
end
theorem refgreat_p (b : BookD) (hv : VBook b) (T : Int) (h1 : ∀ F : Nat → Int, T ≤ provF b F b.cons.length) (h2 : ∃ F : Nat → Int, (∀ v, v < b.houses.toNat → 0 ≤ F v ∧ F v ≤ b.houses - 1) ∧ provF b F b.cons.length = T) (h3 : T ≤ sumI (b.cons.map (·.num))) :
    PCall Try.prog 34 [bookA false b] (fun r => r = intA T) := by
  have hlen := hv.len
  have hh := hv.houses
  have hml : (b.cons.map (·.num)).length = b.cons.length := by simp
  have hmb : ∀ x ∈ b.cons.map (·.num), -1000000000 ≤ x ∧ x ≤ 1000000000 := fun x hx => by
    obtain ⟨c, hc, rfl⟩ := List.mem_map.1 hx
    obtain ⟨i, hi, rfl⟩ := List.getElem_of_mem hc
    have := hv.num i hi
    simp only [List.getD_eq_getElem?_getD, hi, List.getElem?_eq_getElem, Option.getD_some] at this
    omega
  have hsb := sumI_bd (b.cons.map (·.num)) 1000000000 hmb
  rw [hml] at hsb
  obtain ⟨n, hn⟩ : ∃ n : Nat, b.houses = n := ⟨b.houses.toNat, by omega⟩
  have hnt : b.houses.toNat = n := by omega
  rw [hnt] at h2
  have hT : -8000000000 ≤ T := by
    obtain ⟨G, _, hG⟩ := h2
    have := provF_nn hv G b.cons.length (Nat.le_refl _)
    omega
  refine acall_of_awp T0 Try.func34 rfl rfl rfl ?_
  repeat (first | refine awp_seq ?_ | refine awp_region_lit rfl ?_)
  refine awl_hw (by first | exact wt_none rfl | exact wt_some' rfl rfl rfl rfl (by first | rfl | assumption | exact dT (by omega) | exact dF (by omega))) (st_box rfl rfl (by first | rfl | assumption) (by first | assumption | (simp only [cellsA]; rfl)) rfl rfl ?_)
  intro g1
  repeat (first | refine awp_seq ?_ | refine awp_region_lit rfl ?_ | ((first | (show AWL _ _ _ (⟨_, .assign _, _, _, _, _⟩ :: _) _ _ _; refine awl_pw ?w (pv_assign rfl rfl) rfl rfl ?_) | (show AWL _ _ _ (⟨_, .load _ _, _, _, _, _⟩ :: _) _ _ _; refine awl_lw ?w (lv_cla T0 rfl rfl rfl (by solve | repeat' constructor) rfl) rfl rfl rfl ?_)); case w => first | exact wt_none rfl | exact wt_some' rfl rfl rfl rfl (by first | rfl | assumption | exact dT (by omega) | exact dF (by omega))) | refine awl_nil ?_)
  refine awl_hw (by first | exact wt_none rfl | exact wt_some' rfl rfl rfl rfl (by first | rfl | assumption | exact dT (by omega) | exact dF (by omega))) (st_call T0 (all_p false b (by omega)) rfl rfl rfl rfl (by first | exact callee_lit | exact callee_v | exact callee_fn | assumption) (by solve | repeat' constructor) (by first | rfl | assumption) rfl ?_)
  rintro _ rfl
  skip
  refine awl_hw (by first | exact wt_none rfl | exact wt_some' rfl rfl rfl rfl (by first | rfl | assumption | exact dT (by omega) | exact dF (by omega))) (st_call T0 (total_q true (b.cons.map (·.num)) (by omega) hmb) rfl rfl rfl rfl (by first | exact callee_lit | exact callee_v | exact callee_fn | assumption) (by solve | repeat' constructor) (by first | rfl | assumption) rfl ?_)
  rintro _ rfl
  repeat (first | refine awp_seq ?_ | refine awp_region_lit rfl ?_ | ((first | (show AWL _ _ _ (⟨_, .assign _, _, _, _, _⟩ :: _) _ _ _; refine awl_pw ?w (pv_assign rfl rfl) rfl rfl ?_) | (show AWL _ _ _ (⟨_, .load _ _, _, _, _, _⟩ :: _) _ _ _; refine awl_lw ?w (lv_cl1 T0 rfl rfl rfl (by solve | repeat' constructor) (by first | rfl | assumption)) rfl rfl rfl ?_) | (show AWL _ _ _ (⟨_, .fieldAddr _ _ _, _, _, _, _⟩ :: _) _ _ _; refine awl_pw ?w (pv_fa T0 rfl rfl rfl (by simp; rfl)) rfl rfl ?_)); case w => first | exact wt_none rfl | exact wt_some' rfl rfl rfl rfl (by first | rfl | assumption | exact dT (by omega) | exact dF (by omega))) | refine awl_nil ?_)
  rw [hn]
  refine awl_hw (by first | exact wt_none rfl | exact wt_some' rfl rfl rfl rfl (by first | rfl | assumption | exact dT (by omega) | exact dF (by omega))) (aop_make T0 rfl rfl rfl rfl rfl rfl rfl rfl (by omega) rfl ?_)
  intro ga
  repeat (first | refine awp_block ?_ | ((first | (show AWL _ _ _ (⟨_, .assign _, _, _, _, _⟩ :: _) _ _ _; refine awl_pw ?w (pv_assign rfl rfl) rfl rfl ?_)); case w => first | exact wt_none rfl | exact wt_some' rfl rfl rfl rfl (by first | rfl | assumption | exact dT (by omega) | exact dF (by omega))) | refine awl_nil ?_)
  have hz : List.replicate n [AV.v (Value.int .i64 0)] = fRows (fun _ => 0) n := by
    refine List.ext_getElem (by simp [fRows]) fun k h1 h2 => ?_
    simp [fRows, intRow]
  rw [hz]
  have hR : refB g1 b = .cl g1 24 [intA n, .t (consT false b.cons)] := by show Ent.cl g1 24 [intA b.houses, _] = _; rw [hn]
  rw [← hR]
  refine awp_loop (fun m s h => ∃ (F : Nat → Int) (best : Int), (∀ v, v < n → 0 ≤ F v ∧ F v ≤ b.houses - 1) ∧ m = remN (n - 1) F n ∧ T ≤ best ∧ best ≤ 9000000000 ∧ (∀ G : Nat → Int, (∀ v, v < n → 0 ≤ G v ∧ G v ≤ b.houses - 1) → bef G F n → best ≤ provF b G b.cons.length) ∧ s = [(1, .v (ptrV g1)), (3, intA best), (4, .v (.slice (some ⟨ga, 0, none⟩) n n))] ∧ h = [refB g1 b, .rw (.slice (some ⟨ga, 0, none⟩) n n) 3 1 (fRows F n)]) ?_ ⟨fun _ => 0, _, (fun v hv => ⟨Int.le_refl _, by show (0 : Int) ≤ b.houses - 1; omega⟩), rfl, h3, by omega, (fun G hG hb => absurd hb (bef_zero (fun v hv => (hG v hv).1) (fun v hv => rfl))), rfl, rfl⟩ (by first | ((repeat' (first | exact True.intro | refine ⟨rfl, ?_⟩)); all_goals fail) | fail) (by solve | repeat' constructor)
  rintro m s h ⟨F, best, hF, rfl, hTb, hbu, hvis, rfl, rfl⟩
  have hdl : (digL F n).length = n := by simp [digL]
  have heh : highB b (digL F n) = true := high_iff.2 ⟨by rw [hdl, hn], fun k hk => by rw [hdl] at hk; rw [digL_at hk]; have := hF k hk; omega⟩
  have hpe : provN b (digL F n) b.cons.length = provF b F b.cons.length := by rw [← hnt]; exact prov_eq hv F _ (Nat.le_refl _)
  have hpb := prov_bd hv heh b.cons.length (Nat.le_refl _)
  rw [hpe] at hpb
  have hT1 := h1 F
  have hpr := proved_q true b (digL F n) hv (by omega) heh
  rw [if_pos rfl, hpe] at hpr
  have hit : intsT true (digL F n) = .sl true 1 n (fun k => [.sc (.int .i64 ((digL F n).getD k 0))]) := by unfold intsT; rw [hdl]
  rw [hit] at hpr
  repeat (first | refine awp_seq ?_ | refine awp_block ?_ | refine awp_region_lit rfl ?_ | ((first | (show AWL _ _ _ (⟨_, .move _, _, _, _, _⟩ :: _) _ _ _; refine awl_pw ?w (pv_move rfl rfl) rfl rfl ?_) | (show AWL _ _ _ (⟨_, .load _ _, _, _, _, _⟩ :: _) _ _ _; refine awl_lw ?w (lv_cla T0 rfl rfl rfl (by solve | repeat' constructor) rfl) rfl rfl rfl ?_)); case w => first | exact wt_none rfl | exact wt_some' rfl rfl rfl rfl (by first | rfl | assumption | exact dT (by omega) | exact dF (by omega))))
  refine awl_hw (by first | exact wt_none rfl | exact wt_some' rfl rfl rfl rfl (by first | rfl | assumption | exact dT (by omega) | exact dF (by omega))) (st_acall T0 (acall_borrow2c tup2_closed hpr (fRows_len F n) (fRows_tree rfl)) rfl rfl rfl rfl (by first | exact callee_lit | exact callee_v | exact callee_fn | assumption) (by solve | repeat' constructor) (by first | rfl | assumption) rfl (by first | ((repeat' (first | exact SubH.refl _ | apply SubH.cons | exact Pick.here | apply Pick.there)); all_goals fail) | fail) (fun _ _ => trivial) ?_)
  rintro r h ⟨rfl, rfl⟩
  simp only [List.cons_append, List.nil_append]
  repeat (first | refine awp_seq ?_ | refine awp_block ?_ | refine awp_region_lit rfl ?_ | refine then_n ?_ | refine awp_cond_t rfl (by first | rfl | assumption | exact dT (by omega)) ?_ | ((first | (show AWL _ _ _ (⟨_, .move _, _, _, _, _⟩ :: _) _ _ _; refine awl_pw ?w (pv_move rfl rfl) rfl rfl ?_) | (show AWL _ _ _ (⟨_, .assign _, _, _, _, _⟩ :: _) _ _ _; refine awl_pw ?w (pv_assign rfl rfl) rfl rfl ?_) | (show AWL _ _ _ (⟨_, .call ⟨.builtin .min, _, _⟩, _, _, _, _⟩ :: _) _ _ _; refine awl_pw ?w (pv_min2 rfl rfl rfl) rfl rfl ?_) | (show AWL _ _ _ (⟨_, .extract _ _, _, _, _, _⟩ :: _) _ _ _; refine awl_pw ?w (pv_extract rfl rfl rfl) rfl rfl ?_)); case w => first | exact wt_none rfl | exact wt_some' rfl rfl rfl rfl (by first | rfl | assumption | exact dT (by omega) | exact dF (by omega))) | refine awl_nil ?_)
  generalize hbd : min best (provF b F b.cons.length) = best2
  have hTb2 : T ≤ best2 := by omega
  have hvis2 : ∀ G : Nat → Int, (∀ v, v < n → 0 ≤ G v ∧ G v ≤ b.houses - 1) → (bef G F n ∨ ∀ v, v < n → G v = F v) → best2 ≤ provF b G b.cons.length := fun G hG hb => by
    rcases hb with hb | hb
    · have := hvis G hG hb; omega
    · have := provF_congr hv (F := G) (G := F) (by rw [hnt]; exact hb) _ (Nat.le_refl _); omega
  refine awp_loop (fun m s h' => ∃ (h : Nat), h ≤ n ∧ m = n - h ∧ (∀ v, v < h → F v = b.houses - 1) ∧ s = g7S g1 ga n h (intA best2) ∧ h' = [refB g1 b, .rw (.slice (some ⟨ga, 0, none⟩) n n) 3 1 (fRows (fun v => if v < h then 0 else F v) n)]) ?_ ⟨0, Nat.zero_le _, rfl, (fun v hv => absurd hv (Nat.not_lt_zero _)), rfl, rfl⟩ (by first | ((repeat' (first | exact True.intro | refine ⟨rfl, ?_⟩)); all_goals fail) | fail) (by solve | repeat' constructor)
  rintro m s h' ⟨h, hhn, rfl, hmax, rfl, rfl⟩
  by_cases hlt : h < n
  case neg =>
    obtain rfl : n = h := by omega
    have hbest : best2 = T := by
      obtain ⟨G, hG, hGT⟩ := h2
      have := hvis2 G hG (bef_max (M := b.houses - 1) (fun v hv => (hG v hv).2) hmax)
      omega
    have d9 : decide ((n : Int) = b.houses) = true := decide_eq_true hn.symm
    repeat (first | refine awp_seq ?_)
    refine awp_cut _ (awp_weak (by first | ((repeat' (first | exact True.intro | refine ⟨rfl, ?_⟩)); all_goals fail) | fail) (by solve | repeat' constructor) (gr_7f (b := b) (g1 := g1) (ga := ga) (n := n) (h := n) (F := fun v => if v < n then 0 else F v) (u3 := intA best2) hn (Nat.le_refl _) (by omega) rfl)) ?_
    rintro s h ⟨rfl, rfl⟩
    repeat (first | refine awp_seq ?_ | refine awp_region_lit rfl ?_ | refine awp_exit ?_ | refine awp_ret ?_ | refine then_n ?_ | refine then_r ?_ | refine blk_r ?_ | refine rnd_r ?_ | refine awp_cond_t rfl (by first | rfl | assumption | exact dT (by omega)) ?_ | refine awp_cond_f rfl (by first | rfl | assumption | exact dF (by omega)) ?_ | ((first | (show AWL _ _ _ (⟨_, .move _, _, _, _, _⟩ :: _) _ _ _; refine awl_pw ?w (pv_move rfl rfl) rfl rfl ?_) | (show AWL _ _ _ (⟨_, .assign _, _, _, _, _⟩ :: _) _ _ _; refine awl_pw ?w (pv_assign rfl rfl) rfl rfl ?_) | (show AWL _ _ _ (⟨_, .load _ _, _, _, _, _⟩ :: _) _ _ _; refine awl_lw ?w (lv_cl1 T0 rfl rfl rfl (by solve | repeat' constructor) (by first | rfl | assumption)) rfl rfl rfl ?_) | (show AWL _ _ _ (⟨_, .fieldAddr _ _ _, _, _, _, _⟩ :: _) _ _ _; refine awl_pw ?w (pv_fa T0 rfl rfl rfl (by simp; rfl)) rfl rfl ?_) | (show AWL _ _ _ (⟨_, .binOp .eql _ _ _ _, _, _, _, _⟩ :: _) _ _ _; refine awl_pw ?w (pv_eql rfl rfl rfl) rfl rfl ?_)); case w => first | exact wt_none rfl | exact wt_some' rfl rfl rfl rfl (by first | rfl | assumption | exact dT (by omega) | exact dF (by omega))) | refine awl_nil ?_)
    exact body_p (.cons rfl .nil) (by rw [hbest]; rfl)
  have hFh := hF h hlt
  have e0 : (fun v => if v < h then 0 else F v) h = F h := if_neg (Nat.lt_irrefl _)
  by_cases hm : F h = b.houses - 1
  · repeat (first | refine awp_seq ?_)
    refine awp_cut _ (awp_weak (by first | ((repeat' (first | exact True.intro | refine ⟨rfl, ?_⟩)); all_goals fail) | fail) (by solve | repeat' constructor) (gr_7t (b := b) (g1 := g1) (ga := ga) (n := n) (h := h) (F := fun v => if v < h then 0 else F v) (u3 := intA best2) (r := true) hn hlt (by omega) (decide_eq_true (by rw [if_neg (Nat.lt_irrefl _)]; exact hm)) rfl)) ?_
    rintro s h' ⟨rfl, rfl⟩
    have r2 := fRows_len (fun v => if v < h then 0 else F v) n
    have hset := fRows_set (f := fun v => if v < h then 0 else F v) (g := fun v => if v < h + 1 then 0 else F v) (m := n) (j := h) (v := 0) hlt (fun q hq => by
      by_cases e : q = h
      · subst e; rw [if_pos (Nat.lt_succ_self _), if_pos rfl]
      · rw [if_neg e]
        by_cases c : q < h
        · rw [if_pos c, if_pos (by omega)]
        · rw [if_neg c, if_neg (by omega)])
    repeat (first | refine awp_seq ?_ | refine awp_block ?_ | refine awp_region_lit rfl ?_ | refine awp_skip ?_ | refine awp_cond_t rfl (by first | rfl | assumption | exact dT (by omega)) ?_ | ((first | (show AWL _ _ _ (⟨_, .move _, _, _, _, _⟩ :: _) _ _ _; refine awl_pw ?w (pv_move rfl rfl) rfl rfl ?_) | (show AWL _ _ _ (⟨_, .indexAddr _ _ _, _, _, _, _⟩ :: _) _ _ _; refine awl_pw ?w (pv_ix_own T0 rfl rfl rfl rfl (by omega) (by first | exact Int.toNat_natCast _ | rfl)) rfl rfl ?_)); case w => first | exact wt_none rfl | exact wt_some' rfl rfl rfl rfl (by first | rfl | assumption | exact dT (by omega) | exact dF (by omega))))
    refine awl_hw (by first | exact wt_none rfl | exact wt_some' rfl rfl rfl rfl (by first | rfl | assumption | exact dT (by omega) | exact dF (by omega))) (aop_store_rp T0 rfl rfl rfl rfl rfl rfl rfl rfl (by solve | repeat' constructor) (by first | omega | (simp; omega)) (by omega) rfl trivial ?_)
    simp only [cellsA]
    rw [hset]
    repeat (first | refine awp_region_lit rfl ?_ | refine blk_n ?_ | ((first | (show AWL _ _ _ (⟨_, .move _, _, _, _, _⟩ :: _) _ _ _; refine awl_pw ?w (pv_move rfl rfl) rfl rfl ?_) | (show AWL _ _ _ (⟨_, .assign _, _, _, _, _⟩ :: _) _ _ _; refine awl_pw ?w (pv_assign rfl rfl) rfl rfl ?_) | (show AWL _ _ _ (⟨_, .binOp .add _ _ _ _, _, _, _, _⟩ :: _) _ _ _; refine awl_pw ?w (pv_add rfl rfl rfl (by first | assumption | exact wr64 (by omega))) rfl rfl ?_)); case w => first | exact wt_none rfl | exact wt_some' rfl rfl rfl rfl (by first | rfl | assumption | exact dT (by omega) | exact dF (by omega))) | refine awl_nil ?_)
    refine rnd_n _ _ _ ?_ ⟨h + 1, hlt, rfl, fun v hv => ?_, rfl, rfl⟩ (by first | ((repeat' (first | exact True.intro | refine ⟨rfl, ?_⟩)); all_goals fail) | fail) (by solve | repeat' constructor)
    · omega
    · by_cases e : v = h
      · subst e; exact hm
      · exact hmax v (by omega)
  as_aux_lemma =>
    have d9 : decide ((h : Int) = b.houses) = false := decide_eq_false (by omega)
    repeat (first | refine awp_seq ?_)
    refine awp_cut _ (awp_weak (by first | ((repeat' (first | exact True.intro | refine ⟨rfl, ?_⟩)); all_goals fail) | fail) (by solve | repeat' constructor) (gr_7t (b := b) (g1 := g1) (ga := ga) (n := n) (h := h) (F := fun v => if v < h then 0 else F v) (u3 := intA best2) (r := false) hn hlt (by omega) (decide_eq_false (by rw [if_neg (Nat.lt_irrefl _)]; exact hm)) rfl)) ?_
    rintro s h' ⟨rfl, rfl⟩
    have r2 := fRows_len (fun v => if v < h then 0 else F v) n
    have r1 : ((fRows (fun v => if v < h then 0 else F v) n).getD h [])[0]? = some (intA (F h)) := by rw [← e0]; exact fRows_at hlt
    have hset := fRows_set (f := fun v => if v < h then 0 else F v) (g := fun v => if v < h then 0 else if v = h then F h + 1 else F v) (m := n) (j := h) (v := F h + 1) hlt (fun q hq => by
      by_cases e : q = h
      · subst e; simp
      · by_cases c : q < h
        · simp [e, c]
        · simp [e, c])
    repeat (first | refine awp_seq ?_ | refine awp_region_lit rfl ?_ | refine awp_skip ?_ | refine awp_exit ?_ | refine then_n ?_ | refine awp_cond_f rfl (by first | rfl | assumption | exact dF (by omega)) ?_ | ((first | (show AWL _ _ _ (⟨_, .move _, _, _, _, _⟩ :: _) _ _ _; refine awl_pw ?w (pv_move rfl rfl) rfl rfl ?_) | (show AWL _ _ _ (⟨_, .load _ _, _, _, _, _⟩ :: _) _ _ _; refine awl_lw ?w (lv_cl1 T0 rfl rfl rfl (by solve | repeat' constructor) (by first | rfl | assumption)) rfl rfl rfl ?_) | (show AWL _ _ _ (⟨_, .load _ _, _, _, _, _⟩ :: _) _ _ _; refine awl_lw ?w (lv_rp T0 rfl rfl rfl (by solve | repeat' constructor) (by first | omega | (simp; omega)) (by omega) (by first | assumption | rfl)) rfl rfl rfl ?_) | (show AWL _ _ _ (⟨_, .fieldAddr _ _ _, _, _, _, _⟩ :: _) _ _ _; refine awl_pw ?w (pv_fa T0 rfl rfl rfl (by simp; rfl)) rfl rfl ?_) | (show AWL _ _ _ (⟨_, .indexAddr _ _ _, _, _, _, _⟩ :: _) _ _ _; refine awl_pw ?w (pv_ix_own T0 rfl rfl rfl rfl (by omega) (by first | exact Int.toNat_natCast _ | rfl)) rfl rfl ?_) | (show AWL _ _ _ (⟨_, .binOp .add _ _ _ _, _, _, _, _⟩ :: _) _ _ _; refine awl_pw ?w (pv_add rfl rfl rfl (by first | assumption | exact wr64 (by omega))) rfl rfl ?_) | (show AWL _ _ _ (⟨_, .binOp .eql _ _ _ _, _, _, _, _⟩ :: _) _ _ _; refine awl_pw ?w (pv_eql rfl rfl rfl) rfl rfl ?_)); case w => first | exact wt_none rfl | exact wt_some' rfl rfl rfl rfl (by first | rfl | assumption | exact dT (by omega) | exact dF (by omega))) | refine awl_nil ?_)
    refine awl_hw (by first | exact wt_none rfl | exact wt_some' rfl rfl rfl rfl (by first | rfl | assumption | exact dT (by omega) | exact dF (by omega))) (aop_store_rp T0 rfl rfl rfl rfl rfl rfl rfl rfl (by solve | repeat' constructor) (by first | omega | (simp; omega)) (by omega) rfl trivial ?_)
    simp only [cellsA]
    rw [hset]
    repeat (first | refine blk_n ?_ | refine awl_nil ?_)
    refine rnd_n _ _ _ ?_ ⟨fun v => if v < h then 0 else if v = h then F h + 1 else F v, best2, fun v hv => ?_, rfl, hTb2, by omega, fun G hG hb => ?_, rfl, rfl⟩ (by first | ((repeat' (first | exact True.intro | refine ⟨rfl, ?_⟩)); all_goals fail) | fail) (by solve | repeat' constructor)
    · exact rem_step (h := h) (by omega) hFh.1 (by omega) (by simp) hlt (fun v hv h' => by rw [if_neg (by omega), if_neg (by omega)])
    · have := hF v hv
      show 0 ≤ (if v < h then 0 else if v = h then F h + 1 else F v) ∧ (if v < h then 0 else if v = h then F h + 1 else F v) ≤ _
      split
      · omega
      · split <;> omega
    · exact hvis2 G hG (bef_step (M := b.houses - 1) (h := h) hmax (fun v hv => by rw [if_pos hv]) (by simp) hlt hG (fun v hv h' => by rw [if_neg (by omega), if_neg (by omega)]) hb)
end Go.Proofs.Ytilhflfbbfeakaa
end
section
namespace Go.Proofs.Ytilhflfbbfeakaa
open Go Go.RowKit Go.Tl
set_option linter.unusedVariables false
set_option linter.unusedSimpArgs false
theorem acc_far {b : BookD} (hv : VBook b) (f : Nat → Int) {h : Nat} (hh : b.houses ≤ (h : Int)) : ∀ k, k ≤ b.cons.length → accN b.cons f k h = 0
  | 0, _ => rfl
  | k + 1, hk => by
    have hf := hv.frm k (by omega)
    have ht := hv.to k (by omega)
    simp only [accN]
    rw [acc_far hv f hh k (by omega), if_neg (by omega), if_neg (by omega)]
    rfl
theorem offB_iff {b : BookD} (hv : VBook b) {l : List Int} : offB b l = true ↔ l.length = b.cons.length ∧ OffF b (numF b) (fun i => l.getD i 0) := by
  have hh := hv.houses
  unfold offB
  simp only [Bool.and_eq_true, listed_iff, all_getD (d := (0 : Int)), decide_eq_true_eq]
  constructor
  · rintro ⟨⟨h1, h2⟩, h3⟩
    refine ⟨h1, fun i hi => h2 i (by omega), fun h => ?_⟩
    by_cases c : (h : Int) < b.houses
    · have := h3 h (by rw [netL_len]; omega)
      rwa [net_at (by omega)] at this
    · exact acc_far hv _ (by omega) _ (Nat.le_refl _)
  · rintro ⟨h1, h2⟩
    refine ⟨⟨h1, fun k hk => h2.bd k (by omega)⟩, fun k hk => ?_⟩
    rw [netL_len] at hk
    rw [net_at hk]
    exact h2.net k
theorem rng_at {f : Nat → Int} {n i : Nat} (h : i < n) : ((List.range n).map f).getD i 0 = f i := by simp [List.getD_eq_getElem?_getD, h]
theorem off_congr {b : BookD} {cap f g : Nat → Int} (h : ∀ i, i < b.cons.length → f i = g i) (hf : OffF b cap f) : OffF b cap g :=
  ⟨fun i hi => by rw [← h i hi]; exact hf.bd i hi, fun q => by rw [← accN_congr (f := f) _ _ h]; exact hf.net q⟩
theorem sumI_getD (l : List Int) : sumI l = sumR l.length (fun i => l.getD i 0) := by
  unfold sumR
  congr 1
  refine List.ext_getElem (by simp) fun i h1 h2 => ?_
  simp [List.getD_eq_getElem?_getD, h1]
structure GrFacts (b : BookD) (off hs : List Int) : Prop where
  len : off.length = b.cons.length
  isoff : offB b off = true
  hlen : hs.length = b.houses.toNat
  high : highB b hs = true
  prov : provN b hs b.cons.length = sumI off
  low : ∀ F : Nat → Int, sumI off ≤ provF b F b.cons.length
  ex : ∃ F : Nat → Int, (∀ v, v < b.houses.toNat → 0 ≤ F v ∧ F v ≤ b.houses - 1) ∧ hs = digL F b.houses.toNat ∧ provF b F b.cons.length = sumI off
  bd : 0 ≤ sumI off ∧ sumI off ≤ 800
theorem gr_facts {b : BookD} (hv : VBook b) {off hs : List Int} (h : isGr b off hs) : GrFacts b off hs := by
  obtain ⟨f, ho, hst, rfl, rfl⟩ := h
  have hh := hv.houses
  have hlen : ((List.range b.cons.length).map f).length = b.cons.length := by simp
  have hoff : OffF b (numF b) (fun i => ((List.range b.cons.length).map f).getD i 0) := off_congr (fun i hi => (rng_at hi).symm) ho
  have hsum : sumI ((List.range b.cons.length).map f) = sumR b.cons.length f := rfl
  have hends : ∀ a ∈ arcsL (fL (numF b) f) b.cons.length, aF b a < b.houses.toNat ∧ aT b a < b.houses.toNat := fun a ha => arc_ends hv ha
  have hd : ∀ v, v < b.houses.toNat → 0 ≤ -((bfR b (arcsL (fL (numF b) f) b.cons.length) b.houses.toNat).1 v) ∧ -((bfR b (arcsL (fL (numF b) f) b.cons.length) b.houses.toNat).1 v) ≤ b.houses - 1 := fun v hv' => by
    have h1 := bf_neg (b := b) (L := arcsL (fL (numF b) f) b.cons.length) b.houses.toNat v
    have h2 := bf_height hends hst hv'
    omega
  have hhl : (hgtL b f).length = b.houses.toNat := by simp [hgtL]
  have hdig : hgtL b f = digL (fun v => -((bfR b (arcsL (fL (numF b) f) b.cons.length) b.houses.toNat).1 v)) b.houses.toNat := rfl
  have hpr := strong_dual hv ho hst
  have hp2 := prov_eq hv (fun v => -((bfR b (arcsL (fL (numF b) f) b.cons.length) b.houses.toNat).1 v)) _ (Nat.le_refl _)
  refine ⟨hlen, (offB_iff hv).2 ⟨hlen, hoff⟩, hhl, high_iff.2 ⟨by rw [hhl]; omega, fun k hk => ?_⟩, by rw [hdig, hp2, hpr, hsum], fun F => ?_, ⟨_, hd, hdig, by rw [hpr, hsum]⟩, ?_⟩
  · rw [hhl] at hk
    rw [hdig, digL_at hk]
    have := hd k hk
    omega
  · rw [hsum]; exact weak_dual hv ho F
  · rw [hsum]; exact off_tot hv ho
theorem num_sum {b : BookD} (hv : VBook b) {f : Nat → Int} (h : OffF b (numF b) f) : sumR b.cons.length f ≤ sumI (b.cons.map (·.num)) := by
  rw [sumI_getD]
  simp only [List.length_map]
  exact sumR_le fun i hi => by rw [nums_at hi]; exact (h.bd i hi).2
theorem grf_num {b : BookD} (hv : VBook b) {off hs : List Int} (h : GrFacts b off hs) : sumI off ≤ sumI (b.cons.map (·.num)) := by
  have h2 := (offB_iff hv).1 h.isoff
  rw [sumI_getD, h2.1]
  exact num_sum hv h2.2
/-- the reference's greatest total is the total of what is returned -/
theorem refgreat_q {b : BookD} (hv : VBook b) {off hs : List Int} (h : GrFacts b off hs) : PCall Try.prog 34 [bookA false b] (fun r => r = intA (sumI off)) :=
  refgreat_p b hv _ h.low (by obtain ⟨F, h1, _, h3⟩ := h.ex; exact ⟨F, h1, h3⟩) (grf_num hv h)
theorem grf_elem {b : BookD} (hv : VBook b) {off hs : List Int} (h : GrFacts b off hs) : ∀ x ∈ off, -1000000000 ≤ x ∧ x ≤ 1000000000 := off_list_bd hv (by
  have := h.isoff
  unfold offB at this
  exact (Bool.and_eq_true_iff.1 this).1)
end Go.Proofs.Ytilhflfbbfeakaa
end
