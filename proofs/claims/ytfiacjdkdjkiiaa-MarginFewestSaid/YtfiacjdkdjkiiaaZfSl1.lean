/- The closure of Sell that sells one stock: its walk. -/
import Derived.Test.YtfiacjdkdjkiiaaMi
import Derived.Test.YtfiacjdkdjkiiaaZfGMm
import Derived.Test.YtfiacjdkdjkiiaaSl0
namespace Go.Tl
open Go Go.RowKit
theorem acall_borrow2 {P : Program} {g : Nat} {A : AV} {v : Value} {E sz n : Nat} {rows : List (List AV)} {f : Nat → List Tr} {u : Value} (C : PCall P g [A, .t (.sl true sz n f)] (fun r => r = .v u)) (hn : rows.length = n) (hf : ∀ k, k < n → rows.getD k [] = (f k).map AV.ofTr) :
    ACall P g [A, .v v] [.rw v E sz rows] (fun r h' => r = .v u ∧ h' = [.rw v E sz rows]) := fun w S vs h1 h2 h3 => by
  have he := h2.ent _ List.mem_cons_self
  have ht := row_tree he hn hf
  have hown : ∀ b, v.ownBlock = some b → b < w.heap.size := fun b hb => by
    obtain ⟨xs, ho, _⟩ := he
    exact (ho.lt b hb).2
  have hlt' : ∀ b, (S b ∨ v.ownBlock = some b) → b < w.heap.size := fun b hb => by
    rcases hb with hb | hb
    · exact h1 b hb
    · exact hown b hb
  obtain ⟨a, us, rfl, ha, h3⟩ := Go.Proofs.Ytfiacjdkdjkiiaa.rels1 h3
  have hvs : us = [v] := VRels.lits_inv (xs := [v]) h3
  subst hvs
  refine (C w _ [a, v] hlt' HRel.nil (.cons (ha.mono (fun b hb => .inl hb) (fun _ _ => rfl)) (.cons (.t ht) .nil))).mono fun e w' ⟨v', S'', r, h', e1, hq, hvr, E', hlt, hr, hl⟩ => ?_
  obtain ⟨rfl, rfl⟩ := hq
  have hk : ∀ b, b < w.heap.size → w'.heap[b]? = w.heap[b]? := fun b hb => E'.keep b hb (fun ⟨e, he, _⟩ => by cases he)
  rw [hvr.lit_inv] at e1
  exact ⟨_, S, _, _, e1, ⟨rfl, rfl⟩, .v _, ⟨E'.os, E'.tape, E'.output, E'.size, fun b hb _ => hk b hb, fun _ h => h, fun _ h => .inl h⟩, fun b hb => Nat.lt_of_lt_of_le (h1 b hb) E'.size,
    h2.same h1 (fun _ h => h) (fun _ h => .inl h) ⟨E'.os, E'.tape, E'.output, E'.size, fun b hb _ => hk b hb⟩, fun e he g hg => .inl ⟨e, he, hg⟩⟩
end Go.Tl
namespace Go.Proofs.Ytfiacjdkdjkiiaa
open Go Go.RowKit Go.Tl
set_option linter.unusedVariables false
set_option linter.unusedSimpArgs false
set_option maxRecDepth 100000
set_option maxHeartbeats 4000000
attribute [local irreducible] AWP AWL AOp PV LV AWT AWE
theorem restores_p (debt value call margin pro : Int) (h1 : 0 ≤ debt ∧ debt ≤ 1000000) (h2 : 0 ≤ value ∧ value ≤ 1000000) (h3 : 0 ≤ pro ∧ pro ≤ 1000000) (h4 : 0 ≤ margin ∧ margin ≤ 100) :
    PCall Try.prog 80 [.ag [intA debt, intA value, intA call], intA margin, intA pro] (fun r => r = boolA (resB debt value margin pro)) := pcall_below fun w S vs hvs => by
  obtain ⟨v, us, rfl, k1, hvs⟩ := rels1 hvs
  obtain ⟨v2, us, rfl, k2, hvs⟩ := rels1 hvs
  obtain ⟨v3, us, rfl, k3, hvs⟩ := rels1 hvs
  obtain rfl := rels0 hvs
  have e1 : v = .agg #[.int .i64 debt, .int .i64 value, .int .i64 call] := by
    obtain ⟨vs, rfl, hv⟩ := ag_inv k1
    obtain ⟨v1, us, rfl, q1, hv⟩ := rels1 hv
    obtain ⟨v2, us, rfl, q2, hv⟩ := rels1 hv
    obtain ⟨v3, us, rfl, q3, hv⟩ := rels1 hv
    obtain rfl := rels0 hv
    rw [q1.lit_inv, q2.lit_inv, q3.lit_inv]
  rw [e1, k2.lit_inv, k3.lit_inv]
  exact (restores_any debt value call margin pro w h1 h2 h3 h4).mono fun e w' ⟨e1, hb⟩ => ⟨_, _, e1, rfl, hb, .v _⟩
theorem dot_in {xs ps : List Int} (hx : ∀ x ∈ xs, 0 ≤ x ∧ x ≤ 100) (hp : ∀ x ∈ ps, 0 ≤ x ∧ x ≤ 1000) (h4 : xs.length ≤ 4) : 0 ≤ dot xs ps ∧ dot xs ps ≤ 1000000 := by
  have := dot_nonneg xs ps (fun x h => (hx x h).1) (fun x h => (hp x h).1)
  have := dot_le xs ps hx hp
  have h : (xs.length : Int) ≤ 4 := by omega
  omega
theorem sale_mem {sh v : List Int} (h : SaleOf sh v) (hs : ∀ x ∈ sh, 0 ≤ x ∧ x ≤ 100) : ∀ x ∈ v, 0 ≤ x ∧ x ≤ 100 := fun x hx => by
  obtain ⟨k, hk, rfl⟩ := mem_getD (d := (0 : Int)) hx
  have h1 := h.2 k (by rw [← h.1]; exact hk)
  have h2 := hs _ (getD_mem (d := (0 : Int)) (by rw [← h.1]; exact hk : k < sh.length))
  omega
theorem sale_set {sh v : List Int} {k : Nat} {x : Int} (h : SaleOf sh v) (hk : k < sh.length) (h0 : 0 ≤ x) (h1 : x ≤ sh.getD k 0) : SaleOf sh (v.set k x) := by
  refine ⟨by simpa using h.1, fun i hi => ?_⟩
  by_cases e : i = k
  · subst e; rw [set_at (by rw [h.1]; exact hi)]; exact ⟨h0, h1⟩
  · rw [set_ne e]; exact h.2 i hi
abbrev slF (g10 g13 g11 g14 g15 : Nat) : Value := .func (.func 79) #[] #[.pointer (some ⟨g10, 0, none⟩), .pointer (some ⟨g13, 0, none⟩), .pointer (some ⟨g11, 0, none⟩), .pointer (some ⟨g14, 0, none⟩), .pointer (some ⟨g15, 0, none⟩)]
abbrev slH (g10 g13 g11 g14 g15 gs n c : Nat) (bf va cl mo ma : Int) (sh p sold : List Int) : List Ent := [.cl g10 117 [intA bf, intA va, intA cl], .cl g13 109 [intA mo, intA ma, .t (intsT false sh)], .cl g11 139 (arrRow p), .cl g14 27 [.v (.slice (some ⟨gs, 0, none⟩) n c)],
  .cl g15 133 [.v (slF g10 g13 g11 g14 g15)], .rw (.slice (some ⟨gs, 0, none⟩) n c) 3 1 (sold.map intRow)]
theorem restores_v {debt value call margin pro : Int} {b : Bool} (h1 : 0 ≤ debt ∧ debt ≤ 1000000) (h2 : 0 ≤ value ∧ value ≤ 1000000) (h3 : 0 ≤ pro ∧ pro ≤ 1000000) (h4 : 0 ≤ margin ∧ margin ≤ 100) (h : resB debt value margin pro = b) :
    PCall Try.prog 80 [.ag [intA debt, intA value, intA call], intA margin, intA pro] (fun r => r = boolA b) := by subst h; exact restores_p debt value call margin pro h1 h2 h3 h4
theorem sell1_p (g10 g13 g11 g14 g15 gs n c k : Nat) (bf va cl mo ma : Int) (sh p : List Int) (hn : n = sh.length) (h4 : n ≤ 4) (hpl : sh.length = p.length) (hk : k < n) (h1 : 0 ≤ bf ∧ bf ≤ 1000000) (h2 : 0 ≤ va ∧ va ≤ 1000000) (h3 : 0 ≤ ma ∧ ma ≤ 100)
    (hsh : ∀ x ∈ sh, 0 ≤ x ∧ x ≤ 100) (hp : ∀ x ∈ p, 0 ≤ x ∧ x ≤ 1000) : ∀ (m : Nat) (sold : List Int), m = (sh.getD k 0 - sold.getD k 0).toNat → SaleOf sh sold →
    ACall Try.prog 79 [intA k, .v (.pointer (some ⟨g10, 0, none⟩)), .v (.pointer (some ⟨g13, 0, none⟩)), .v (.pointer (some ⟨g11, 0, none⟩)), .v (.pointer (some ⟨g14, 0, none⟩)), .v (.pointer (some ⟨g15, 0, none⟩))] (slH g10 g13 g11 g14 g15 gs n c bf va cl mo ma sh p sold)
      (fun r h' => ∃ (ok : Bool) (v : Int), r = boolA ok ∧ h' = slH g10 g13 g11 g14 g15 gs n c bf va cl mo ma sh p (sold.set k v) ∧ sold.getD k 0 ≤ v ∧ v ≤ sh.getD k 0 ∧ (∀ u, sold.getD k 0 ≤ u → u < v → resB bf va ma (dot (sold.set k u) p) = false) ∧
        resB bf va ma (dot (sold.set k v) p) = ok ∧ (ok = false → v = sh.getD k 0)) := by
  intro m
  induction m using Nat.strongRecOn with
  | ind m ih =>
  intro sold hm hsale
  have hself : sold.set k (sold.getD k 0) = sold := by
    refine List.ext_getElem (by simp) fun i h1 h2 => ?_
    rw [List.getElem_set]
    split
    · rename_i e; subst e; simp [List.getD_eq_getElem?_getD, h2]
    · rfl
  have hb := hsale.2 k (by omega)
  have hl := hsale.1
  have hd := dot_in (sale_mem hsale hsh) hp (by omega)
  have hshk := hsh _ (getD_mem (d := (0 : Int)) (show k < sh.length by omega))
  have r1 := row_at sold k (by omega)
  refine acall_of_awp T0 Try.func79 rfl rfl rfl ?_
  cases hok : resB bf va ma (dot sold p)
  case true =>
    repeat (first | refine awp_seq ?_ | refine awp_region_lit rfl ?_ | (show AWL _ _ _ (⟨_, .assign _, _, _, _, _⟩ :: _) _ _ _; refine awl_pw (wt_none rfl) (pv_assign rfl rfl) rfl rfl ?_) | refine awl_nil ?_)
    refine awp_tree T0 [(0, 1), (1, 0), (2, 1), (3, 1), (4, 1), (5, 2), (6, 3)] (.op 0 1 (.op 1 0 (.op 2 1 (.op 3 1 (.op 4 1 (.op 5 2 (.op 6 3 .stop))))))) [.cl g10 117 _, .cl g13 109 _, .cl g11 139 _, .cl g14 27 _] rfl (by kernel_rfl) (by solve | repeat' constructor) ?_
    refine awt_lo rfl (wt_none rfl) (lv_cla T0 rfl rfl rfl (by solve | repeat' constructor) rfl) rfl rfl rfl ?_
    refine awt_po rfl (wt_none rfl) (pv_fa T0 rfl rfl rfl (by simp; rfl)) rfl rfl ?_
    refine awt_lo rfl (wt_none rfl) (lv_cl1 T0 rfl rfl rfl (by solve | repeat' constructor) (by first | rfl | assumption)) rfl rfl rfl ?_
    refine awt_lo rfl (wt_none rfl) (lv_cla T0 rfl rfl rfl (by solve | repeat' constructor) rfl) rfl rfl rfl ?_
    refine awt_lo rfl (wt_none rfl) (lv_cl1 T0 rfl rfl rfl (by solve | repeat' constructor) (by first | rfl | assumption)) rfl rfl rfl ?_
    refine awt_h (hm := _) rfl (wt_none rfl) ?sub rfl (st_acall T0 (acall_borrow2 (u := .int .i64 (dot sold p)) (pvalue_p true sold p (by omega) (by omega) (fun x hx => by have := sale_mem hsale hsh x hx; omega) (fun x hx => by have := hp x hx; omega)) (by simp) (intRows_tree sold)) rfl rfl rfl rfl (by first | exact callee_lit | exact callee_v | exact callee_fn) (by solve | repeat' constructor) rfl rfl (by first | ((repeat' (first | exact SubH.refl _ | apply SubH.cons | exact Pick.here | apply Pick.there)); all_goals fail) | fail) (fun b hb => hb) ?_)
    case sub => exact (by solve | repeat' constructor)
    rintro r h ⟨rfl, rfl⟩
    refine awt_s (md := fun _ => True) rfl (wt_none rfl) (st_call T0 (restores_v h1 h2 hd h3 hok) rfl rfl rfl rfl (by first | exact callee_lit | exact callee_v | exact callee_fn) (by solve | repeat' constructor) rfl rfl ?_)
    rintro _ rfl
    refine awe_end ?_
    repeat (first | refine awp_seq ?_ | refine awp_region_lit rfl ?_ | refine awp_ret ?_ | refine then_n ?_ | refine then_r ?_ | refine awp_cond_t rfl (by first | rfl | assumption | exact dT (by omega)) ?_ | (show AWL _ _ _ (⟨_, .assign _, _, _, _, _⟩ :: _) _ _ _; refine awl_pw (wt_none rfl) (pv_assign rfl rfl) rfl rfl ?_) | refine awl_nil ?_)
    refine body_r (h' := slH g10 g13 g11 g14 g15 gs n c bf va cl mo ma sh p sold) (.cons rfl .nil) (by solve | repeat' constructor) ⟨true, sold.getD k 0, rfl, by rw [hself], Int.le_refl _, hb.2, fun u h1 h2 => absurd h1 (by omega), by rw [hself]; exact hok, fun h => by cases h⟩
  by_cases heq : sold.getD k 0 = sh.getD k 0
  · have hdq := decide_eq_true heq
    repeat (first | refine awp_seq ?_ | refine awp_region_lit rfl ?_ | (show AWL _ _ _ (⟨_, .assign _, _, _, _, _⟩ :: _) _ _ _; refine awl_pw (wt_none rfl) (pv_assign rfl rfl) rfl rfl ?_) | refine awl_nil ?_)
    refine awp_tree T0 [(0, 1), (1, 0), (2, 1), (3, 1), (4, 1), (5, 2), (6, 3)] (.op 0 1 (.op 1 0 (.op 2 1 (.op 3 1 (.op 4 1 (.op 5 2 (.op 6 3 .stop))))))) [.cl g10 117 _, .cl g13 109 _, .cl g11 139 _, .cl g14 27 _] rfl (by kernel_rfl) (by solve | repeat' constructor) ?_
    refine awt_lo rfl (wt_none rfl) (lv_cla T0 rfl rfl rfl (by solve | repeat' constructor) rfl) rfl rfl rfl ?_
    refine awt_po rfl (wt_none rfl) (pv_fa T0 rfl rfl rfl (by simp; rfl)) rfl rfl ?_
    refine awt_lo rfl (wt_none rfl) (lv_cl1 T0 rfl rfl rfl (by solve | repeat' constructor) (by first | rfl | assumption)) rfl rfl rfl ?_
    refine awt_lo rfl (wt_none rfl) (lv_cla T0 rfl rfl rfl (by solve | repeat' constructor) rfl) rfl rfl rfl ?_
    refine awt_lo rfl (wt_none rfl) (lv_cl1 T0 rfl rfl rfl (by solve | repeat' constructor) (by first | rfl | assumption)) rfl rfl rfl ?_
    refine awt_h (hm := _) rfl (wt_none rfl) ?sub rfl (st_acall T0 (acall_borrow2 (u := .int .i64 (dot sold p)) (pvalue_p true sold p (by omega) (by omega) (fun x hx => by have := sale_mem hsale hsh x hx; omega) (fun x hx => by have := hp x hx; omega)) (by simp) (intRows_tree sold)) rfl rfl rfl rfl (by first | exact callee_lit | exact callee_v | exact callee_fn) (by solve | repeat' constructor) rfl rfl (by first | ((repeat' (first | exact SubH.refl _ | apply SubH.cons | exact Pick.here | apply Pick.there)); all_goals fail) | fail) (fun b hb => hb) ?_)
    case sub => exact (by solve | repeat' constructor)
    rintro r h ⟨rfl, rfl⟩
    refine awt_s (md := fun _ => True) rfl (wt_none rfl) (st_call T0 (restores_v h1 h2 hd h3 hok) rfl rfl rfl rfl (by first | exact callee_lit | exact callee_v | exact callee_fn) (by solve | repeat' constructor) rfl rfl ?_)
    rintro _ rfl
    refine awe_end ?_
    repeat (first | refine awp_seq ?_ | refine awp_skip ?_ | refine then_n ?_ | refine awp_cond_f rfl (by first | rfl | assumption | exact dF (by omega)) ?_)
    refine awp_tree T0 [(0, 1), (1, 0), (2, 0), (3, 1), (4, 0), (5, 1), (6, 0), (7, 0), (8, 1), (9, 0)] (.op 0 1 (.op 1 0 (.op 2 0 (.op 3 1 (.op 4 0 (.op 5 1 (.op 6 0 (.op 7 0 (.op 8 1 (.op 9 0 .stop)))))))))) _ rfl (by kernel_rfl) (SubH.refl _) ?_
    refine awt_lo rfl (wt_none rfl) (lv_cl1 T0 rfl rfl rfl (by solve | repeat' constructor) (by first | rfl | assumption)) rfl rfl rfl ?_
    refine awt_po rfl (wt_none rfl) (pv_move rfl rfl) rfl rfl ?_
    refine awt_po rfl (wt_none rfl) (pv_ix_own T0 rfl rfl rfl rfl (by omega) (by first | exact Int.toNat_natCast _ | rfl)) rfl rfl ?_
    refine awt_lo rfl (wt_none rfl) (lv_rp T0 rfl rfl rfl (by solve | repeat' constructor) (by first | omega | (simp; omega)) (by omega) (by first | assumption | rfl)) rfl rfl rfl ?_
    refine awt_po rfl (wt_none rfl) (pv_fa T0 rfl rfl rfl (by simp; rfl)) rfl rfl ?_
    refine awt_lo rfl (wt_none rfl) (lv_cl1 T0 rfl rfl rfl (by solve | repeat' constructor) (by first | rfl | assumption)) rfl rfl rfl ?_
    refine awt_po rfl (wt_none rfl) (pv_move rfl rfl) rfl rfl ?_
    refine awt_po rfl (wt_none rfl) (pv_ix_t T0 rfl rfl rfl rfl (by omega) (by first | exact Int.toNat_natCast _ | rfl)) rfl rfl ?_
    refine awt_lo rfl (wt_none rfl) (lv_elt_sc T0 rfl rfl rfl rfl) rfl rfl rfl ?_
    refine awt_po rfl (wt_none rfl) (pv_eql rfl rfl rfl) rfl rfl ?_
    refine awt_end ?_
    repeat (first | refine awp_seq ?_ | refine awp_region_lit rfl ?_ | refine awp_ret ?_ | refine then_n ?_ | refine then_r ?_ | refine awp_cond_t rfl (by first | rfl | assumption | exact dT (by omega)) ?_ | (show AWL _ _ _ (⟨_, .assign _, _, _, _, _⟩ :: _) _ _ _; refine awl_pw (wt_none rfl) (pv_assign rfl rfl) rfl rfl ?_) | refine awl_nil ?_)
    refine body_r (h' := slH g10 g13 g11 g14 g15 gs n c bf va cl mo ma sh p sold) (.cons rfl .nil) (by solve | repeat' constructor) ⟨false, sold.getD k 0, rfl, by rw [hself], Int.le_refl _, hb.2, fun u h1 h2 => absurd h1 (by omega), by rw [hself]; exact hok, fun _ => heq⟩
  · have hdq := decide_eq_false heq
    repeat (first | refine awp_seq ?_ | refine awp_region_lit rfl ?_ | (show AWL _ _ _ (⟨_, .assign _, _, _, _, _⟩ :: _) _ _ _; refine awl_pw (wt_none rfl) (pv_assign rfl rfl) rfl rfl ?_) | refine awl_nil ?_)
    refine awp_tree T0 [(0, 1), (1, 0), (2, 1), (3, 1), (4, 1), (5, 2), (6, 3)] (.op 0 1 (.op 1 0 (.op 2 1 (.op 3 1 (.op 4 1 (.op 5 2 (.op 6 3 .stop))))))) [.cl g10 117 _, .cl g13 109 _, .cl g11 139 _, .cl g14 27 _] rfl (by kernel_rfl) (by solve | repeat' constructor) ?_
    refine awt_lo rfl (wt_none rfl) (lv_cla T0 rfl rfl rfl (by solve | repeat' constructor) rfl) rfl rfl rfl ?_
    refine awt_po rfl (wt_none rfl) (pv_fa T0 rfl rfl rfl (by simp; rfl)) rfl rfl ?_
    refine awt_lo rfl (wt_none rfl) (lv_cl1 T0 rfl rfl rfl (by solve | repeat' constructor) (by first | rfl | assumption)) rfl rfl rfl ?_
    refine awt_lo rfl (wt_none rfl) (lv_cla T0 rfl rfl rfl (by solve | repeat' constructor) rfl) rfl rfl rfl ?_
    refine awt_lo rfl (wt_none rfl) (lv_cl1 T0 rfl rfl rfl (by solve | repeat' constructor) (by first | rfl | assumption)) rfl rfl rfl ?_
    refine awt_h (hm := _) rfl (wt_none rfl) ?sub rfl (st_acall T0 (acall_borrow2 (u := .int .i64 (dot sold p)) (pvalue_p true sold p (by omega) (by omega) (fun x hx => by have := sale_mem hsale hsh x hx; omega) (fun x hx => by have := hp x hx; omega)) (by simp) (intRows_tree sold)) rfl rfl rfl rfl (by first | exact callee_lit | exact callee_v | exact callee_fn) (by solve | repeat' constructor) rfl rfl (by first | ((repeat' (first | exact SubH.refl _ | apply SubH.cons | exact Pick.here | apply Pick.there)); all_goals fail) | fail) (fun b hb => hb) ?_)
    case sub => exact (by solve | repeat' constructor)
    rintro r h ⟨rfl, rfl⟩
    refine awt_s (md := fun _ => True) rfl (wt_none rfl) (st_call T0 (restores_v h1 h2 hd h3 hok) rfl rfl rfl rfl (by first | exact callee_lit | exact callee_v | exact callee_fn) (by solve | repeat' constructor) rfl rfl ?_)
    rintro _ rfl
    refine awe_end ?_
    repeat (first | refine awp_seq ?_ | refine awp_skip ?_ | refine then_n ?_ | refine awp_cond_f rfl (by first | rfl | assumption | exact dF (by omega)) ?_)
    refine awp_tree T0 [(0, 1), (1, 0), (2, 0), (3, 1), (4, 0), (5, 1), (6, 0), (7, 0), (8, 1), (9, 0)] (.op 0 1 (.op 1 0 (.op 2 0 (.op 3 1 (.op 4 0 (.op 5 1 (.op 6 0 (.op 7 0 (.op 8 1 (.op 9 0 .stop)))))))))) _ rfl (by kernel_rfl) (SubH.refl _) ?_
    refine awt_lo rfl (wt_none rfl) (lv_cl1 T0 rfl rfl rfl (by solve | repeat' constructor) (by first | rfl | assumption)) rfl rfl rfl ?_
    refine awt_po rfl (wt_none rfl) (pv_move rfl rfl) rfl rfl ?_
    refine awt_po rfl (wt_none rfl) (pv_ix_own T0 rfl rfl rfl rfl (by omega) (by first | exact Int.toNat_natCast _ | rfl)) rfl rfl ?_
    refine awt_lo rfl (wt_none rfl) (lv_rp T0 rfl rfl rfl (by solve | repeat' constructor) (by first | omega | (simp; omega)) (by omega) (by first | assumption | rfl)) rfl rfl rfl ?_
    refine awt_po rfl (wt_none rfl) (pv_fa T0 rfl rfl rfl (by simp; rfl)) rfl rfl ?_
    refine awt_lo rfl (wt_none rfl) (lv_cl1 T0 rfl rfl rfl (by solve | repeat' constructor) (by first | rfl | assumption)) rfl rfl rfl ?_
    refine awt_po rfl (wt_none rfl) (pv_move rfl rfl) rfl rfl ?_
    refine awt_po rfl (wt_none rfl) (pv_ix_t T0 rfl rfl rfl rfl (by omega) (by first | exact Int.toNat_natCast _ | rfl)) rfl rfl ?_
    refine awt_lo rfl (wt_none rfl) (lv_elt_sc T0 rfl rfl rfl rfl) rfl rfl rfl ?_
    refine awt_po rfl (wt_none rfl) (pv_eql rfl rfl rfl) rfl rfl ?_
    refine awt_end ?_
    repeat (first | refine awp_seq ?_ | refine awp_region_lit rfl ?_ | refine awp_skip ?_ | refine then_n ?_ | refine awp_cond_f rfl (by first | rfl | assumption | exact dF (by omega)) ?_ | (show AWL _ _ _ (⟨_, .move _, _, _, _, _⟩ :: _) _ _ _; refine awl_pw (wt_none rfl) (pv_move rfl rfl) rfl rfl ?_) | (show AWL _ _ _ (⟨_, .load _ _, _, _, _, _⟩ :: _) _ _ _; refine awl_lw (wt_none rfl) (lv_cl1 T0 rfl rfl rfl (by solve | repeat' constructor) (by first | rfl | assumption)) rfl rfl rfl ?_) | (show AWL _ _ _ (⟨_, .load _ _, _, _, _, _⟩ :: _) _ _ _; refine awl_lw (wt_none rfl) (lv_rp T0 rfl rfl rfl (by solve | repeat' constructor) (by first | omega | (simp; omega)) (by omega) (by first | assumption | rfl)) rfl rfl rfl ?_) | (show AWL _ _ _ (⟨_, .indexAddr _ _ _, _, _, _, _⟩ :: _) _ _ _; refine awl_pw (wt_none rfl) (pv_ix_own T0 rfl rfl rfl rfl (by omega) (by first | exact Int.toNat_natCast _ | rfl)) rfl rfl ?_) | (show AWL _ _ _ (⟨_, .binOp .add _ _ _ _, _, _, _, _⟩ :: _) _ _ _; refine awl_pw (wt_none rfl) (pv_add rfl rfl rfl (by first | assumption | exact wr64 (by omega))) rfl rfl ?_))
    refine awl_hw (wt_none rfl) (aop_store_rp T0 rfl rfl rfl rfl rfl rfl rfl rfl (by solve | repeat' constructor) (by first | omega | (simp; omega)) (by omega) rfl trivial ?_)
    repeat (first | refine awp_seq ?_ | refine awp_region_lit rfl ?_ | (show AWL _ _ _ (⟨_, .move _, _, _, _, _⟩ :: _) _ _ _; refine awl_pw (wt_none rfl) (pv_move rfl rfl) rfl rfl ?_) | (show AWL _ _ _ (⟨_, .load _ _, _, _, _, _⟩ :: _) _ _ _; refine awl_lw (wt_none rfl) (lv_cl1 T0 rfl rfl rfl (by solve | repeat' constructor) (by first | rfl | assumption)) rfl rfl rfl ?_) | refine awl_nil ?_)
    simp only [cellsA]
    rw [row_set sold k _ (by omega)]
    refine awl_hw (wt_none rfl) (st_acall T0 (ih ((sh.getD k 0 - (sold.getD k 0 + 1)).toNat) (by omega) (sold.set k (sold.getD k 0 + 1)) (by rw [set_at (by omega)]) (sale_set hsale (by omega) (by omega) (by omega))) rfl rfl rfl rfl (by first | exact callee_lit | exact callee_v | exact callee_fn) (by solve | repeat' constructor) rfl rfl (by first | ((repeat' (first | exact SubH.refl _ | apply SubH.cons | exact Pick.here | apply Pick.there)); all_goals fail) | fail) (fun _ _ => trivial) ?_)
    rintro r h ⟨ok, v, rfl, rfl, q1, q2, q3, q4, q5⟩
    rw [set_at (by omega)] at q1 q3
    rw [List.set_set] at q4
    simp only [List.cons_append, List.nil_append]
    repeat (first | refine awp_ret ?_ | (show AWL _ _ _ (⟨_, .assign _, _, _, _, _⟩ :: _) _ _ _; refine awl_pw (wt_none rfl) (pv_assign rfl rfl) rfl rfl ?_) | refine awl_nil ?_)
    refine body_r (h' := slH g10 g13 g11 g14 g15 gs n c bf va cl mo ma sh p ((sold.set k (sold.getD k 0 + 1)).set k v)) (.cons rfl .nil) (by solve | repeat' constructor) ⟨ok, v, rfl, by rw [List.set_set], by omega, q2, fun u h1 h2 => ?_, q4, q5⟩
    by_cases e : u = sold.getD k 0
    · rw [e, hself]; exact hok
    · have := q3 u (by omega) h2
      rw [List.set_set] at this
      exact this
end Go.Proofs.Ytfiacjdkdjkiiaa
