/- Joined texts: RGSf, Be, Bf, RGSk, RNo, RDa, RDb. -/
import Derived.Test.YtlpknbneilgjkaaZnRGBf
import Derived.Test.YtlpknbneilgjkaaZnRGMp
import Derived.Test.YtlpknbneilgjkaaZnGTs
import Derived.Test.YtlpknbneilgjkaaZnRGSd
import Derived.Test.YtlpknbneilgjkaaZnRFr
import Derived.Test.YtlpknbneilgjkaaZnBd
import Derived.Test.YtlpknbneilgjkaaZnRGs
section
section
namespace Go.Tl
open Go Go.RowKit
end Go.Tl
namespace Go.Proofs.Ytlpknbneilgjkaa.R
open Go Go.RowKit Go.Tl
set_option linter.unusedVariables false
set_option linter.unusedSimpArgs false
set_option maxRecDepth 100000
set_option maxHeartbeats 4000000
def digL (F : Nat → Int) (H : Nat) : List Int := (List.range H).map F
theorem digL_at {F : Nat → Int} {H v : Nat} (hv : v < H) : (digL F H).getD v 0 = F v := by simp [digL, List.getD_eq_getElem?_getD, hv]
theorem prov_eq {b : BookD} (hv : VBook b) (F : Nat → Int) : ∀ k, k ≤ b.cons.length → provN b (digL F b.houses.toNat) k = provF b F k
  | 0, _ => rfl
  | k + 1, hk => by
    have hf := hv.frm k (by omega)
    have ht := hv.to k (by omega)
    simp only [provN, provF, upN]
    rw [prov_eq hv F k (by omega), digL_at (by omega), digL_at (by omega)]
attribute [local irreducible] AWP AWL AOp PV LV AWT AWE
section
variable {b : BookD} {g1 ga n h : Nat} {F : Nat → Int} {u3 : AV}
end
end Go.Proofs.Ytlpknbneilgjkaa.R
end
section
namespace Go.Proofs.Ytlpknbneilgjkaa.R
open Go Go.RowKit Go.Tl
set_option linter.unusedVariables false
set_option linter.unusedSimpArgs false
theorem acc_far {b : BookD} (hv : VBook b) (f : Nat → Int) {h : Nat} (hh : b.houses ≤ (h : Int)) : ∀ k, k ≤ b.cons.length → accN b.cons f k h = 0
  | 0, _ => rfl
  | k + 1, hk => by
    have hf := hv.frm k (by omega)
    have ht := hv.to k (by omega)
    simp only [accN]
    rw [acc_far hv f hh k (by omega), if_neg (by omega), if_neg (by omega)]
    rfl
theorem offB_iff {b : BookD} (hv : VBook b) {l : List Int} : offB b l = true ↔ l.length = b.cons.length ∧ OffF b (numF b) (fun i => l.getD i 0) := by
  have hh := hv.houses
  unfold offB
  simp only [Bool.and_eq_true, listed_iff, all_getD (d := (0 : Int)), decide_eq_true_eq]
  constructor
  · rintro ⟨⟨h1, h2⟩, h3⟩
    refine ⟨h1, fun i hi => h2 i (by omega), fun h => ?_⟩
    by_cases c : (h : Int) < b.houses
    · have := h3 h (by rw [netL_len]; omega)
      rwa [net_at (by omega)] at this
    · exact acc_far hv _ (by omega) _ (Nat.le_refl _)
  · rintro ⟨h1, h2⟩
    refine ⟨⟨h1, fun k hk => h2.bd k (by omega)⟩, fun k hk => ?_⟩
    rw [netL_len] at hk
    rw [net_at hk]
    exact h2.net k
theorem rng_at {f : Nat → Int} {n i : Nat} (h : i < n) : ((List.range n).map f).getD i 0 = f i := by simp [List.getD_eq_getElem?_getD, h]
theorem off_congr {b : BookD} {cap f g : Nat → Int} (h : ∀ i, i < b.cons.length → f i = g i) (hf : OffF b cap f) : OffF b cap g :=
  ⟨fun i hi => by rw [← h i hi]; exact hf.bd i hi, fun q => by rw [← accN_congr (f := f) _ _ h]; exact hf.net q⟩
theorem sumI_getD (l : List Int) : sumI l = sumR l.length (fun i => l.getD i 0) := by
  unfold sumR
  congr 1
  refine List.ext_getElem (by simp) fun i h1 h2 => ?_
  simp [List.getD_eq_getElem?_getD, h1]
structure GrFacts (b : BookD) (off hs : List Int) : Prop where
  len : off.length = b.cons.length
  isoff : offB b off = true
  hlen : hs.length = b.houses.toNat
  high : highB b hs = true
  prov : provN b hs b.cons.length = sumI off
  low : ∀ F : Nat → Int, sumI off ≤ provF b F b.cons.length
  ex : ∃ F : Nat → Int, (∀ v, v < b.houses.toNat → 0 ≤ F v ∧ F v ≤ b.houses - 1) ∧ hs = digL F b.houses.toNat ∧ provF b F b.cons.length = sumI off
  bd : 0 ≤ sumI off ∧ sumI off ≤ 800
theorem gr_facts {b : BookD} (hv : VBook b) {off hs : List Int} (h : isGr b off hs) : GrFacts b off hs := by
  obtain ⟨f, ho, hst, rfl, rfl⟩ := h
  have hh := hv.houses
  have hlen : ((List.range b.cons.length).map f).length = b.cons.length := by simp
  have hoff : OffF b (numF b) (fun i => ((List.range b.cons.length).map f).getD i 0) := off_congr (fun i hi => (rng_at hi).symm) ho
  have hsum : sumI ((List.range b.cons.length).map f) = sumR b.cons.length f := rfl
  have hends : ∀ a ∈ arcsL (fL (numF b) f) b.cons.length, aF b a < b.houses.toNat ∧ aT b a < b.houses.toNat := fun a ha => arc_ends hv ha
  have hd : ∀ v, v < b.houses.toNat → 0 ≤ -((bfR b (arcsL (fL (numF b) f) b.cons.length) b.houses.toNat).1 v) ∧ -((bfR b (arcsL (fL (numF b) f) b.cons.length) b.houses.toNat).1 v) ≤ b.houses - 1 := fun v hv' => by
    have h1 := bf_neg (b := b) (L := arcsL (fL (numF b) f) b.cons.length) b.houses.toNat v
    have h2 := bf_height hends hst hv'
    omega
  have hhl : (hgtL b f).length = b.houses.toNat := by simp [hgtL]
  have hdig : hgtL b f = digL (fun v => -((bfR b (arcsL (fL (numF b) f) b.cons.length) b.houses.toNat).1 v)) b.houses.toNat := rfl
  have hpr := strong_dual hv ho hst
  have hp2 := prov_eq hv (fun v => -((bfR b (arcsL (fL (numF b) f) b.cons.length) b.houses.toNat).1 v)) _ (Nat.le_refl _)
  refine ⟨hlen, (offB_iff hv).2 ⟨hlen, hoff⟩, hhl, high_iff.2 ⟨by rw [hhl]; omega, fun k hk => ?_⟩, by rw [hdig, hp2, hpr, hsum], fun F => ?_, ⟨_, hd, hdig, by rw [hpr, hsum]⟩, ?_⟩
  · rw [hhl] at hk
    rw [hdig, digL_at hk]
    have := hd k hk
    omega
  · rw [hsum]; exact weak_dual hv ho F
  · rw [hsum]; exact off_tot hv ho
end Go.Proofs.Ytlpknbneilgjkaa.R
end
end
section
namespace Go.Proofs.Ytlpknbneilgjkaa.S
open Go Go.RowKit Go.Tl
set_option linter.unusedVariables false
set_option linter.unusedSimpArgs false
set_option maxRecDepth 100000
set_option maxHeartbeats 4000000
theorem acall_borrow3 {P : Program} {g : Nat} {A B : AV} {v : Value} {E sz n : Nat} {rows : List (List AV)} {f : Nat → List Tr} {u : Value} (C : PCall P g [A, B, .t (.sl true sz n f)] (fun r => r = .v u)) (hn : rows.length = n) (hf : ∀ k, k < n → rows.getD k [] = (f k).map AV.ofTr) :
    ACall P g [A, B, .v v] [.rw v E sz rows] (fun r h' => r = .v u ∧ h' = [.rw v E sz rows]) := fun w S vs h1 h2 h3 => by
  have he := h2.ent _ List.mem_cons_self
  have ht := row_tree he hn hf
  have hown : ∀ b, v.ownBlock = some b → b < w.heap.size := fun b hb => by
    obtain ⟨xs, ho, _⟩ := he
    exact (ho.lt b hb).2
  have hlt' : ∀ b, (S b ∨ v.ownBlock = some b) → b < w.heap.size := fun b hb => by
    rcases hb with hb | hb
    · exact h1 b hb
    · exact hown b hb
  obtain ⟨a, us, rfl, ha, h3⟩ := rels1 h3
  obtain ⟨a2, us2, rfl, ha2, h3⟩ := rels1 h3
  have hvs : us2 = [v] := VRels.lits_inv (xs := [v]) h3
  subst hvs
  refine (C w _ [a, a2, v] hlt' HRel.nil (.cons (ha.mono (fun b hb => .inl hb) (fun _ _ => rfl)) (.cons (ha2.mono (fun b hb => .inl hb) (fun _ _ => rfl)) (.cons (.t ht) .nil)))).mono fun e w' ⟨v', S'', r, h', e1, hq, hvr, E', hlt, hr, hl⟩ => ?_
  obtain ⟨rfl, rfl⟩ := hq
  have hk : ∀ b, b < w.heap.size → w'.heap[b]? = w.heap[b]? := fun b hb => E'.keep b hb (fun ⟨e, he, _⟩ => by cases he)
  exact ⟨_, S, _, _, e1, ⟨rfl, rfl⟩, by rw [hvr.lit_inv]; exact .v _, ⟨E'.os, E'.tape, E'.output, E'.size, fun b hb _ => hk b hb, fun _ h => h, fun _ h => .inl h⟩, fun b hb => Nat.lt_of_lt_of_le (h1 b hb) E'.size,
    h2.same h1 (fun _ h => h) (fun _ h => .inl h) ⟨E'.os, E'.tape, E'.output, E'.size, fun b hb _ => hk b hb⟩, fun e he g hg => .inl ⟨e, he, hg⟩⟩
theorem accS_congr {ds : List DueD} {f g : Nat → Int} : ∀ (k h : Nat), (∀ i, i < k → f i = g i) → accS ds f k h = accS ds g k h
  | 0, _, _ => rfl
  | k + 1, h, e => by simp only [accS]; rw [accS_congr k h fun i hi => e i (by omega), e k (Nat.lt_succ_self _)]
/-- deliveries that can be made -/
def OkD (hn : Nat) (ds : List DueD) (f : Nat → Int) : Prop := ∀ q, q < hn → 0 ≤ accS ds f ds.length q
theorem ok_congr {hn : Nat} {ds : List DueD} {f g : Nat → Int} (h : ∀ i, i < ds.length → f i = g i) (hf : OkD hn ds f) : OkD hn ds g := fun q hq => by
  rw [← accS_congr (f := f) _ _ h]
  exact hf q hq
/-- what is not delivered of the dues from one on -/
def remS (ds : List DueD) (f : Nat → Int) : Nat → Nat → Int
  | 0, _ => 0
  | m + 1, i => ((ds.getD i default).num - f i) + remS ds f m (i + 1)
theorem remS_nn {ds : List DueD} {f : Nat → Int} : ∀ (m i : Nat), (∀ j, i ≤ j → j < i + m → f j ≤ (ds.getD j default).num) → 0 ≤ remS ds f m i
  | 0, _, _ => Int.le_refl _
  | m + 1, i, h => by
    have h1 := h i (Nat.le_refl _) (by omega)
    have h2 := remS_nn (ds := ds) (f := f) m (i + 1) fun j h1 h2 => h j (by omega) (by omega)
    simp only [remS]
    omega
/-- a list that may be tried: as another one below some due, with numbers of all others -/
structure Fit (ds : List DueD) (f0 : Nat → Int) (i : Nat) (g : Nat → Int) : Prop where
  pre : ∀ j, j < i → g j = f0 j
  bd : ∀ j, i ≤ j → j < ds.length → 0 ≤ g j ∧ g j ≤ (ds.getD j default).num
inductive TryD (hn : Nat) (ds : List DueD) (f0 : Nat → Int) (i m : Nat) (B : Int) : Bool → (Nat → Int) → Prop
  | no {f : Nat → Int} (hp : ∀ j, j < i → f j = f0 j) (h : ∀ g, Fit ds f0 i g → remS ds g m i = B → ¬ OkD hn ds g) : TryD hn ds f0 i m B false f
  | yes {f : Nat → Int} (hf : Fit ds f0 i f) (hs : remS ds f m i = B) (ho : OkD hn ds f) : TryD hn ds f0 i m B true f
abbrev wkC (cs cl cd : Bool) (hn : Nat) (ds : List DueD) (gm : Nat) : List AV := [intA hn, .t (intsT cs [0]), nilA, nilA, intA 0, .t (offT cl hn), .t (duesT cd ds), .v (.map (some gm))]
abbrev trE (gw gm g2 g3 g4 g5 g6 go : Nat) (cs cl cd : Bool) (hn : Nat) (ds : List DueD) (f : Nat → Int) : List Ent :=
  [.cl g2 175 [.v (ptrV gw)], .cl gw 244 (wkC cs cl cd hn ds gm), .cl g3 171 [intA 0, intA 0, intA 0, intA 0], .cl g4 29 [.v (.slice (some ⟨go, 0, none⟩) ds.length ds.length)], .rw (.slice (some ⟨go, 0, none⟩) ds.length ds.length) 3 1 (fRows f ds.length), .cl g5 3 [intA (-1)],
    .cl g6 277 [.v (.func (.func 149) #[] #[ptrV g2, ptrV g3, ptrV g4, ptrV g5, ptrV g6])]]
attribute [local irreducible] AWP AWL AOp PV LV AWT AWE
section
variable {gw gm g2 g3 g4 g5 g6 go i : Nat} {cs cl cd : Bool} {hn : Nat} {ds : List DueD} {f f' : Nat → Int} {B x most : Int}
theorem be_2y (hC : PCall Try.prog 150 [ledA cs cl cd hn ds, handA, .t (.sl true 1 ds.length (fun k => [.sc (.int .i64 ((R.digL f ds.length).getD k 0))]))] (fun r => r = boolA (decide (lackS (accS ds f ds.length) hn ≤ 0)))) {ops : Array Oper} (h : regF Try.f149 2 = some ops) :
    AWP Try.prog Try.f149.ntmps none (.region 2 ops true) (cutQ (fun s h => s = [(9, boolA (decide (lackS (accS ds f ds.length) hn ≤ 0)))] ∧ h = trE gw gm g2 g3 g4 g5 g6 go cs cl cd hn ds f))
      [(1, intA 0), (2, .v (ptrV g2)), (3, .v (ptrV g3)), (4, .v (ptrV g4)), (5, .v (ptrV g5)), (6, .v (ptrV g6))] (trE gw gm g2 g3 g4 g5 g6 go cs cl cd hn ds f) := by
  cases h
  have hrl := fRows_len f ds.length
  have hrt := fRows_tree (f := f) (xs := R.digL f ds.length) (m := ds.length) rfl
  refine awp_treeN T0 [(0, 0), (1, 0), (2, 0), (3, 1), (4, 0), (5, 0), (6, 1), (7, 1), (8, 1), (9, 3), (10, 0), (11, 0)] (.op 0 0 (.op 1 0 (.op 2 0 (.op 3 1 (.op 4 0 (.op 5 0 (.op 6 1 (.op 7 1 (.op 8 1 (.op 9 3 (.op 10 0 (.op 11 0 .stop)))))))))))) [.cl g2 _ _, .cl gw _ _, .cl g3 _ _, .cl g4 _ _] rfl (by kernel_rfl) rcA ?_
  refine awt_po rfl (wt_none rfl) (pv_move rfl rfl) rfl rfl ?_
  refine awt_po rfl (wt_none rfl) (pv_eql rfl rfl rfl) rfl rfl ?_
  refine awt_po rfl (wt_none rfl) (pv_move rfl rfl) rfl rfl ?_
  refine awt_lo rfl wtS (lv_cl1 T0 rfl rfl rfl rcA raA) rfl rfl rfl ?_
  refine awt_po rfl wtS (pv_nilCheck rfl rfl) rfl rfl ?_
  refine awt_po rfl wtS (pv_fa T0 rfl rfl rfl (by simp; rfl)) rfl rfl ?_
  refine awt_lo rfl wtS (lv_clp T0 rfl rfl rfl rcA rfl rfl) rfl rfl rfl ?_
  refine awt_lo rfl wtS (lv_cla T0 rfl rfl rfl rcA rfl) rfl rfl rfl ?_
  refine awt_lo rfl wtS (lv_cl1 T0 rfl rfl rfl rcA raA) rfl rfl rfl ?_
  refine awt_s (md := fun _ => True) rfl wtS (st_acall T0 ((acall_borrow3 (E := 3) (rows := fRows f ds.length) hC hrl hrt)) rfl rfl rfl rfl (by first | exact callee_lit | exact callee_v | exact callee_fn | assumption) rcA raA rfl (by first | ((repeat' (first | exact SubH.refl _ | apply SubH.cons | exact Pick.here | apply Pick.there)); all_goals fail) | fail) (fun _ _ => trivial) ?_)
  rintro r h' ⟨rfl, rfl⟩
  first
    | refine awe_p rfl (wt_none rfl) (pv_pick_t rfl rfl tfA rfl) rfl rfl ?_
    | refine awe_p rfl (wt_none rfl) (pv_pick_f rfl rfl tfA rfl) rfl rfl ?_
  refine awe_p rfl (wt_none rfl) (pv_assign rfl rfl) rfl rfl ?_
  refine awe_end ?_
  exact cut_n ⟨rfl, rfl⟩ ssA rcA
theorem be_2n (hB : B ≠ 0) (hB2 : -1000 ≤ B ∧ B ≤ 1000) {ops : Array Oper} (h : regF Try.f149 2 = some ops) :
    AWP Try.prog Try.f149.ntmps none (.region 2 ops true) (cutQ (fun s h => s = [(9, boolA false)] ∧ h = trE gw gm g2 g3 g4 g5 g6 go cs cl cd hn ds f))
      [(1, intA B), (2, .v (ptrV g2)), (3, .v (ptrV g3)), (4, .v (ptrV g4)), (5, .v (ptrV g5)), (6, .v (ptrV g6))] (trE gw gm g2 g3 g4 g5 g6 go cs cl cd hn ds f) := by
  cases h
  have d1 : decide (B = 0) = false := decide_eq_false hB
  refine awp_treeN T0 [(0, 0), (1, 0), (2, 0), (3, 1), (4, 0), (5, 0), (6, 1), (7, 1), (8, 1), (9, 3), (10, 0), (11, 0)] (.op 0 0 (.op 1 0 (.op 2 0 (.op 3 1 (.op 4 0 (.op 5 0 (.op 6 1 (.op 7 1 (.op 8 1 (.op 9 3 (.op 10 0 (.op 11 0 .stop)))))))))))) [.cl g2 _ _, .cl gw _ _, .cl g3 _ _, .cl g4 _ _] rfl (by kernel_rfl) rcA ?_
  refine awt_po rfl (wt_none rfl) (pv_move rfl rfl) rfl rfl ?_
  refine awt_po rfl (wt_none rfl) (pv_eql rfl rfl rfl) rfl rfl ?_
  refine awt_po rfl (wt_none rfl) (pv_move rfl rfl) rfl rfl ?_
  refine awt_sk1 rfl (wf_some rfl rfl rfl rfl tfA) rfl rfl (fun _ _ h => h) rfl ?_
  refine awt_sk0 rfl (wf_some rfl rfl rfl rfl tfA) rfl rfl (fun _ _ h => h) rfl ?_
  refine awt_sk0 rfl (wf_some rfl rfl rfl rfl tfA) rfl rfl (fun _ _ h => h) rfl ?_
  refine awt_sk1 rfl (wf_some rfl rfl rfl rfl tfA) rfl rfl (fun _ _ h => h) rfl ?_
  refine awt_sk1 rfl (wf_some rfl rfl rfl rfl tfA) rfl rfl (fun _ _ h => h) rfl ?_
  refine awt_sk1 rfl (wf_some rfl rfl rfl rfl tfA) rfl rfl (fun _ _ h => h) rfl ?_
  refine awt_sk3 rfl (wf_some rfl rfl rfl rfl tfA) rfl rfl ?_
  first
    | refine awe_p rfl (wt_none rfl) (pv_pick_t rfl rfl tfA rfl) rfl rfl ?_
    | refine awe_p rfl (wt_none rfl) (pv_pick_f rfl rfl tfA rfl) rfl rfl ?_
  refine awe_p rfl (wt_none rfl) (pv_assign rfl rfl) rfl rfl ?_
  refine awe_end ?_
  exact cut_n ⟨rfl, rfl⟩ ssA rcA
theorem be_9 (hi : i < ds.length) (hlen : ds.length ≤ 6) (hb : 1 ≤ (ds.getD i default).num ∧ (ds.getD i default).num ≤ 4) (hx : 0 ≤ x ∧ x ≤ 1000) (hG : ∀ q, q < ds.length → f' q = if q = i then (ds.getD i default).num - x else f q) {ops : Array Oper} (h : regF Try.f149 9 = some ops) :
    AWP Try.prog Try.f149.ntmps none (.region 9 ops true) (cutQ (fun s h => s = [(0, intA i), (1, intA B), (2, .v (ptrV g2)), (3, .v (ptrV g3)), (4, .v (ptrV g4)), (5, .v (ptrV g5)), (6, .v (ptrV g6)), (11, intA x), (47, intA most), (48, intA x)] ∧ h = trE gw gm g2 g3 g4 g5 g6 go cs cl cd hn ds f'))
      [(0, intA i), (1, intA B), (2, .v (ptrV g2)), (3, .v (ptrV g3)), (4, .v (ptrV g4)), (5, .v (ptrV g5)), (6, .v (ptrV g6)), (11, intA x), (47, intA most), (48, intA x)] (trE gw gm g2 g3 g4 g5 g6 go cs cl cd hn ds f) := by
  cases h
  have r2 := fRows_len f ds.length
  refine awp_tree T0 [(0, 1), (1, 0), (2, 1), (3, 0), (4, 0), (5, 0), (6, 1), (7, 0), (8, 0), (9, 0), (10, 1), (11, 0), (12, 0), (13, 0), (14, 3)] (.op 0 1 (.op 1 0 (.op 2 1 (.op 3 0 (.op 4 0 (.op 5 0 (.op 6 1 (.op 7 0 (.op 8 0 (.op 9 0 (.op 10 1 (.op 11 0 (.op 12 0 (.op 13 0 (.op 14 3 .stop))))))))))))))) [.cl g2 _ _, .cl gw _ _, .cl g4 _ _] rfl (by kernel_rfl) rcA ?_
  refine awt_lo rfl (wt_none rfl) (lv_cl1 T0 rfl rfl rfl rcA raA) rfl rfl rfl ?_
  refine awt_po rfl (wt_none rfl) (pv_move rfl rfl) rfl rfl ?_
  refine awt_lo rfl (wt_none rfl) (lv_cl1 T0 rfl rfl rfl rcA raA) rfl rfl rfl ?_
  refine awt_po rfl (wt_none rfl) (pv_nilCheck rfl rfl) rfl rfl ?_
  refine awt_po rfl (wt_none rfl) (pv_fa T0 rfl rfl rfl (by simp; rfl)) rfl rfl ?_
  refine awt_po rfl (wt_none rfl) (pv_fa T0 rfl rfl rfl (by simp; rfl)) rfl rfl ?_
  refine awt_lo rfl (wt_none rfl) (lv_cl1 T0 rfl rfl rfl rcA raA) rfl rfl rfl ?_
  refine awt_po rfl (wt_none rfl) (pv_move rfl rfl) rfl rfl ?_
  refine awt_po rfl (wt_none rfl) (pv_ix_t T0 rfl rfl rfl rfl (by omega) ixA) rfl rfl ?_
  refine awt_po rfl (wt_none rfl) (pv_fa_elt T0 rfl rfl rfl (by simp; rfl)) rfl rfl ?_
  refine awt_lo rfl (wt_none rfl) (lv_elt_sc T0 rfl rfl rfl rfl) rfl rfl rfl ?_
  refine awt_po rfl (wt_none rfl) (pv_move rfl rfl) rfl rfl ?_
  refine awt_po rfl (wt_none rfl) (pv_sub rfl rfl rfl (by first | assumption | exact wr64 (by omega))) rfl rfl ?_
  refine awt_po rfl (wt_none rfl) (pv_ix_own T0 rfl rfl rfl rfl (by omega) ixA) rfl rfl ?_
  refine awt_s (md := fun _ => True) rfl (wt_none rfl) (aop_store_rp T0 rfl rfl rfl rfl rfl rfl rfl rfl rcA (by first | omega | (simp; omega)) (by omega) rfl trivial ?_)
  refine awe_end ?_
  simp only [cellsA]
  rw [fRows_set hi hG]
  exact cut_n ⟨rfl, rfl⟩ ssA rcA
end
theorem deliver_p (gw gm g2 g3 g4 g5 g6 go : Nat) (cs cl cd : Bool) (hn : Nat) (ds : List DueD) (hv : VDue hn ds) : ∀ (m i : Nat) (B : Int) (f : Nat → Int), i + m = ds.length → 0 ≤ B → B ≤ 100 → (∀ j, j < i → 0 ≤ f j ∧ f j ≤ (ds.getD j default).num) →
    ACall Try.prog 149 [intA i, intA B, .v (ptrV g2), .v (ptrV g3), .v (ptrV g4), .v (ptrV g5), .v (ptrV g6)] (trE gw gm g2 g3 g4 g5 g6 go cs cl cd hn ds f) (fun r h' => ∃ rb f', TryD hn ds f i m B rb f' ∧ r = boolA rb ∧ h' = trE gw gm g2 g3 g4 g5 g6 go cs cl cd hn ds f') := by
  have hlen := hv.len
  have hh := hv.h
  intro m
  induction m with
  | zero =>
    intro i B f hi hB0 hB1 hf
    obtain rfl : i = ds.length := by omega
    have d0 : decide ((ds.length : Int) = ds.length) = true := decide_eq_true rfl
    refine acall_of_awp T0 Try.func149 rfl rfl rfl ?_
    by_cases hB : B = 0
    · subst hB
      have hC := can_p cs cl cd true hn ds (R.digL f ds.length) hv (by simp [R.digL]) (fun k hk => by
        rw [R.digL_at hk]
        have h1 := hf k hk
        have h2 := hv.num k hk
        omega)
      have eA : accS ds (fun i => (R.digL f ds.length).getD i 0) ds.length = accS ds f ds.length := by
        funext q
        exact accS_congr _ _ fun i hi => R.digL_at hi
      rw [eA] at hC
      have eT : intsT true (R.digL f ds.length) = Tr.sl true 1 ds.length (fun k => [.sc (.int .i64 ((R.digL f ds.length).getD k 0))]) := by
        have : (R.digL f ds.length).length = ds.length := by simp [R.digL]
        show Tr.sl true 1 (R.digL f ds.length).length _ = _
        rw [this]
      rw [eT] at hC
      repeat (first | refine awp_seq ?_ | refine awp_region_lit rfl ?_ | with_reducible refine then_n ?_ | refine awp_cond_t rfl (by first | rfl | assumption | exact dT (by omega)) ?_ | ((first | (show AWL _ _ _ (⟨_, .move _, _, _, _, _⟩ :: _) _ _ _; refine awl_pw ?wtq (pv_move rfl rfl) rfl rfl ?_) | (show AWL _ _ _ (⟨_, .assign _, _, _, _, _⟩ :: _) _ _ _; refine awl_pw ?wtq (pv_assign rfl rfl) rfl rfl ?_) | (show AWL _ _ _ (⟨_, .load _ _, _, _, _, _⟩ :: _) _ _ _; refine awl_lw ?wtq (lv_cl1 T0 rfl rfl rfl rcA raA) rfl rfl rfl ?_) | (show AWL _ _ _ (⟨_, .fieldAddr _ _ _, _, _, _, _⟩ :: _) _ _ _; refine awl_pw ?wtq (pv_fa T0 rfl rfl rfl (by simp; rfl)) rfl rfl ?_) | (show AWL _ _ _ (⟨_, .binOp .eql _ _ _ _, _, _, _, _⟩ :: _) _ _ _; refine awl_pw ?wtq (pv_eql rfl rfl rfl) rfl rfl ?_) | (show AWL _ _ _ (⟨_, .call ⟨.builtin .len, _, _⟩, _, _, _, _⟩ :: _) _ _ _; refine awl_pw ?wtq (pv_len_t T0 rfl rfl rfl) rfl rfl ?_) | (show AWL _ _ _ (⟨_, .nilCheck _, _, _, _, _⟩ :: _) _ _ _; refine awl_pw ?wtq (pv_nilCheck rfl rfl) rfl rfl ?_)); case wtq => exact wtA) | refine awl_nil ?_)
      refine awp_cut _ (awp_weak ssA rcA (be_2y (gw := gw) (gm := gm) (g2 := g2) (g3 := g3) (g4 := g4) (g5 := g5) (g6 := g6) (go := go) (cs := cs) (cl := cl) (cd := cd) (hn := hn) (ds := ds) (f := f) hC rfl)) ?_
      rintro s h ⟨rfl, rfl⟩
      repeat (first | refine awp_ret ?_ | with_reducible refine then_r ?_)
      refine body_r (h' := trE gw gm g2 g3 g4 g5 g6 go cs cl cd hn ds f) (.cons rfl .nil) rcA ⟨_, f, ?_, rfl, rfl⟩
      by_cases c : lackS (accS ds f ds.length) hn ≤ 0
      · rw [decide_eq_true c]
        exact .yes ⟨fun _ _ => rfl, fun j h1 h2 => absurd h2 (by omega)⟩ rfl (lackS_le.1 c)
      · rw [decide_eq_false c]
        refine .no (fun _ _ => rfl) fun g hg _ hO => c (lackS_le.2 ?_)
        exact ok_congr (f := g) (fun j hj => hg.pre j hj) hO
    · have dB : decide (B = 0) = false := decide_eq_false hB
      repeat (first | refine awp_seq ?_ | refine awp_region_lit rfl ?_ | with_reducible refine then_n ?_ | refine awp_cond_t rfl (by first | rfl | assumption | exact dT (by omega)) ?_ | ((first | (show AWL _ _ _ (⟨_, .move _, _, _, _, _⟩ :: _) _ _ _; refine awl_pw ?wtq (pv_move rfl rfl) rfl rfl ?_) | (show AWL _ _ _ (⟨_, .assign _, _, _, _, _⟩ :: _) _ _ _; refine awl_pw ?wtq (pv_assign rfl rfl) rfl rfl ?_) | (show AWL _ _ _ (⟨_, .load _ _, _, _, _, _⟩ :: _) _ _ _; refine awl_lw ?wtq (lv_cl1 T0 rfl rfl rfl rcA raA) rfl rfl rfl ?_) | (show AWL _ _ _ (⟨_, .fieldAddr _ _ _, _, _, _, _⟩ :: _) _ _ _; refine awl_pw ?wtq (pv_fa T0 rfl rfl rfl (by simp; rfl)) rfl rfl ?_) | (show AWL _ _ _ (⟨_, .binOp .eql _ _ _ _, _, _, _, _⟩ :: _) _ _ _; refine awl_pw ?wtq (pv_eql rfl rfl rfl) rfl rfl ?_) | (show AWL _ _ _ (⟨_, .call ⟨.builtin .len, _, _⟩, _, _, _, _⟩ :: _) _ _ _; refine awl_pw ?wtq (pv_len_t T0 rfl rfl rfl) rfl rfl ?_) | (show AWL _ _ _ (⟨_, .nilCheck _, _, _, _, _⟩ :: _) _ _ _; refine awl_pw ?wtq (pv_nilCheck rfl rfl) rfl rfl ?_)); case wtq => exact wtA) | refine awl_nil ?_)
      refine awp_cut _ (awp_weak ssA rcA (be_2n (gw := gw) (gm := gm) (g2 := g2) (g3 := g3) (g4 := g4) (g5 := g5) (g6 := g6) (go := go) (cs := cs) (cl := cl) (cd := cd) (hn := hn) (ds := ds) (f := f) (B := B) hB (by omega) rfl)) ?_
      rintro s h ⟨rfl, rfl⟩
      repeat (first | refine awp_ret ?_ | with_reducible refine then_r ?_)
      refine body_r (h' := trE gw gm g2 g3 g4 g5 g6 go cs cl cd hn ds f) (.cons rfl .nil) rcA ⟨false, f, .no (fun _ _ => rfl) fun g _ h _ => hB h.symm, rfl, rfl⟩
  | succ m ih =>
    intro i B f hi hB0 hB1 hf
    have hil : i < ds.length := by omega
    have hnum := hv.num i hil
    have d0 : decide ((i : Int) = ds.length) = false := decide_eq_false (by omega)
    have d1 : decide ((i : Int) = -1) = false := decide_eq_false (by omega)
    refine acall_of_awp T0 Try.func149 rfl rfl rfl ?_
    repeat (first | refine awp_seq ?_ | refine awp_region_lit rfl ?_ | refine awp_skip ?_ | with_reducible refine then_n ?_ | refine awp_cond_f rfl (by first | rfl | assumption | exact dF (by omega)) ?_ | ((first | (show AWL _ _ _ (⟨_, .move _, _, _, _, _⟩ :: _) _ _ _; refine awl_pw ?wtq (pv_move rfl rfl) rfl rfl ?_) | (show AWL _ _ _ (⟨_, .assign _, _, _, _, _⟩ :: _) _ _ _; refine awl_pw ?wtq (pv_assign rfl rfl) rfl rfl ?_) | (show AWL _ _ _ (⟨_, .load _ _, _, _, _, _⟩ :: _) _ _ _; refine awl_lw ?wtq (lv_cl1 T0 rfl rfl rfl rcA raA) rfl rfl rfl ?_) | (show AWL _ _ _ (⟨_, .load _ _, _, _, _, _⟩ :: _) _ _ _; refine awl_lw ?wtq (lv_elt_sc T0 rfl rfl rfl rfl) rfl rfl rfl ?_) | (show AWL _ _ _ (⟨_, .fieldAddr _ _ _, _, _, _, _⟩ :: _) _ _ _; refine awl_pw ?wtq (pv_fa T0 rfl rfl rfl (by simp; rfl)) rfl rfl ?_) | (show AWL _ _ _ (⟨_, .fieldAddr _ _ _, _, _, _, _⟩ :: _) _ _ _; refine awl_pw ?wtq (pv_fa_elt T0 rfl rfl rfl (by simp; rfl)) rfl rfl ?_) | (show AWL _ _ _ (⟨_, .indexAddr _ _ _, _, _, _, _⟩ :: _) _ _ _; refine awl_pw ?wtq (pv_ix_t T0 rfl rfl rfl rfl (by omega) ixA) rfl rfl ?_) | (show AWL _ _ _ (⟨_, .binOp .eql _ _ _ _, _, _, _, _⟩ :: _) _ _ _; refine awl_pw ?wtq (pv_eql rfl rfl rfl) rfl rfl ?_) | (show AWL _ _ _ (⟨_, .call ⟨.builtin .len, _, _⟩, _, _, _, _⟩ :: _) _ _ _; refine awl_pw ?wtq (pv_len_t T0 rfl rfl rfl) rfl rfl ?_) | (show AWL _ _ _ (⟨_, .nilCheck _, _, _, _, _⟩ :: _) _ _ _; refine awl_pw ?wtq (pv_nilCheck rfl rfl) rfl rfl ?_)); case wtq => exact wtA) | refine awl_nil ?_)
    refine awl_hw wtA (st_bsl T0 rfl rfl rfl rfl rfl rcA rfl rfl rfl rfl (by simp only [List.map_cons, List.map_nil, cellsA]; rfl) ?_)
    intro g41
    skip
    refine awl_hw wtA (st_acall T0 (min2_o g41 B (ds.getD i default).num) rfl rfl rfl rfl (by first | exact callee_lit | exact callee_v | exact callee_fn | assumption) rcA raA rfl (by first | ((repeat' (first | exact SubH.refl _ | apply SubH.cons | exact Pick.here | apply Pick.there)); all_goals fail) | fail) (fun _ _ => trivial) ?_)
    rintro r h ⟨rfl, rfl⟩
    simp only [List.cons_append, List.nil_append]
    obtain ⟨M, hM⟩ : ∃ M, M = min B (ds.getD i default).num := ⟨_, rfl⟩
    rw [← hM]
    have hMb : 0 ≤ M ∧ M ≤ B ∧ M ≤ (ds.getD i default).num := by omega
    repeat (first | refine awp_seq ?_ | refine awp_block ?_ | refine awp_region_lit rfl ?_ | refine awp_skip ?_ | with_reducible refine then_n ?_ | refine awp_cond_f rfl (by first | rfl | assumption | exact dF (by omega)) ?_ | ((first | (show AWL _ _ _ (⟨_, .move _, _, _, _, _⟩ :: _) _ _ _; refine awl_pw ?wtq (pv_move rfl rfl) rfl rfl ?_) | (show AWL _ _ _ (⟨_, .assign _, _, _, _, _⟩ :: _) _ _ _; refine awl_pw ?wtq (pv_assign rfl rfl) rfl rfl ?_) | (show AWL _ _ _ (⟨_, .load _ _, _, _, _, _⟩ :: _) _ _ _; refine awl_lw ?wtq (lv_cl1 T0 rfl rfl rfl rcA raA) rfl rfl rfl ?_) | (show AWL _ _ _ (⟨_, .binOp .add _ _ _ _, _, _, _, _⟩ :: _) _ _ _; refine awl_pw ?wtq (pv_add rfl rfl rfl (by first | assumption | exact wr64 (by omega))) rfl rfl ?_) | (show AWL _ _ _ (⟨_, .binOp .eql _ _ _ _, _, _, _, _⟩ :: _) _ _ _; refine awl_pw ?wtq (pv_eql rfl rfl rfl) rfl rfl ?_)); case wtq => exact wtA) | refine awl_nil ?_)
    refine awp_loop (fun q s h => ∃ (x : Int) (f1 : Nat → Int), 0 ≤ x ∧ x ≤ M + 1 ∧ q = (M + 1 - x).toNat ∧ (∀ j, j < i → f1 j = f j) ∧ (∀ g, Fit ds f i g → remS ds g (m + 1) i = B → (ds.getD i default).num - g i < x → ¬ OkD hn ds g) ∧
      s = [(0, intA i), (1, intA B), (2, .v (ptrV g2)), (3, .v (ptrV g3)), (4, .v (ptrV g4)), (5, .v (ptrV g5)), (6, .v (ptrV g6)), (47, intA (M + 1)), (48, intA x)] ∧ h = trE gw gm g2 g3 g4 g5 g6 go cs cl cd hn ds f1) ?_
      ⟨0, f, Int.le_refl _, by omega, rfl, fun _ _ => rfl, (fun g hg _ hx => by have := hg.bd i (Nat.le_refl _) hil; omega), rfl, rfl⟩ ssA rcA
    rintro q s h ⟨x, f1, hx0, hx1, rfl, hpre, hno, rfl, rfl⟩
    by_cases hlt : x < M + 1
    case neg =>
      have d2 := decide_eq_false hlt
      repeat (first | refine awp_seq ?_ | refine awp_region_lit rfl ?_ | refine awp_exit ?_ | refine awp_ret ?_ | refine awp_cond_f rfl (by first | rfl | assumption | exact dF (by omega)) ?_ | ((first | (show AWL _ _ _ (⟨_, .assign _, _, _, _, _⟩ :: _) _ _ _; refine awl_pw ?wtq (pv_assign rfl rfl) rfl rfl ?_) | (show AWL _ _ _ (⟨_, .binOp .lss _ _ _ _, _, _, _, _⟩ :: _) _ _ _; refine awl_pw ?wtq (pv_lss rfl rfl rfl) rfl rfl ?_)); case wtq => exact wtA) | refine awl_nil ?_)
      refine body_r (h' := trE gw gm g2 g3 g4 g5 g6 go cs cl cd hn ds f1) (.cons rfl .nil) rcA ⟨false, f1, .no hpre fun g hg hs => hno g hg hs ?_, rfl, rfl⟩
      have h1 := hg.bd i (Nat.le_refl _) hil
      have h2 := remS_nn (ds := ds) (f := g) m (i + 1) fun j h1 h2 => (hg.bd j (by omega) (by omega)).2
      simp only [remS] at hs
      omega
    have d2 := decide_eq_true hlt
    obtain ⟨f2, hf2⟩ : ∃ f2 : Nat → Int, f2 = fun q => if q = i then (ds.getD i default).num - x else f1 q := ⟨_, rfl⟩
    have e2 : f2 i = (ds.getD i default).num - x := by rw [hf2]; exact if_pos rfl
    have e3 : ∀ j, j < i → f2 j = f j := fun j hj => by
      rw [hf2]
      show (if j = i then (ds.getD i default).num - x else f1 j) = f j
      rw [if_neg (by omega), hpre j hj]
    have hC := ih (i + 1) (B - x) f2 (by omega) (by omega) (by omega) (fun j hj => by
      by_cases c : j = i
      · subst c
        rw [e2]; omega
      · rw [e3 j (by omega)]
        exact hf j (by omega))
    rw [show intA ((i + 1 : Nat) : Int) = intA ((i : Int) + 1) from by rw [Int.natCast_add]; rfl] at hC
    repeat (first | refine awp_seq ?_ | refine awp_block ?_ | refine awp_region_lit rfl ?_ | refine awp_skip ?_ | refine awp_cond_t rfl (by first | rfl | assumption | exact dT (by omega)) ?_ | ((first | (show AWL _ _ _ (⟨_, .move _, _, _, _, _⟩ :: _) _ _ _; refine awl_pw ?wtq (pv_move rfl rfl) rfl rfl ?_) | (show AWL _ _ _ (⟨_, .assign _, _, _, _, _⟩ :: _) _ _ _; refine awl_pw ?wtq (pv_assign rfl rfl) rfl rfl ?_) | (show AWL _ _ _ (⟨_, .binOp .lss _ _ _ _, _, _, _, _⟩ :: _) _ _ _; refine awl_pw ?wtq (pv_lss rfl rfl rfl) rfl rfl ?_)); case wtq => exact wtA) | refine awl_nil ?_)
    refine awp_cut _ (awp_weak ssA rcA (be_9 (gw := gw) (gm := gm) (g2 := g2) (g3 := g3) (g4 := g4) (g5 := g5) (g6 := g6) (go := go) (i := i) (cs := cs) (cl := cl) (cd := cd) (hn := hn) (ds := ds) (f := f1) (f' := f2) (B := B) (x := x) (most := M + 1) hil hlen hnum ⟨hx0, by omega⟩ (fun q _ => by rw [hf2]) rfl)) ?_
    rintro s h ⟨rfl, rfl⟩
    repeat (first | refine awp_seq ?_ | refine awp_region_lit rfl ?_ | ((first | (show AWL _ _ _ (⟨_, .move _, _, _, _, _⟩ :: _) _ _ _; refine awl_pw ?wtq (pv_move rfl rfl) rfl rfl ?_) | (show AWL _ _ _ (⟨_, .load _ _, _, _, _, _⟩ :: _) _ _ _; refine awl_lw ?wtq (lv_cl1 T0 rfl rfl rfl rcA raA) rfl rfl rfl ?_) | (show AWL _ _ _ (⟨_, .binOp .add _ _ _ _, _, _, _, _⟩ :: _) _ _ _; refine awl_pw ?wtq (pv_add rfl rfl rfl (by first | assumption | exact wr64 (by omega))) rfl rfl ?_) | (show AWL _ _ _ (⟨_, .binOp .sub _ _ _ _, _, _, _, _⟩ :: _) _ _ _; refine awl_pw ?wtq (pv_sub rfl rfl rfl (by first | assumption | exact wr64 (by omega))) rfl rfl ?_)); case wtq => exact wtA))
    refine awl_hw wtA (st_acall T0 (hC) rfl rfl rfl rfl (by first | exact callee_lit | exact callee_v | exact callee_fn | assumption) rcA raA rfl (by first | ((repeat' (first | exact SubH.refl _ | apply SubH.cons | exact Pick.here | apply Pick.there)); all_goals fail) | fail) (fun _ _ => trivial) ?_)
    rintro r h ⟨rb, f3, hR, rfl, rfl⟩
    simp only [List.cons_append, List.nil_append]
    cases hR with
    | no hp hn3 =>
      repeat (first | refine awp_region_lit rfl ?_ | refine awp_skip ?_ | with_reducible refine then_n ?_ | refine awp_cond_f rfl (by first | rfl | assumption | exact dF (by omega)) ?_ | ((first | (show AWL _ _ _ (⟨_, .move _, _, _, _, _⟩ :: _) _ _ _; refine awl_pw ?wtq (pv_move rfl rfl) rfl rfl ?_) | (show AWL _ _ _ (⟨_, .binOp .add _ _ _ _, _, _, _, _⟩ :: _) _ _ _; refine awl_pw ?wtq (pv_add rfl rfl rfl (by first | assumption | exact wr64 (by omega))) rfl rfl ?_)); case wtq => exact wtA) | refine awl_nil ?_)
      refine rnd_n _ _ _ ?_ ⟨x + 1, f3, by omega, by omega, rfl, fun j hj => ?_, fun g hg hs hgx => ?_, rfl, rfl⟩ ssA rcA
      · omega
      · rw [hp j (by omega), e3 j hj]
      · by_cases c : (ds.getD i default).num - g i < x
        · exact hno g hg hs c
        · have c2 : (ds.getD i default).num - g i = x := by omega
          refine hn3 g ⟨fun j hj => ?_, fun j h1 h2 => hg.bd j (by omega) h2⟩ ?_
          · by_cases c3 : j = i
            · subst c3
              rw [e2]; omega
            · rw [e3 j (by omega)]
              exact hg.pre j (by omega)
          · simp only [remS] at hs
            omega
    | yes hF hs hO =>
      repeat (first | refine awp_seq ?_ | refine awp_region_lit rfl ?_ | refine awp_ret ?_ | with_reducible refine then_n ?_ | with_reducible refine then_r ?_ | with_reducible refine blk_r ?_ | refine rnd_r ?_ | refine awp_cond_t rfl (by first | rfl | assumption | exact dT (by omega)) ?_ | ((first | (show AWL _ _ _ (⟨_, .assign _, _, _, _, _⟩ :: _) _ _ _; refine awl_pw ?wtq (pv_assign rfl rfl) rfl rfl ?_)); case wtq => exact wtA) | refine awl_nil ?_)
      refine body_r (h' := trE gw gm g2 g3 g4 g5 g6 go cs cl cd hn ds f3) (.cons rfl .nil) rcA ⟨true, f3, .yes ⟨fun j hj => ?_, fun j h1 h2 => ?_⟩ ?_ hO, rfl, rfl⟩
      · rw [hF.pre j (by omega), e3 j hj]
      · by_cases c : j = i
        · subst c
          rw [hF.pre j (by omega), e2]; omega
        · exact hF.bd j (by omega) h2
      · simp only [remS]
        rw [hF.pre i (by omega), e2, hs]
        omega
end Go.Proofs.Ytlpknbneilgjkaa.S
end
section
namespace Go.Proofs.Ytlpknbneilgjkaa.S
open Go Go.RowKit Go.Tl
set_option linter.unusedVariables false
set_option linter.unusedSimpArgs false
set_option maxRecDepth 100000
set_option maxHeartbeats 4000000
theorem rep_fRows (n : Nat) : List.replicate n [AV.v (.int .i64 0)] = fRows (fun _ => 0) n := by
  refine List.ext_getElem (by simp [fRows]) fun k h1 h2 => ?_
  simp [fRows, intRow]
theorem rem_zero (ds : List DueD) : ∀ (m i : Nat), remS ds (fun _ => 0) m i + owS ds i = owS ds (i + m)
  | 0, i => by simp [remS]
  | m + 1, i => by
    have ih := rem_zero ds m (i + 1)
    rw [show i + (m + 1) = i + 1 + m by omega, ← ih]
    simp only [remS, owS]
    omega
theorem acc_zero (ds : List DueD) : ∀ (k h : Nat), accS ds (fun _ => 0) k h = 0
  | 0, _ => rfl
  | k + 1, h => by simp only [accS, acc_zero ds k h]; split <;> split <;> omega
/-- the best deliveries: of the smallest sum that is left over -/
structure BestD (hn : Nat) (ds : List DueD) (f : Nat → Int) (B : Int) : Prop where
  bd : ∀ j, j < ds.length → 0 ≤ f j ∧ f j ≤ (ds.getD j default).num
  sum : remS ds f ds.length 0 = B
  ok : OkD hn ds f
  min : ∀ g : Nat → Int, (∀ j, j < ds.length → 0 ≤ g j ∧ g j ≤ (ds.getD j default).num) → OkD hn ds g → B ≤ remS ds g ds.length 0
attribute [local irreducible] AWP AWL AOp PV LV AWT AWE
theorem try_o (gw gm : Nat) (cs cl cd : Bool) (hn : Nat) (ds : List DueD) (hv : VDue hn ds) (B : Int) (hB : 0 ≤ B ∧ B ≤ 100) :
    ACall Try.prog 104 [.v (ptrV gw), handA, intA B, intA (-1)] [.cl gw 244 (wkC cs cl cd hn ds gm)] (fun r h' => ∃ rb f go, TryD hn ds (fun _ => 0) 0 ds.length B rb f ∧ r = .tup [.v (.slice (some ⟨go, 0, none⟩) ds.length ds.length), boolA rb] ∧ h' = [.cl gw 244 (wkC cs cl cd hn ds gm), .rw (.slice (some ⟨go, 0, none⟩) ds.length ds.length) 3 1 (fRows f ds.length)]) := by
  have hlen := hv.len
  refine acall_of_awp T0 Try.func104 rfl rfl rfl ?_
  repeat (first | refine awp_seq ?_ | refine awp_region_lit rfl ?_)
  refine awl_hw (wt_none rfl) (st_box rfl rfl raA (by first | assumption | (simp only [cellsA]; rfl)) rfl rfl ?_)
  intro g4
  skip
  refine awl_hw (wt_none rfl) (st_box rfl rfl raA (by first | assumption | (simp only [cellsA]; rfl)) rfl rfl ?_)
  intro g5
  skip
  refine awl_hw (wt_none rfl) (st_box rfl rfl raA (by first | assumption | (simp only [cellsA]; rfl)) rfl rfl ?_)
  intro g7
  repeat (first | refine awp_seq ?_ | refine awp_region_lit rfl ?_ | (show AWL _ _ _ (⟨_, .assign _, _, _, _, _⟩ :: _) _ _ _; refine awl_pw (wt_none rfl) (pv_assign rfl rfl) rfl rfl ?_) | (show AWL _ _ _ (⟨_, .load _ _, _, _, _, _⟩ :: _) _ _ _; refine awl_lw (wt_none rfl) (lv_cl1 T0 rfl rfl rfl rcA raA) rfl rfl rfl ?_) | (show AWL _ _ _ (⟨_, .fieldAddr _ _ _, _, _, _, _⟩ :: _) _ _ _; refine awl_pw (wt_none rfl) (pv_fa T0 rfl rfl rfl (by simp; rfl)) rfl rfl ?_) | (show AWL _ _ _ (⟨_, .call ⟨.builtin .len, _, _⟩, _, _, _, _⟩ :: _) _ _ _; refine awl_pw (wt_none rfl) (pv_len_t T0 rfl rfl rfl) rfl rfl ?_) | (show AWL _ _ _ (⟨_, .nilCheck _, _, _, _, _⟩ :: _) _ _ _; refine awl_pw (wt_none rfl) (pv_nilCheck rfl rfl) rfl rfl ?_) | refine awl_nil ?_)
  refine awl_hw (wt_none rfl) (aop_make T0 rfl rfl rfl rfl rfl rfl rfl rfl (by omega) rfl ?_)
  intro g19
  rw [rep_fRows]
  skip
  refine awl_hw (wt_none rfl) (st_alloc T0 rfl rfl rfl rfl scA ?_)
  intro g10
  repeat (first | refine awp_seq ?_ | refine awp_region_lit rfl ?_ | (show AWL _ _ _ (⟨_, .store _ _ _, _, _, _, _⟩ :: _) _ _ _; refine awl_hw (wt_none rfl) (st_store T0 rfl rfl rfl rfl rfl (by first | assumption | (simp only [cellsA]; rfl)) rfl rfl rfl rcA rcA trivial ?_)) | refine awl_nil ?_)
  refine awl_hw (wt_none rfl) (st_alloc T0 rfl rfl rfl rfl scA ?_)
  intro g11
  repeat (first | refine awp_seq ?_ | refine awp_region_lit rfl ?_ | refine awl_nil ?_)
  refine awl_pw (wt_none rfl) (pv_makeFunc_v (fs := []) (cs := [ptrV g4, ptrV g5, ptrV g10, ptrV g7, ptrV g11]) rfl rfl rfl) rfl rfl ?_
  repeat (first | refine awp_seq ?_ | refine awp_region_lit rfl ?_ | (show AWL _ _ _ (⟨_, .move _, _, _, _, _⟩ :: _) _ _ _; refine awl_pw (wt_none rfl) (pv_move rfl rfl) rfl rfl ?_) | (show AWL _ _ _ (⟨_, .load _ _, _, _, _, _⟩ :: _) _ _ _; refine awl_lw (wt_none rfl) (lv_cl1 T0 rfl rfl rfl rcA raA) rfl rfl rfl ?_) | (show AWL _ _ _ (⟨_, .store _ _ _, _, _, _, _⟩ :: _) _ _ _; refine awl_hw (wt_none rfl) (st_store T0 rfl rfl rfl rfl rfl (by first | assumption | (simp only [cellsA]; rfl)) rfl rfl rfl rcA rcA trivial ?_)) | refine awl_nil ?_)
  refine awl_hw (wt_none rfl) (st_acall T0 (deliver_p gw gm g4 g5 g10 g7 g11 g19 cs cl cd hn ds hv ds.length 0 B (fun _ => 0) (Nat.zero_add _) hB.1 hB.2 (fun j hj => absurd hj (Nat.not_lt_zero _))) rfl rfl rfl rfl (by first | exact callee_lit | exact callee_v | exact callee_fn | assumption) rcA raA rfl (by first | ((repeat' (first | exact SubH.refl _ | apply SubH.cons | exact Pick.here | apply Pick.there)); all_goals fail) | fail) (fun _ _ => trivial) ?_)
  rintro r h ⟨rb, f, hR, rfl, rfl⟩
  simp only [List.cons_append, List.nil_append]
  repeat (first | refine awp_seq ?_ | refine awp_region_lit rfl ?_ | refine awp_ret ?_ | (show AWL _ _ _ (⟨_, .move _, _, _, _, _⟩ :: _) _ _ _; refine awl_pw (wt_none rfl) (pv_move rfl rfl) rfl rfl ?_) | (show AWL _ _ _ (⟨_, .assign _, _, _, _, _⟩ :: _) _ _ _; refine awl_pw (wt_none rfl) (pv_assign rfl rfl) rfl rfl ?_) | (show AWL _ _ _ (⟨_, .load _ _, _, _, _, _⟩ :: _) _ _ _; refine awl_lw (wt_none rfl) (lv_cl1 T0 rfl rfl rfl rcA raA) rfl rfl rfl ?_) | refine awl_nil ?_)
  exact body_r (h' := [.cl gw 244 (wkC cs cl cd hn ds gm), .rw (.slice (some ⟨g19, 0, none⟩) ds.length ds.length) 3 1 (fRows f ds.length)]) (.cons rfl (.cons rfl .nil)) rcA ⟨rb, f, g19, hR, rfl, rfl⟩
theorem best_o (gw gm : Nat) (cs cl cd : Bool) (hn : Nat) (ds : List DueD) (hv : VDue hn ds) :
    ACall Try.prog 62 [.v (ptrV gw), handA, intA (-1)] [.cl gw 244 (wkC cs cl cd hn ds gm)] (fun r h' => (∃ f B, BestD hn ds f B ∧ r = .tup [.t (intsT true (R.digL f ds.length)), intA B, boolA true]) ∧ h' = []) := by
  have hlen := hv.len
  have hOb := owS_bd hv ds.length (Nat.le_refl _)
  refine acall_of_awp T0 Try.func62 rfl rfl rfl ?_
  repeat (first | refine awp_seq ?_ | refine awp_region_lit rfl ?_)
  refine awl_hw (wt_none rfl) (st_box rfl rfl raA (by first | assumption | (simp only [cellsA]; rfl)) rfl rfl ?_)
  intro g4
  repeat (first | refine awp_seq ?_ | refine awp_region_lit rfl ?_ | (show AWL _ _ _ (⟨_, .move _, _, _, _, _⟩ :: _) _ _ _; refine awl_pw (wt_none rfl) (pv_move rfl rfl) rfl rfl ?_) | (show AWL _ _ _ (⟨_, .assign _, _, _, _, _⟩ :: _) _ _ _; refine awl_pw (wt_none rfl) (pv_assign rfl rfl) rfl rfl ?_) | (show AWL _ _ _ (⟨_, .load _ _, _, _, _, _⟩ :: _) _ _ _; refine awl_lw (wt_none rfl) (lv_clp T0 rfl rfl rfl rcA rfl rfl) rfl rfl rfl ?_) | (show AWL _ _ _ (⟨_, .fieldAddr _ _ _, _, _, _, _⟩ :: _) _ _ _; refine awl_pw (wt_none rfl) (pv_fa T0 rfl rfl rfl (by simp; rfl)) rfl rfl ?_) | (show AWL _ _ _ (⟨_, .nilCheck _, _, _, _, _⟩ :: _) _ _ _; refine awl_pw (wt_none rfl) (pv_nilCheck rfl rfl) rfl rfl ?_) | refine awl_nil ?_)
  refine awl_hw (wt_none rfl) (st_call T0 (owed_p cs cl cd hn ds hv) rfl rfl rfl rfl (by first | exact callee_lit | exact callee_v | exact callee_fn | assumption) rcA raA rfl ?_)
  rintro _ rfl
  repeat (first | refine awp_block ?_ | (show AWL _ _ _ (⟨_, .move _, _, _, _, _⟩ :: _) _ _ _; refine awl_pw (wt_none rfl) (pv_move rfl rfl) rfl rfl ?_) | (show AWL _ _ _ (⟨_, .binOp .add _ _ _ _, _, _, _, _⟩ :: _) _ _ _; refine awl_pw (wt_none rfl) (pv_add rfl rfl rfl (by first | assumption | exact wr64 (by omega))) rfl rfl ?_) | refine awl_nil ?_)
  refine awp_loop (fun q s h => ∃ (k : Nat), (k : Int) ≤ owS ds ds.length + 1 ∧ q = (owS ds ds.length + 1 - k).toNat ∧ (∀ g : Nat → Int, (∀ j, j < ds.length → 0 ≤ g j ∧ g j ≤ (ds.getD j default).num) → remS ds g ds.length 0 < k → ¬ OkD hn ds g) ∧
    s = [(0, .v (ptrV gw)), (2, intA (-1)), (4, .v (ptrV g4)), (17, intA (owS ds ds.length + 1)), (18, intA k)] ∧ h = [.cl gw 244 (wkC cs cl cd hn ds gm), .cl g4 171 [intA 0, intA 0, intA 0, intA 0]]) ?_
    ⟨0, by omega, rfl, (fun g hg hs => by
      have := remS_nn (ds := ds) (f := g) ds.length 0 fun j _ h2 => (hg j (by omega)).2
      omega), rfl, rfl⟩ ssA rcA
  rintro q s h ⟨k, hk, rfl, hno, rfl, rfl⟩
  by_cases hlt : (k : Int) < owS ds ds.length + 1
  case neg =>
    refine absurd ?_ (hno (fun _ => 0) (fun j hj => ⟨Int.le_refl _, by have := hv.num j hj; omega⟩) ?_)
    · intro q _
      rw [acc_zero]
      exact Int.le_refl _
    · have := rem_zero ds ds.length 0
      simp only [owS, Nat.zero_add, Int.add_zero] at this
      omega
  have d2 := decide_eq_true hlt
  repeat (first | refine awp_seq ?_ | refine awp_block ?_ | refine awp_region_lit rfl ?_ | refine awp_skip ?_ | refine awp_cond_t rfl (by first | rfl | assumption | exact dT (by omega)) ?_ | (show AWL _ _ _ (⟨_, .move _, _, _, _, _⟩ :: _) _ _ _; refine awl_pw (wt_none rfl) (pv_move rfl rfl) rfl rfl ?_) | (show AWL _ _ _ (⟨_, .assign _, _, _, _, _⟩ :: _) _ _ _; refine awl_pw (wt_none rfl) (pv_assign rfl rfl) rfl rfl ?_) | (show AWL _ _ _ (⟨_, .load _ _, _, _, _, _⟩ :: _) _ _ _; refine awl_lw (wt_none rfl) (lv_cla T0 rfl rfl rfl rcA rfl) rfl rfl rfl ?_) | (show AWL _ _ _ (⟨_, .binOp .lss _ _ _ _, _, _, _, _⟩ :: _) _ _ _; refine awl_pw (wt_none rfl) (pv_lss rfl rfl rfl) rfl rfl ?_) | refine awl_nil ?_)
  refine awl_hw (wt_none rfl) (st_acall T0 (try_o gw gm cs cl cd hn ds hv k (by omega)) rfl rfl rfl rfl (by first | exact callee_lit | exact callee_v | exact callee_fn | assumption) rcA raA rfl (by first | ((repeat' (first | exact SubH.refl _ | apply SubH.cons | exact Pick.here | apply Pick.there)); all_goals fail) | fail) (fun _ _ => trivial) ?_)
  rintro r h ⟨rb, f, go, hR, rfl, rfl⟩
  simp only [List.cons_append, List.nil_append]
  cases hR with
  | no hp hn3 =>
    repeat (first | refine awp_seq ?_ | refine awp_region_lit rfl ?_ | refine awp_skip ?_ | with_reducible refine then_n ?_ | refine awp_cond_f rfl (by first | rfl | assumption | exact dF (by omega)) ?_ | (show AWL _ _ _ (⟨_, .move _, _, _, _, _⟩ :: _) _ _ _; refine awl_pw (wt_none rfl) (pv_move rfl rfl) rfl rfl ?_) | (show AWL _ _ _ (⟨_, .assign _, _, _, _, _⟩ :: _) _ _ _; refine awl_pw (wt_none rfl) (pv_assign rfl rfl) rfl rfl ?_) | (show AWL _ _ _ (⟨_, .binOp .add _ _ _ _, _, _, _, _⟩ :: _) _ _ _; refine awl_pw (wt_none rfl) (pv_add rfl rfl rfl (by first | assumption | exact wr64 (by omega))) rfl rfl ?_) | (show AWL _ _ _ (⟨_, .extract _ _, _, _, _, _⟩ :: _) _ _ _; refine awl_pw (wt_none rfl) (pv_extract rfl rfl rfl) rfl rfl ?_) | refine awl_nil ?_)
    refine rnd_n _ _ _ ?_ ⟨k + 1, by omega, rfl, fun g hg hs => ?_, rfl, rfl⟩ ssA rcA
    · omega
    · by_cases c : remS ds g ds.length 0 < k
      · exact hno g hg c
      · exact hn3 g ⟨fun j hj => absurd hj (Nat.not_lt_zero _), fun j _ h2 => hg j h2⟩ (by omega)
  | yes hF hs hO =>
    repeat (first | refine awp_seq ?_ | refine awp_region_lit rfl ?_ | refine awp_ret ?_ | with_reducible refine then_n ?_ | with_reducible refine then_r ?_ | with_reducible refine blk_r ?_ | refine rnd_r ?_ | refine awp_cond_t rfl (by first | rfl | assumption | exact dT (by omega)) ?_ | (show AWL _ _ _ (⟨_, .move _, _, _, _, _⟩ :: _) _ _ _; refine awl_pw (wt_none rfl) (pv_move rfl rfl) rfl rfl ?_) | (show AWL _ _ _ (⟨_, .assign _, _, _, _, _⟩ :: _) _ _ _; refine awl_pw (wt_none rfl) (pv_assign rfl rfl) rfl rfl ?_) | (show AWL _ _ _ (⟨_, .extract _ _, _, _, _, _⟩ :: _) _ _ _; refine awl_pw (wt_none rfl) (pv_extract rfl rfl rfl) rfl rfl ?_) | refine awl_nil ?_)
    refine bodyQ_ghost (ghost_freeze (d := 6) (v := .slice (some ⟨go, 0, none⟩) ds.length ds.length) (E := 3) (sz := 1) (n := ds.length) (rows := fRows f ds.length) (fun q => [.sc (.int .i64 ((R.digL f ds.length).getD q 0))]) rcA rfl (fRows_len _ _) (fRows_tree rfl)) ?_
    have eT : intsT true (R.digL f ds.length) = Tr.sl true 1 ds.length (fun k => [.sc (.int .i64 ((R.digL f ds.length).getD k 0))]) := by
      have : (R.digL f ds.length).length = ds.length := by simp [R.digL]
      show Tr.sl true 1 (R.digL f ds.length).length _ = _
      rw [this]
    refine body_r (h' := []) (.cons rfl (.cons rfl (.cons rfl .nil))) rcA ⟨⟨f, k, ⟨fun j hj => hF.bd j (Nat.zero_le _) hj, hs, hO, fun g hg hgo => ?_⟩, ?_⟩, rfl⟩
    · cases Decidable.em ((k : Int) ≤ remS ds g ds.length 0) with
      | inl h => exact h
      | inr h => exact absurd hgo (hno g hg (by omega))
    · rw [eT]
      rfl
section
variable {g2 g8 : Nat} {cs cl cd : Bool} {hn : Nat} {ds : List DueD}
theorem bf_7 (hv : VDue hn ds) {ops : Array Oper} (h : regF Try.f25 7 = some ops) :
    AWP Try.prog Try.f25.ntmps none (.region 7 ops true) (cutQ (fun s h => ∃ f B, BestD hn ds f B ∧ s = [(4, .t (intsT true (R.digL f ds.length))), (5, intA B)] ∧ h = []))
      [(2, .v (ptrV g2)), (8, .v (ptrV g8))] [.cl g2 109 (ledC cs cl cd hn ds), .cl g8 171 [intA 0, intA 0, intA 0, intA 0]] := by
  cases h
  refine awp_tree T0 [(0, 1), (2, 1), (1, 2), (3, 3), (4, 0), (5, 0), (6, 0), (7, 0), (8, 0), (9, 0)] (.op 0 1 (.op 2 1 (.op 1 2 (.op 3 3 (.op 4 0 (.op 5 0 (.op 6 0 (.op 7 0 (.op 8 0 (.op 9 0 .stop)))))))))) [.cl g2 _ _, .cl g8 _ _] rfl (by kernel_rfl) rcA ?_
  refine awt_lo rfl (wt_none rfl) (lv_cla T0 rfl rfl rfl rcA rfl) rfl rfl rfl ?_
  refine awt_lo rfl (wt_none rfl) (lv_cla T0 rfl rfl rfl rcA rfl) rfl rfl rfl ?_
  refine awt_h (hm := _) rfl (wt_none rfl) ?sub rfl (st_acall T0 (work_o cs cl cd hn ds) rfl rfl rfl rfl (by first | exact callee_lit | exact callee_v | exact callee_fn | assumption) rcA raA rfl (by first | ((repeat' (first | exact SubH.refl _ | apply SubH.cons | exact Pick.here | apply Pick.there)); all_goals fail) | fail) (fun b hb => hb) ?_)
  case sub => exact rcA
  rintro r h' ⟨gw, gm, rfl, rfl⟩
  refine awt_s (md := fun _ => True) rfl (wt_none rfl) (st_acall T0 (best_o gw gm cs cl cd hn ds hv) rfl rfl rfl rfl (by first | exact callee_lit | exact callee_v | exact callee_fn | assumption) rcA raA rfl (by first | ((repeat' (first | exact SubH.refl _ | apply SubH.cons | exact Pick.here | apply Pick.there)); all_goals fail) | fail) (fun _ _ => trivial) ?_)
  rintro r h' ⟨⟨f, B, hB, rfl⟩, rfl⟩
  refine awe_p rfl (wt_none rfl) (pv_move rfl rfl) rfl rfl ?_
  refine awe_p rfl (wt_none rfl) (pv_extract rfl rfl rfl) rfl rfl ?_
  refine awe_p rfl (wt_none rfl) (pv_extract rfl rfl rfl) rfl rfl ?_
  refine awe_p rfl (wt_none rfl) (pv_extract rfl rfl rfl) rfl rfl ?_
  refine awe_p rfl (wt_none rfl) (pv_assign rfl rfl) rfl rfl ?_
  refine awe_p rfl (wt_none rfl) (pv_assign rfl rfl) rfl rfl ?_
  refine awe_end ?_
  exact cut_n ⟨f, B, hB, rfl, rfl⟩ ssA rcA
end
theorem best_p (cs cl cd ch : Bool) (hn : Nat) (ds : List DueD) (hv : VDue hn ds) : PCall Try.prog 25 [ledA cs cl cd hn ds, .t (.sl ch 1 hn (fun k => [Tr.sc (.int .i64 ((List.replicate hn (0 : Int)).getD k 0))]))] (fun r => ∃ f B, BestD hn ds f B ∧ r = .tup [.t (intsT true (R.digL f ds.length)), intA B, intA 0]) := by
  refine acall_of_awp T0 Try.func25 rfl rfl rfl ?_
  repeat (first | refine awp_seq ?_ | refine awp_region_lit rfl ?_)
  refine awl_hw (wt_none rfl) (st_box rfl rfl raA (by first | assumption | (simp only [cellsA]; rfl)) rfl rfl ?_)
  intro g2
  repeat (first | refine awp_seq ?_ | refine awp_region_lit rfl ?_ | (show AWL _ _ _ (⟨_, .assign _, _, _, _, _⟩ :: _) _ _ _; refine awl_pw (wt_none rfl) (pv_assign rfl rfl) rfl rfl ?_) | (show AWL _ _ _ (⟨_, .load _ _, _, _, _, _⟩ :: _) _ _ _; refine awl_lw (wt_none rfl) (lv_cla T0 rfl rfl rfl rcA rfl) rfl rfl rfl ?_) | refine awl_nil ?_)
  refine awl_hw (wt_none rfl) (st_call T0 (ledger_p cs cl cd hn ds hv.h hv.len (vdue_all hv)) rfl rfl rfl rfl (by first | exact callee_lit | exact callee_v | exact callee_fn | assumption) rcA raA rfl ?_)
  rintro _ rfl
  repeat (first | refine awp_seq ?_ | refine awp_region_lit rfl ?_ | refine awp_skip ?_ | with_reducible refine then_n ?_ | refine awp_cond_f rfl (by first | rfl | assumption | exact dF (by omega)) ?_ | (show AWL _ _ _ (⟨_, .move _, _, _, _, _⟩ :: _) _ _ _; refine awl_pw (wt_none rfl) (pv_move rfl rfl) rfl rfl ?_) | (show AWL _ _ _ (⟨_, .assign _, _, _, _, _⟩ :: _) _ _ _; refine awl_pw (wt_none rfl) (pv_assign rfl rfl) rfl rfl ?_) | (show AWL _ _ _ (⟨_, .load _ _, _, _, _, _⟩ :: _) _ _ _; refine awl_lw (wt_none rfl) (lv_cla T0 rfl rfl rfl rcA rfl) rfl rfl rfl ?_) | (show AWL _ _ _ (⟨_, .binOp .neq _ _ _ _, _, _, _, _⟩ :: _) _ _ _; refine awl_pw (wt_none rfl) (pv_neq rfl rfl rfl) rfl rfl ?_) | refine awl_nil ?_)
  refine awl_hw (wt_none rfl) (st_call T0 (handOf_p cs cl cd ch hn ds hv.h) rfl rfl rfl rfl (by first | exact callee_lit | exact callee_v | exact callee_fn | assumption) rcA raA rfl ?_)
  rintro _ rfl
  repeat (first | (show AWL _ _ _ (⟨_, .move _, _, _, _, _⟩ :: _) _ _ _; refine awl_pw (wt_none rfl) (pv_move rfl rfl) rfl rfl ?_) | (show AWL _ _ _ (⟨_, .extract _ _, _, _, _, _⟩ :: _) _ _ _; refine awl_pw (wt_none rfl) (pv_extract rfl rfl rfl) rfl rfl ?_))
  refine awl_hw (wt_none rfl) (st_alloc T0 rfl rfl rfl rfl scA ?_)
  intro g8
  repeat (first | refine awp_seq ?_ | refine awp_region_lit rfl ?_ | refine awp_skip ?_ | with_reducible refine then_n ?_ | refine awp_cond_f rfl (by first | rfl | assumption | exact dF (by omega)) ?_ | (show AWL _ _ _ (⟨_, .move _, _, _, _, _⟩ :: _) _ _ _; refine awl_pw (wt_none rfl) (pv_move rfl rfl) rfl rfl ?_) | (show AWL _ _ _ (⟨_, .assign _, _, _, _, _⟩ :: _) _ _ _; refine awl_pw (wt_none rfl) (pv_assign rfl rfl) rfl rfl ?_) | (show AWL _ _ _ (⟨_, .unOp .not _ _, _, _, _, _⟩ :: _) _ _ _; refine awl_pw (wt_none rfl) (pv_not rfl rfl) rfl rfl ?_) | (show AWL _ _ _ (⟨_, .store _ _ _, _, _, _, _⟩ :: _) _ _ _; refine awl_hw (wt_none rfl) (st_store T0 rfl rfl rfl rfl rfl (by first | assumption | (simp only [cellsA]; rfl)) rfl rfl rfl rcA rcA trivial ?_)) | refine awl_nil ?_)
  refine awp_cut _ (awp_weak ssA rcA (bf_7 (g2 := g2) (g8 := g8) (cs := cs) (cl := cl) (cd := cd) (hn := hn) (ds := ds) hv rfl)) ?_
  rintro s h ⟨f, B, hB, rfl, rfl⟩
  repeat (first | refine awp_seq ?_ | refine awp_region_lit rfl ?_ | refine awp_ret ?_ | (show AWL _ _ _ (⟨_, .move _, _, _, _, _⟩ :: _) _ _ _; refine awl_pw (wt_none rfl) (pv_move rfl rfl) rfl rfl ?_) | (show AWL _ _ _ (⟨_, .assign _, _, _, _, _⟩ :: _) _ _ _; refine awl_pw (wt_none rfl) (pv_assign rfl rfl) rfl rfl ?_) | refine awl_nil ?_)
  exact body_p (.cons rfl (.cons rfl (.cons rfl .nil))) ⟨f, B, hB, rfl⟩
end Go.Proofs.Ytlpknbneilgjkaa.S
end
section
section
namespace Go.Tl
open Go Go.RowKit
end Go.Tl
namespace Go.Proofs.Ytlpknbneilgjkaa.R
open Go Go.RowKit Go.Tl
set_option linter.unusedVariables false
set_option linter.unusedSimpArgs false
set_option maxRecDepth 100000
set_option maxHeartbeats 4000000
def posN (f : Nat → Int) : Nat → Nat
  | 0 => 0
  | k + 1 => posN f k + if 0 < f k then 1 else 0
theorem pos_le {f g : Nat → Int} : ∀ k, (∀ i, i < k → g i ≤ f i) → posN g k ≤ posN f k
  | 0, _ => Nat.le_refl _
  | k + 1, h => by
    have ih := pos_le k (fun i hi => h i (by omega))
    have := h k (Nat.lt_succ_self _)
    simp only [posN]
    split <;> split <;> omega
theorem pos_lt {f g : Nat → Int} {j : Nat} (hf : 0 < f j) (hg : g j ≤ 0) : ∀ k, j < k → (∀ i, i < k → g i ≤ f i) → posN g k + 1 ≤ posN f k
  | 0, h, _ => absurd h (Nat.not_lt_zero _)
  | k + 1, hj, h => by
    simp only [posN]
    by_cases e : j = k
    · subst e
      have := pos_le j (fun i hi => h i (by omega))
      rw [if_neg (by omega), if_pos hf]
      omega
    · have ih := pos_lt hf hg k (by omega) (fun i hi => h i (by omega))
      have := h k (Nat.lt_succ_self _)
      split <;> split <;> omega
attribute [local irreducible] AWP AWL AOp PV LV AWT AWE
section
variable {f g : Nat → Int} {n j g10 ga k : Nat} {x : Int} {u1 u9 u7 u50 u51 u52 u35 u36 u37 v0 : AV} {rest : List Ent}
end
end Go.Proofs.Ytlpknbneilgjkaa.R
end
section
namespace Go.Proofs.Ytlpknbneilgjkaa.R
open Go Go.RowKit Go.Tl
set_option linter.unusedVariables false
set_option linter.unusedSimpArgs false
set_option maxRecDepth 100000
set_option maxHeartbeats 4000000
attribute [local irreducible] AWP AWL AOp PV LV AWT AWE
end Go.Proofs.Ytlpknbneilgjkaa.R
end
end
section
namespace Go.Proofs.Ytlpknbneilgjkaa.R
open Go Go.RowKit Go.Tl
set_option linter.unusedVariables false
set_option linter.unusedSimpArgs false
set_option maxRecDepth 100000
set_option maxHeartbeats 4000000
theorem gr_off_le {b : BookD} (hv : VBook b) {o h l : List Int} (hG : GrFacts b o h) (hl : offB b l = true) : sumI l ≤ sumI o := by
  obtain ⟨F, _, _, hF⟩ := hG.ex
  obtain ⟨h1, h2⟩ := (offB_iff hv).1 hl
  have := weak_dual hv h2 F
  rw [sumI_getD, h1]
  omega
attribute [local irreducible] AWP AWL AOp PV LV AWT AWE
section
variable {b : BookD} {ws : List Int} {g4 : Nat} {u12 : AV} {rest : List Ent}
end
end Go.Proofs.Ytlpknbneilgjkaa.R
end
section
namespace Go.Proofs.Ytlpknbneilgjkaa.R
open Go Go.RowKit Go.Tl
set_option linter.unusedVariables false
set_option linter.unusedSimpArgs false
structure DelF (b : BookD) (cap f : Nat → Int) : Prop where
  bd : ∀ i, i < b.cons.length → 0 ≤ f i ∧ f i ≤ cap i
  net : ∀ h, accN b.cons f b.cons.length h = accN b.cons (numF b) b.cons.length h
def capS (b : BookD) (S : Nat → Bool) (i : Nat) : Int := if S i then numF b i else 0
def indZ (Z : Nat → Bool) (v : Nat) : Int := if Z v then 1 else 0
def needF (b : BookD) (Z : Nat → Bool) : Nat → Int
  | 0 => 0
  | h + 1 => needF b Z h + if Z h then accN b.cons (numF b) b.cons.length h else 0
def canF (b : BookD) (S Z : Nat → Bool) : Nat → Int
  | 0 => 0
  | i + 1 => canF b S Z i + if S i && (Z (b.cons.getD i default).to.toNat && !(Z (b.cons.getD i default).frm.toNat)) then numF b i else 0
def EnoughS (b : BookD) (S : Nat → Bool) : Prop := ∀ set, set < 2 ^ b.houses.toNat → needF b (fun v => set.testBit v) b.houses.toNat ≤ canF b S (fun v => set.testBit v) b.cons.length
theorem need_sum (b : BookD) (Z : Nat → Bool) : ∀ k, needF b Z k = sumR k (fun h => indZ Z h * accN b.cons (numF b) b.cons.length h)
  | 0 => rfl
  | k + 1 => by
    rw [sumR_succ, ← need_sum b Z k]
    simp only [needF, indZ]
    split <;> simp
theorem need_congr {b : BookD} {Z Z' : Nat → Bool} : ∀ {k : Nat}, (∀ v, v < k → Z v = Z' v) → needF b Z k = needF b Z' k
  | 0, _ => rfl
  | k + 1, h => by simp only [needF]; rw [need_congr (k := k) (fun v hv => h v (by omega)), h k (Nat.lt_succ_self _)]
theorem can_congr {b : BookD} (hv : VBook b) {S S' Z Z' : Nat → Bool} (hZ : ∀ v, v < b.houses.toNat → Z v = Z' v) : ∀ {k : Nat}, k ≤ b.cons.length → (∀ i, i < k → S i = S' i) → canF b S Z k = canF b S' Z' k
  | 0, _, _ => rfl
  | k + 1, hk, h => by
    have hf := hv.frm k (by omega)
    have ht := hv.to k (by omega)
    simp only [canF]
    rw [can_congr hv hZ (k := k) (by omega) (fun v hv => h v (by omega)), h k (Nat.lt_succ_self _), hZ _ (show (b.cons.getD k default).to.toNat < b.houses.toNat by omega), hZ _ (show (b.cons.getD k default).frm.toNat < b.houses.toNat by omega)]
theorem enough_congr {b : BookD} (hv : VBook b) {S S' : Nat → Bool} (h : ∀ i, i < b.cons.length → S i = S' i) (hE : EnoughS b S) : EnoughS b S' := fun set hs => by
  rw [← can_congr hv (Z := fun v => set.testBit v) (fun _ _ => rfl) (Nat.le_refl _) h]
  exact hE set hs
theorem enough_of {b : BookD} (hv : VBook b) {S : Nat → Bool} {f : Nat → Int} (h : DelF b (capS b S) f) : EnoughS b S := fun set _ => by
  generalize (fun v => set.testBit v) = Z
  have h1 := wsum hv f (indZ Z) b.cons.length (Nat.le_refl _)
  rw [need_sum]
  have h2 : (fun h : Nat => indZ Z h * accN b.cons (numF b) b.cons.length h) = fun v => indZ Z v * accN b.cons f b.cons.length v := by funext v; rw [h.net]
  rw [h2, ← h1]
  have : ∀ k, k ≤ b.cons.length → sumR k (fun i => f i * (indZ Z (b.cons.getD i default).to.toNat - indZ Z (b.cons.getD i default).frm.toNat)) ≤ canF b S Z k := fun k => by
    induction k with
    | zero => intro _; exact Int.le_refl _
    | succ k ih =>
      intro hk
      have ih := ih (by omega)
      have hb := h.bd k (by omega)
      have key : f k * (indZ Z (b.cons.getD k default).to.toNat - indZ Z (b.cons.getD k default).frm.toNat) ≤ if S k && (Z (b.cons.getD k default).to.toNat && !(Z (b.cons.getD k default).frm.toNat)) then numF b k else 0 := by
        unfold capS at hb
        unfold indZ
        cases Z (b.cons.getD k default).to.toNat <;> cases Z (b.cons.getD k default).frm.toNat <;> cases hS : S k <;> simp [hS] at hb ⊢ <;> omega
      rw [sumR_succ]
      simp only [canF]
      omega
  exact this _ (Nat.le_refl _)
theorem set_ex (Z : Nat → Bool) : ∀ H, ∃ set, set < 2 ^ H ∧ ∀ v, v < H → set.testBit v = Z v
  | 0 => ⟨0, by simp, fun v hv => absurd hv (Nat.not_lt_zero _)⟩
  | H + 1 => by
    obtain ⟨s, hs, h⟩ := set_ex Z H
    have hp : 2 ^ (H + 1) = 2 ^ H + 2 ^ H := by rw [Nat.pow_succ]; omega
    cases e : Z H
    · refine ⟨s, by omega, fun v hv => ?_⟩
      by_cases c : v = H
      · subst c; rw [e]; exact Nat.testBit_lt_two_pow hs
      · exact h v (by omega)
    · refine ⟨2 ^ H + s, by omega, fun v hv => ?_⟩
      by_cases c : v = H
      · subst c; rw [e, Nat.testBit_two_pow_add_eq, Nat.testBit_lt_two_pow hs]; rfl
      · rw [Nat.testBit_two_pow_add_gt (by omega)]; exact h v (by omega)
theorem cut_not {b : BookD} (hv : VBook b) {S Z : Nat → Bool} {f nd : Nat → Int} (hbd : ∀ i, i < b.cons.length → 0 ≤ f i ∧ f i ≤ capS b S i)
    (hnd : ∀ h, h < b.houses.toNat → nd h + accN b.cons f b.cons.length h = accN b.cons (numF b) b.cons.length h)
    (hout : ∀ i, i < b.cons.length → Z (b.cons.getD i default).frm.toNat = true → Z (b.cons.getD i default).to.toNat = false → f i = capS b S i)
    (hin : ∀ i, i < b.cons.length → Z (b.cons.getD i default).to.toNat = true → Z (b.cons.getD i default).frm.toNat = false → f i = 0)
    (hle : ∀ h, h < b.houses.toNat → Z h = true → nd h ≤ 0) {h0 : Nat} (hh0 : h0 < b.houses.toNat) (hz0 : Z h0 = true) (hlt : nd h0 < 0) : ¬ EnoughS b S := fun hE => by
  obtain ⟨set, hs, hset⟩ := set_ex (fun v => !Z v) b.houses.toNat
  have h1 := hE set hs
  rw [need_congr hset, can_congr hv hset (Nat.le_refl _) (fun _ _ => rfl)] at h1
  have h2 := wsum hv f (indZ fun v => !Z v) b.cons.length (Nat.le_refl _)
  have h3 : ∀ k, k ≤ b.cons.length → sumR k (fun i => f i * (indZ (fun v => !Z v) (b.cons.getD i default).to.toNat - indZ (fun v => !Z v) (b.cons.getD i default).frm.toNat)) = canF b S (fun v => !Z v) k := fun k => by
    induction k with
    | zero => intro _; rfl
    | succ k ih =>
      intro hk
      have ih := ih (by omega)
      have ho := hout k (by omega)
      have hi := hin k (by omega)
      rw [sumR_succ, ih]
      simp only [canF]
      congr 1
      unfold capS at ho
      unfold indZ
      show f k * ((if (!Z (b.cons.getD k default).to.toNat) = true then (1 : Int) else 0) - if (!Z (b.cons.getD k default).frm.toNat) = true then 1 else 0) = if (S k && (!Z (b.cons.getD k default).to.toNat && !!Z (b.cons.getD k default).frm.toNat)) = true then numF b k else 0
      generalize Z (b.cons.getD k default).to.toNat = z1 at *
      generalize Z (b.cons.getD k default).frm.toNat = z2 at *
      generalize numF b k = w at *
      generalize f k = y at *
      generalize S k = sk at *
      cases z1 <;> cases z2 <;> cases sk <;> simp at ho hi ⊢ <;> omega
  rw [h3 _ (Nat.le_refl _)] at h2
  rw [h2, need_sum] at h1
  have h4 : sumR b.houses.toNat (fun h => indZ (fun v => !Z v) h * accN b.cons (numF b) b.cons.length h) = sumR b.houses.toNat (fun h => indZ (fun v => !Z v) h * nd h) + sumR b.houses.toNat (fun h => indZ (fun v => !Z v) h * accN b.cons f b.cons.length h) := by
    rw [← sumR_add]
    refine sumR_congr fun h hh => ?_
    rw [← hnd h hh, Int.mul_add]
  have h5 : sumR b.houses.toNat nd = 0 := by
    have e1 := acc_sum hv f b.cons.length (Nat.le_refl _)
    have e2 := acc_sum hv (numF b) b.cons.length (Nat.le_refl _)
    have e3 : sumR b.houses.toNat (fun h => nd h + accN b.cons f b.cons.length h) = sumR b.houses.toNat (fun h => accN b.cons (numF b) b.cons.length h) := sumR_congr fun h hh => hnd h hh
    rw [sumR_add, e1, e2] at e3
    have : sumR b.houses.toNat (fun h => nd h) = sumR b.houses.toNat nd := rfl
    omega
  have h6 : ∀ k, k ≤ b.houses.toNat → sumR k nd + (if h0 < k then 1 else 0) ≤ sumR k (fun h => indZ (fun v => !Z v) h * nd h) := fun k => by
    induction k with
    | zero => intro _; exact Int.le_refl _
    | succ k ih =>
      intro hk
      have ih := ih (by omega)
      have hl := hle k (by omega)
      rw [sumR_succ, sumR_succ]
      have e1 : indZ (fun v => !Z v) k * nd k = if Z k then 0 else nd k := by unfold indZ; show (if (!Z k) = true then (1 : Int) else 0) * nd k = _; cases Z k <;> simp
      rw [e1]
      by_cases c : h0 = k
      · subst c
        rw [hz0, if_pos rfl, if_pos (Nat.lt_succ_self _)]
        rw [if_neg (Nat.lt_irrefl _)] at ih
        omega
      · by_cases c2 : h0 < k
        · rw [if_pos c2] at ih
          rw [if_pos (by omega)]
          cases e : Z k
          · simp; omega
          · have := hl e; simp; omega
        · rw [if_neg c2] at ih
          rw [if_neg (by omega)]
          cases e : Z k
          · simp; omega
          · have := hl e; simp; omega
  have h7 := h6 b.houses.toNat (Nat.le_refl _)
  rw [if_pos hh0] at h7
  omega
theorem del_full {b : BookD} (hv : VBook b) {S : Nat → Bool} (hS : ∀ i, i < b.cons.length → S i = true) : DelF b (capS b S) (numF b) :=
  ⟨fun i hi => by have := hv.num i hi; unfold capS; rw [hS i hi, if_pos rfl]; unfold numF; omega, fun _ => rfl⟩
end Go.Proofs.Ytlpknbneilgjkaa.R
end
section
namespace Go.Proofs.Ytlpknbneilgjkaa.R
open Go Go.RowKit Go.Tl
set_option linter.unusedVariables false
set_option linter.unusedSimpArgs false
def Ext (n : Int) (e : List Int) (fr : Int) : Prop := (∀ x ∈ e, fr ≤ x ∧ x < n) ∧ e.Pairwise (· < ·)
theorem ext_iff {n : Int} {e : List Int} {fr : Int} : Ext n e fr ↔ (∀ x ∈ e, fr ≤ x ∧ x < n) ∧ e.Pairwise (· < ·) := Iff.rfl
theorem ext_nil {n fr : Int} : Ext n [] fr := ⟨(fun x hx => by cases hx), List.Pairwise.nil⟩
theorem ext_cons {n y fr : Int} {e : List Int} : Ext n (y :: e) fr ↔ fr ≤ y ∧ y < n ∧ Ext n e (y + 1) := by
  simp only [Ext, List.pairwise_cons, List.mem_cons, forall_eq_or_imp]
  constructor
  · rintro ⟨⟨⟨h1, h2⟩, h3⟩, h4, h5⟩
    exact ⟨h1, h2, fun x hx => by have := h3 x hx; have := h4 x hx; omega, h5⟩
  · rintro ⟨h1, h2, h3, h4⟩
    exact ⟨⟨⟨h1, h2⟩, fun x hx => by have := h3 x hx; omega⟩, fun x hx => by have := h3 x hx; omega, h4⟩
def lexL : List Int → List Int → Prop
  | x :: a, y :: c => x < y ∨ (x = y ∧ lexL a c)
  | _, _ => False
def lessL (a c : List Int) : Prop := a.length < c.length ∨ (a.length = c.length ∧ lexL a c)
def inL (e : List Int) (i : Nat) : Bool := e.contains (i : Int)
theorem inL_iff {e : List Int} {i : Nat} : inL e i = true ↔ (i : Int) ∈ e := by unfold inL; simp
def EnL (b : BookD) (e : List Int) : Prop := EnoughS b (inL e)
structure MinS (b : BookD) (s : List Int) : Prop where
  ext : Ext b.cons.length s 0
  en : EnL b s
  min : ∀ e, Ext b.cons.length e 0 → EnL b e → ¬ lessL e s
def bitsL (m : Nat) : Nat → List Int
  | 0 => []
  | k + 1 => bitsL m k ++ if m.testBit k then [(k : Int)] else []
theorem bits_mem {m : Nat} {x : Int} : ∀ {k : Nat}, x ∈ bitsL m k ↔ ∃ i : Nat, x = i ∧ i < k ∧ m.testBit i = true
  | 0 => ⟨(fun h => by cases h), (fun ⟨i, _, h, _⟩ => absurd h (Nat.not_lt_zero _))⟩
  | k + 1 => by
    simp only [bitsL, List.mem_append, bits_mem (k := k)]
    constructor
    · rintro (⟨i, h1, h2, h3⟩ | h)
      · exact ⟨i, h1, by omega, h3⟩
      · split at h
        · rename_i e
          exact ⟨k, List.mem_singleton.1 h, Nat.lt_succ_self _, e⟩
        · cases h
    · rintro ⟨i, h1, h2, h3⟩
      by_cases c : i = k
      · subst c
        right
        rw [if_pos h3]
        exact List.mem_singleton.2 h1
      · exact .inl ⟨i, h1, by omega, h3⟩
theorem bits_asc (m : Nat) : ∀ k, (bitsL m k).Pairwise (· < ·)
  | 0 => .nil
  | k + 1 => by
    simp only [bitsL]
    rw [List.pairwise_append]
    refine ⟨bits_asc m k, by split <;> simp, fun x hx y hy => ?_⟩
    obtain ⟨i, h1, h2, _⟩ := bits_mem.1 hx
    split at hy
    · have := List.mem_singleton.1 hy; omega
    · cases hy
theorem test_lt {m n i : Nat} (hm : m < 2 ^ n) (h : m.testBit i = true) : i < n := by
  refine Classical.byContradiction fun hn => ?_
  have : m.testBit i = false := Nat.testBit_lt_two_pow (Nat.lt_of_lt_of_le hm (Nat.pow_le_pow_right (by omega) (by omega)))
  rw [this] at h
  cases h
theorem bits_ext {m n : Nat} (hm : m < 2 ^ n) (hn : n ≤ 16) : Ext n (bitsL m 16) 0 := by
  refine ext_iff.2 ⟨fun x hx => ?_, bits_asc m 16⟩
  obtain ⟨i, h1, _, h3⟩ := bits_mem.1 hx
  have := test_lt hm h3
  omega
theorem bits_in {m n : Nat} (hm : m < 2 ^ n) (hn : n ≤ 16) (i : Nat) : inL (bitsL m 16) i = m.testBit i := by
  cases e : m.testBit i
  · cases e2 : inL (bitsL m 16) i
    · rfl
    · obtain ⟨j, h1, _, h3⟩ := bits_mem.1 (inL_iff.1 e2)
      obtain rfl : i = j := by omega
      rw [e] at h3; cases h3
  · exact inL_iff.2 (bits_mem.2 ⟨i, rfl, by have := test_lt hm e; omega, e⟩)
theorem enL_bits {b : BookD} (hv : VBook b) {m : Nat} (hm : m < 2 ^ b.cons.length) : EnL b (bitsL m 16) ↔ EnoughS b (fun i => m.testBit i) := by
  have hl := hv.len
  exact ⟨fun h => enough_congr hv (fun i _ => bits_in hm (by omega) i) h, fun h => enough_congr hv (fun i _ => (bits_in hm (by omega) i).symm) h⟩
end Go.Proofs.Ytlpknbneilgjkaa.R
end
