/- Bringing shares to houses that need them: plain, and the drawn regions of bring's walk. -/
import Derived.Test.YtlpknbneilgjkaaZnRDb
import Derived.Test.YtlpknbneilgjkaaZnRGSd
import Derived.Test.YtlpknbneilgjkaaZnGTs
import Derived.Test.YtlpknbneilgjkaaZnRFr
namespace Go.Proofs.Ytlpknbneilgjkaa.R
open Go Go.RowKit Go.Tl
set_option linter.unusedVariables false
set_option linter.unusedSimpArgs false
set_option maxRecDepth 100000
set_option maxHeartbeats 4000000
def bRows (Z : Nat → Bool) (n : Nat) : List (List AV) := (List.range n).map fun v => [boolA (Z v)]
theorem bRows_len (Z : Nat → Bool) (n : Nat) : (bRows Z n).length = n := by simp [bRows]
theorem bRows_at {Z : Nat → Bool} {n v : Nat} (h : v < n) : ((bRows Z n).getD v [])[0]? = some (boolA (Z v)) := by
  simp [bRows, List.getD_eq_getElem?_getD, h]
theorem bRows_set {Z Z' : Nat → Bool} {n v : Nat} {x : Bool} (h : v < n) (hZ : ∀ q, q < n → Z' q = if q = v then x else Z q) : (bRows Z n).set v (spA ((bRows Z n).getD v []) 0 [boolA x]) = bRows Z' n := by
  refine List.ext_getElem (by simp [bRows]) fun i h1 h2 => ?_
  simp [bRows] at h1 h2
  have hi := hZ i h2
  by_cases c : v = i
  · subst c
    rw [if_pos rfl] at hi
    simp [bRows, List.getD_eq_getElem?_getD, h, spA, hi]
  · rw [if_neg (fun e => c e.symm)] at hi
    simp [bRows, List.getElem_set, c, hi]
def unF (Z : Nat → Bool) (v : Nat) : Int := if Z v then 0 else 1
inductive BrPost (b : BookD) (cap : Nat → Int) (at' : Nat) (most : Int) (Z : Nat → Bool) (nd f : Nat → Int) : Int → (Nat → Bool) → (Nat → Int) → (Nat → Int) → Prop
  | none {Z' : Nat → Bool} (hsub : ∀ v, Z v = true → Z' v = true) (hat : Z' at' = true)
      (hcl : ∀ v, v < b.houses.toNat → Z' v = true → Z v = false → nd v ≤ 0 ∧ ∀ a : Arc, a.1 < b.cons.length → 0 < fL cap f a → aF b a = v → Z' (aT b a) = true) : BrPost b cap at' most Z nd f 0 Z' nd f
  | some {n : Int} {Z' : Nat → Bool} {nd' f' : Nat → Int} (hn : 1 ≤ n ∧ n ≤ most) (hbd : ∀ i, i < b.cons.length → 0 ≤ f' i ∧ f' i ≤ cap i)
      (hsum : ∀ v, nd' v + accN b.cons f' b.cons.length v = nd v + accN b.cons f b.cons.length v - if at' = v then n else 0)
      (hnd : ∀ v, nd' v ≤ nd v ∧ (nd' v = nd v ∨ 0 ≤ nd' v))
      (hkeep : ∀ i, i < b.cons.length → (Z (b.cons.getD i default).frm.toNat = true ∨ Z (b.cons.getD i default).to.toNat = true) → f' i = f i) : BrPost b cap at' most Z nd f n Z' nd' f'
structure BrMid (b : BookD) (cap : Nat → Int) (at' : Nat) (Z : Nat → Bool) (nd f : Nat → Int) (l : List Arc) (Z' : Nat → Bool) : Prop where
  sub : ∀ v, Z v = true → Z' v = true
  hat : Z' at' = true
  cl : ∀ v, v < b.houses.toNat → Z' v = true → Z v = false → v ≠ at' → nd v ≤ 0 ∧ ∀ a : Arc, a.1 < b.cons.length → 0 < fL cap f a → aF b a = v → Z' (aT b a) = true
  arc : ∀ a ∈ l, aF b a = at' → Z' (aT b a) = true
theorem mid_nil {b : BookD} {cap : Nat → Int} {at' : Nat} {Z : Nat → Bool} {nd f : Nat → Int} : BrMid b cap at' Z nd f [] (fun v => if v = at' then true else Z v) := by
  refine ⟨fun v h => ?_, if_pos rfl, fun v _ h1 h2 h3 => ?_, fun a ha => by cases ha⟩
  · show (if v = at' then true else Z v) = true
    split
    · rfl
    · exact h
  · have h1' : (if v = at' then true else Z v) = true := h1
    rw [if_neg h3, h2] at h1'
    cases h1'
theorem mid_skip {b : BookD} {cap : Nat → Int} {at' : Nat} {Z Z' : Nat → Bool} {nd f : Nat → Int} {l : List Arc} {a : Arc} (h : BrMid b cap at' Z nd f l Z') (ha : aF b a = at' → Z' (aT b a) = true) : BrMid b cap at' Z nd f (l ++ [a]) Z' :=
  ⟨h.sub, h.hat, h.cl, fun a' h' => by
    rcases List.mem_append.1 h' with h' | h'
    · exact h.arc a' h'
    · rw [List.mem_singleton.1 h']; exact ha⟩
theorem mid_none {b : BookD} {cap : Nat → Int} {at' : Nat} {Z Z' Z'' : Nat → Bool} {nd f : Nat → Int} {l : List Arc} {a : Arc} (h : BrMid b cap at' Z nd f l Z') (hsub : ∀ v, Z' v = true → Z'' v = true) (hat : Z'' (aT b a) = true)
    (hcl : ∀ v, v < b.houses.toNat → Z'' v = true → Z' v = false → nd v ≤ 0 ∧ ∀ a : Arc, a.1 < b.cons.length → 0 < fL cap f a → aF b a = v → Z'' (aT b a) = true) : BrMid b cap at' Z nd f (l ++ [a]) Z'' := by
  refine ⟨fun v hv => hsub v (h.sub v hv), hsub _ h.hat, fun v hv h1 h2 h3 => ?_, fun a' h' e => ?_⟩
  · cases c : Z' v
    · exact hcl v hv h1 c
    · have := h.cl v hv c h2 h3
      exact ⟨this.1, fun a h4 h5 h6 => hsub _ (this.2 a h4 h5 h6)⟩
  · rcases List.mem_append.1 h' with h' | h'
    · exact hsub _ (h.arc a' h' e)
    · rw [List.mem_singleton.1 h']; exact hat
theorem mid_end {b : BookD} {cap : Nat → Int} {at' : Nat} {most : Int} {Z Z' : Nat → Bool} {nd f : Nat → Int} (h : BrMid b cap at' Z nd f (arcsL (fL cap f) b.cons.length) Z') (hnd : nd at' ≤ 0) : BrPost b cap at' most Z nd f 0 Z' nd f :=
  .none h.sub h.hat fun v hv h1 h2 => by
    by_cases c : v = at'
    · subst c
      exact ⟨hnd, fun a h3 h4 h5 => h.arc a (mem_arcs.2 ⟨h3, h4⟩) h5⟩
    · exact h.cl v hv h1 h2 c
theorem post_here {b : BookD} {cap : Nat → Int} {at' : Nat} {most n : Int} {Z Z' : Nat → Bool} {nd f : Nat → Int} (hbd : ∀ i, i < b.cons.length → 0 ≤ f i ∧ f i ≤ cap i) (hm : 1 ≤ most) (hn : 0 < nd at') (e : n = min most (nd at')) :
    BrPost b cap at' most Z nd f n Z' (fun q => if q = at' then nd at' - n else nd q) f := by
  refine .some (by omega) hbd (fun v => ?_) (fun v => ?_) (fun i _ _ => rfl)
  · show (if v = at' then nd at' - n else nd v) + _ = _
    by_cases c : v = at'
    · subst c; rw [if_pos rfl, if_pos rfl]; omega
    · rw [if_neg c, if_neg (fun h => c h.symm)]; omega
  · show (if v = at' then nd at' - n else nd v) ≤ _ ∧ ((if v = at' then nd at' - n else nd v) = _ ∨ 0 ≤ (if v = at' then nd at' - n else nd v))
    by_cases c : v = at'
    · subst c; rw [if_pos rfl]; omega
    · rw [if_neg c]; omega
theorem post_push {b : BookD} (hv : VBook b) {cap : Nat → Int} {at' : Nat} {most n : Int} {Z Z' Z2 Z3 : Nat → Bool} {nd f nd' f' : Nat → Int} {a : Arc} (ha : a.1 < b.cons.length) (hF : aF b a = at') (hsub : ∀ v, Z v = true → Z' v = true) (hat : Z' at' = true) (hZ : Z at' = false) (hto : Z' (aT b a) = false)
    (hn : 1 ≤ n) (h : BrPost b cap (aT b a) (min most (fL cap f a)) Z' nd f n Z2 nd' f') : BrPost b cap at' most Z nd f n Z3 nd' (psh f' a n) := by
  cases h with
  | none => omega
  | some hn' hbd hsum hnd hkeep =>
    have hfr := hv.frm a.1 ha
    have hto' := hv.to a.1 ha
    have hends : (b.cons.getD a.1 default).frm.toNat = at' ∧ (b.cons.getD a.1 default).to.toNat = aT b a ∨ (b.cons.getD a.1 default).to.toNat = at' ∧ (b.cons.getD a.1 default).frm.toNat = aT b a := by
      unfold aF at hF
      unfold aT
      cases h2 : a.2
      · rw [h2] at hF; exact .inl ⟨hF, rfl⟩
      · rw [h2] at hF; exact .inr ⟨hF, rfl⟩
    have hk : f' a.1 = f a.1 := hkeep a.1 ha (by rcases hends with ⟨e, _⟩ | ⟨e, _⟩ <;> rw [e] <;> simp [hat])
    refine .some ⟨hn, by omega⟩ (fun i hi => ?_) (fun v => ?_) hnd (fun i hi hz => ?_)
    · have h1 := hbd i hi
      unfold psh
      by_cases c : i = a.1
      · subst c
        rw [if_pos rfl]
        have h2 : n ≤ fL cap f a := by omega
        unfold fL at h2
        cases h3 : a.2
        · rw [h3] at h2
          have h4 : n ≤ cap a.1 - f a.1 := h2
          simp; omega
        · rw [h3] at h2
          have h4 : n ≤ f a.1 := h2
          simp; omega
      · rw [if_neg c]; exact h1
    · rw [psh_acc hv _ ha, hF]
      have := hsum v
      omega
    · have hne : i ≠ a.1 := fun e => by
        subst e
        have hzat : Z (aT b a) = false := by
          cases c : Z (aT b a)
          · rfl
          · rw [hsub _ c] at hto; cases hto
        rcases hends with ⟨e1, e2⟩ | ⟨e1, e2⟩ <;> rw [e1, e2, hZ, hzat] at hz <;> simp at hz
      unfold psh
      rw [if_neg hne]
      exact hkeep i hi (by rcases hz with h | h; exact .inl (hsub _ h); exact .inr (hsub _ h))
theorem fL_bd2 {b : BookD} {cap off : Nat → Int} (hcap : ∀ i, i < b.cons.length → cap i ≤ 100) (h : ∀ i, i < b.cons.length → 0 ≤ off i ∧ off i ≤ cap i) {a : Arc} (ha : a.1 < b.cons.length) : 0 ≤ fL cap off a ∧ fL cap off a ≤ 100 := by
  have h1 := h a.1 ha
  have h2 := hcap a.1 ha
  unfold fL
  split <;> omega
attribute [local irreducible] AWP AWL AOp PV LV AWT AWE
section
variable {b : BookD} {cp : Bool} {g3 g5 g7 g8 g10 g11 ga gmo gr gs gn gw gm gb at' H : Nat} {nd : Nat → Int} {F F1 : Arc → Int} {a : Arc} {rest : List Ent} {u2 u8 : AV} {x most : Int} {ro : Option Nat}
theorem de_3 (ht : at' < H) (hH : H ≤ 6) {ops : Array Oper} (h : regF Try.f154 3 = some ops) :
    AWP Try.prog Try.f154.ntmps none (.region 3 ops true) (cutQ (fun s h => s = [(9, intA (min most (nd at'))), (3, .v (ptrV g5)), (6, .v (ptrV ga)), (8, .v (ptrV gr))] ∧ h = .cl ga 3 [intA at'] :: .cl gmo 3 [intA most] :: .cl g5 29 [.v (.slice (some ⟨gn, 0, none⟩) H H)] :: .rw (.slice (some ⟨gn, 0, none⟩) H H) 3 1 (fRows nd H) :: rest))
      [(3, .v (ptrV g5)), (6, .v (ptrV ga)), (7, .v (ptrV gmo)), (8, .v (ptrV gr))] (.cl ga 3 [intA at'] :: .cl gmo 3 [intA most] :: .cl g5 29 [.v (.slice (some ⟨gn, 0, none⟩) H H)] :: .rw (.slice (some ⟨gn, 0, none⟩) H H) 3 1 (fRows nd H) :: rest) := by
  cases h
  have r1 : ((fRows nd H).getD at' [])[0]? = some (intA (nd at')) := fRows_at ht
  have r2 := fRows_len nd H
  refine awp_tree T0 [(0, 1), (1, 1), (2, 1), (3, 0), (4, 1), (5, 0), (6, 0)] (.op 0 1 (.op 1 1 (.op 2 1 (.op 3 0 (.op 4 1 (.op 5 0 (.op 6 0 .stop))))))) [.cl ga _ _, .cl gmo _ _, .cl g5 _ _, .rw _ _ _ _] rfl (by kernel_rfl) (by solve | repeat' constructor) ?_
  refine awt_lo rfl (wt_none rfl) (lv_cl1 T0 rfl rfl rfl (by solve | repeat' constructor) (by first | rfl | assumption)) rfl rfl rfl ?_
  refine awt_lo rfl (wt_none rfl) (lv_cl1 T0 rfl rfl rfl (by solve | repeat' constructor) (by first | rfl | assumption)) rfl rfl rfl ?_
  refine awt_lo rfl (wt_none rfl) (lv_cl1 T0 rfl rfl rfl (by solve | repeat' constructor) (by first | rfl | assumption)) rfl rfl rfl ?_
  refine awt_po rfl (wt_none rfl) (pv_ix_own T0 rfl rfl rfl rfl (by omega) (by first | exact (rfl : Int.toNat 0 = 0) | exact Int.toNat_natCast _ | rfl)) rfl rfl ?_
  refine awt_lo rfl (wt_none rfl) (lv_rp T0 rfl rfl rfl (by solve | repeat' constructor) (by first | omega | (simp; omega)) (by omega) (by first | assumption | rfl)) rfl rfl rfl ?_
  refine awt_po rfl (wt_none rfl) (pv_min2 rfl rfl rfl) rfl rfl ?_
  refine awt_po rfl (wt_none rfl) (pv_assign rfl rfl) rfl rfl ?_
  refine awt_end ?_
  exact cut_n ⟨rfl, rfl⟩ (by first | ((repeat' (first | exact True.intro | refine ⟨rfl, ?_⟩)); all_goals fail) | fail) (SubH.refl _)
theorem de_12 (b1 : -1000000 ≤ F a ∧ F a ≤ 1000000) (b2 : -1000000 ≤ x ∧ x ≤ 2000000) (hF : ∀ q, F1 q = if q = a then F a - x else F q) {ops : Array Oper} (h : regG Try.f154 12 = some ops) :
    AWP Try.prog Try.f154.ntmps ro (.region 12 ops true) (cutQ (fun s h => s = [(4, .v (ptrV g3)), (8, u8), (10, .v (ptrV g10)), (12, intA x)] ∧ h = .cl g10 232 [intA (a.1 : Nat), boolA a.2] :: .cl g3 167 [.v (ptrV gw)] :: workE gw gm b cp :: leftM gm F1 :: rest))
      [(4, .v (ptrV g3)), (8, u8), (10, .v (ptrV g10)), (12, intA x)] (.cl g10 232 [intA (a.1 : Nat), boolA a.2] :: .cl g3 167 [.v (ptrV gw)] :: workE gw gm b cp :: leftM gm F :: rest) := by
  cases h
  have hup : updF (fun q => intA (F q)) a (intA (F a - x)) = fun q => intA (F1 q) := by
    funext q
    unfold updF
    rw [hF]
    split <;> rfl
  refine awp_tree T0 [(0, 1), (1, 0), (2, 0), (3, 1), (4, 1), (6, 0), (5, 3), (7, 0), (8, 3), (9, 0), (10, 3)] (.op 0 1 (.op 1 0 (.op 2 0 (.op 3 1 (.op 4 1 (.op 6 0 (.fork 5 (.op 7 0 (.op 8 3 (.op 9 0 (.op 10 3 .stop)))) 8 (.op 9 0 (.op 5 3 (.op 7 0 (.op 10 3 .stop))))))))))) [.cl g10 _ _, .cl g3 _ _, .cl gw _ _] rfl (by kernel_rfl) (by solve | repeat' constructor) ?_
  refine awt_lo rfl (wt_none rfl) (lv_cl1 T0 rfl rfl rfl (by solve | repeat' constructor) (by first | rfl | assumption)) rfl rfl rfl ?_
  refine awt_po rfl (wt_none rfl) (pv_nilCheck rfl rfl) rfl rfl ?_
  refine awt_po rfl (wt_none rfl) (pv_fa T0 rfl rfl rfl (by simp; rfl)) rfl rfl ?_
  refine awt_lo rfl (wt_none rfl) (lv_cl1 T0 rfl rfl rfl (by solve | repeat' constructor) (by first | rfl | assumption)) rfl rfl rfl ?_
  refine awt_lo rfl (wt_none rfl) (lv_cla T0 rfl rfl rfl (by solve | repeat' constructor) rfl) rfl rfl rfl ?_
  refine awt_po rfl (wt_none rfl) (pv_move rfl rfl) rfl rfl ?_
  refine awt_fork ?_ ?_
  · skip
    refine awt_h (hm := []) rfl (wt_none rfl) (by solve | repeat' constructor) rfl (aop_lv (lv_lookupF Ma (k := a) rfl rfl rfl rfl (by solve | repeat' constructor) rfl) rfl (blt_lt rfl) ?_)
    refine awt_n1 rfl (wt_none rfl) (pv_sub rfl rfl rfl (by first | assumption | exact wr64 (by omega))) rfl rfl rfl ?_
    refine awt_s (md := fun _ => True) rfl (wt_none rfl) (aop_mapEntryF Ma (k := a) rfl rfl rfl rfl rfl rfl (fun n => (by solve | repeat' constructor)) trivial (fun n => ?_))
    refine awe_p rfl (wt_none rfl) (pv_extract rfl rfl rfl) rfl rfl ?_
    refine awe_s (md := fun _ => True) rfl (wt_none rfl) (aop_entryStoreF Ma rfl rfl rfl rfl rfl (by solve | repeat' constructor) hup trivial ?_)
    refine awe_end ?_
    exact cut_n ⟨rfl, rfl⟩ (by first | ((repeat' (first | exact True.intro | refine ⟨rfl, ?_⟩)); all_goals fail) | fail) (SubH.refl _)
  · skip
    refine awt_h (hm := [leftM gm F]) rfl (wt_none rfl) (by solve | repeat' constructor) rfl (aop_mapEntryF Ma (k := a) rfl rfl rfl rfl rfl rfl (fun n => (by solve | repeat' constructor)) ⟨_, List.mem_singleton.2 rfl, rfl⟩ (fun n => ?_))
    refine awt_n1 rfl (wt_none rfl) (pv_extract rfl rfl rfl) rfl rfl rfl ?_
    refine awt_s (md := fun _ => True) rfl (wt_none rfl) (aop_lv (lv_lookupF Ma (k := a) rfl rfl rfl rfl (by solve | repeat' constructor) rfl) rfl (blt_lt rfl) ?_)
    refine awe_p rfl (wt_none rfl) (pv_sub rfl rfl rfl (by first | assumption | exact wr64 (by omega))) rfl rfl ?_
    refine awe_s (md := fun _ => True) rfl (wt_none rfl) (aop_entryStoreF Ma rfl rfl rfl rfl rfl (by solve | repeat' constructor) hup trivial ?_)
    refine awe_end ?_
    exact cut_n ⟨rfl, rfl⟩ (by first | ((repeat' (first | exact True.intro | refine ⟨rfl, ?_⟩)); all_goals fail) | fail) (SubH.refl _)
theorem de_13 (b1 : -1000000 ≤ F (a.1, !a.2) ∧ F (a.1, !a.2) ≤ 1000000) (b2 : -1000000 ≤ x ∧ x ≤ 2000000) (hF : ∀ q, F1 q = if q = (a.1, !a.2) then F (a.1, !a.2) + x else F q) {ops : Array Oper} (h : regG Try.f154 13 = some ops) :
    AWP Try.prog Try.f154.ntmps ro (.region 13 ops true) (cutQ (fun s h => s = [(8, u8), (12, intA x)] ∧ h = .cl g10 232 [intA (a.1 : Nat), boolA a.2] :: .cl g3 167 [.v (ptrV gw)] :: workE gw gm b cp :: leftM gm F1 :: rest))
      [(4, .v (ptrV g3)), (8, u8), (10, .v (ptrV g10)), (12, intA x)] (.cl g10 232 [intA (a.1 : Nat), boolA a.2] :: .cl g3 167 [.v (ptrV gw)] :: workE gw gm b cp :: leftM gm F :: rest) := by
  cases h
  have hup : updF (fun q => intA (F q)) (a.1, !a.2) (intA (F (a.1, !a.2) + x)) = fun q => intA (F1 q) := by
    funext q
    unfold updF
    rw [hF]
    split <;> rfl
  refine awp_tree T0 [(0, 1), (1, 0), (2, 0), (3, 1), (4, 0), (5, 1), (6, 0), (7, 1), (8, 0), (9, 0), (11, 0), (10, 3), (12, 0), (13, 3), (14, 0), (15, 3)] (.op 0 1 (.op 1 0 (.op 2 0 (.op 3 1 (.op 4 0 (.op 5 1 (.op 6 0 (.op 7 1 (.op 8 0 (.op 9 0 (.op 11 0 (.fork 10 (.op 12 0 (.op 13 3 (.op 14 0 (.op 15 3 .stop)))) 13 (.op 14 0 (.op 10 3 (.op 12 0 (.op 15 3 .stop)))))))))))))))) [.cl g10 _ _, .cl g3 _ _, .cl gw _ _] rfl (by kernel_rfl) (by solve | repeat' constructor) ?_
  refine awt_lo rfl (wt_none rfl) (lv_cl1 T0 rfl rfl rfl (by solve | repeat' constructor) (by first | rfl | assumption)) rfl rfl rfl ?_
  refine awt_po rfl (wt_none rfl) (pv_nilCheck rfl rfl) rfl rfl ?_
  refine awt_po rfl (wt_none rfl) (pv_fa T0 rfl rfl rfl (by simp; rfl)) rfl rfl ?_
  refine awt_lo rfl (wt_none rfl) (lv_cl1 T0 rfl rfl rfl (by solve | repeat' constructor) (by first | rfl | assumption)) rfl rfl rfl ?_
  refine awt_po rfl (wt_none rfl) (pv_fa T0 rfl rfl rfl (by simp; rfl)) rfl rfl ?_
  refine awt_lo rfl (wt_none rfl) (lv_cl1 T0 rfl rfl rfl (by solve | repeat' constructor) (by first | rfl | assumption)) rfl rfl rfl ?_
  refine awt_po rfl (wt_none rfl) (pv_fa T0 rfl rfl rfl (by simp; rfl)) rfl rfl ?_
  refine awt_lo rfl (wt_none rfl) (lv_cl1 T0 rfl rfl rfl (by solve | repeat' constructor) (by first | rfl | assumption)) rfl rfl rfl ?_
  refine awt_po rfl (wt_none rfl) (pv_not rfl rfl) rfl rfl ?_
  refine awt_po rfl (wt_none rfl) (pv_build T0 rfl rfl rfl (by simp only [Value.cells, List.toList_toArray, List.map_cons, List.map_nil]; rfl) (by first | ((repeat' (first | exact BParts.nil | apply BParts.cons | rfl)); all_goals fail) | fail) (by first | ((repeat' (first | exact FillA.nil | exact Sp.done | apply FillA.cons | apply Sp.put | apply Sp.skip | (simp only [cellsA]; rfl) | rfl)); all_goals fail) | fail)) rfl rfl ?_
  refine awt_po rfl (wt_none rfl) (pv_move rfl rfl) rfl rfl ?_
  refine awt_fork ?_ ?_
  · skip
    refine awt_h (hm := []) rfl (wt_none rfl) (by solve | repeat' constructor) rfl (aop_lv (lv_lookupF Ma (k := (a.1, !a.2)) rfl rfl rfl rfl (by solve | repeat' constructor) rfl) rfl (blt_lt rfl) ?_)
    refine awt_n1 rfl (wt_none rfl) (pv_add rfl rfl rfl (by first | assumption | exact wr64 (by omega))) rfl rfl rfl ?_
    refine awt_s (md := fun _ => True) rfl (wt_none rfl) (aop_mapEntryF Ma (k := (a.1, !a.2)) rfl rfl rfl rfl rfl rfl (fun n => (by solve | repeat' constructor)) trivial (fun n => ?_))
    refine awe_p rfl (wt_none rfl) (pv_extract rfl rfl rfl) rfl rfl ?_
    refine awe_s (md := fun _ => True) rfl (wt_none rfl) (aop_entryStoreF Ma rfl rfl rfl rfl rfl (by solve | repeat' constructor) hup trivial ?_)
    refine awe_end ?_
    exact cut_n ⟨rfl, rfl⟩ (by first | ((repeat' (first | exact True.intro | refine ⟨rfl, ?_⟩)); all_goals fail) | fail) (SubH.refl _)
  · skip
    refine awt_h (hm := [leftM gm F]) rfl (wt_none rfl) (by solve | repeat' constructor) rfl (aop_mapEntryF Ma (k := (a.1, !a.2)) rfl rfl rfl rfl rfl rfl (fun n => (by solve | repeat' constructor)) ⟨_, List.mem_singleton.2 rfl, rfl⟩ (fun n => ?_))
    refine awt_n1 rfl (wt_none rfl) (pv_extract rfl rfl rfl) rfl rfl rfl ?_
    refine awt_s (md := fun _ => True) rfl (wt_none rfl) (aop_lv (lv_lookupF Ma (k := (a.1, !a.2)) rfl rfl rfl rfl (by solve | repeat' constructor) rfl) rfl (blt_lt rfl) ?_)
    refine awe_p rfl (wt_none rfl) (pv_add rfl rfl rfl (by first | assumption | exact wr64 (by omega))) rfl rfl ?_
    refine awe_s (md := fun _ => True) rfl (wt_none rfl) (aop_entryStoreF Ma rfl rfl rfl rfl rfl (by solve | repeat' constructor) hup trivial ?_)
    refine awe_end ?_
    exact cut_n ⟨rfl, rfl⟩ (by first | ((repeat' (first | exact True.intro | refine ⟨rfl, ?_⟩)); all_goals fail) | fail) (SubH.refl _)
abbrev brE (g3 g5 g7 g8 gs gn gw gm : Nat) (b : BookD) (cp : Bool) (H : Nat) (Z : Nat → Bool) (nd : Nat → Int) (F : Arc → Int) : List Ent :=
  [.cl g7 88 [.v (.slice (some ⟨gs, 0, none⟩) H H)], .rw (.slice (some ⟨gs, 0, none⟩) H H) 4 1 (bRows Z H), .cl g5 29 [.v (.slice (some ⟨gn, 0, none⟩) H H)], .rw (.slice (some ⟨gn, 0, none⟩) H H) 3 1 (fRows nd H), .cl g3 167 [.v (ptrV gw)], workE gw gm b cp, leftM gm F, .cl g8 280 [.v (.func (.func 154) #[] #[ptrV g7, ptrV g5, ptrV g3, ptrV g8])]]
theorem de_10 {Z : Nat → Bool} {R : Int → (Nat → Bool) → (Nat → Int) → (Arc → Int) → Prop} (hC : ACall Try.prog 154 [intA (aT b a : Nat), intA (min most (F a)), .v (ptrV g7), .v (ptrV g5), .v (ptrV g3), .v (ptrV g8)] (brE g3 g5 g7 g8 gs gn gw gm b cp H Z nd F) (fun r h' => ∃ n Z' nd' F', R n Z' nd' F' ∧ r = intA n ∧ h' = brE g3 g5 g7 g8 gs gn gw gm b cp H Z' nd' F'))
    {ops : Array Oper} (h : regG Try.f154 10 = some ops) :
    AWP Try.prog Try.f154.ntmps ro (.region 10 ops true) (cutQ (fun s h => ∃ n Z' nd' F', R n Z' nd' F' ∧ s = [(12, intA n), (2, u2), (4, .v (ptrV g3)), (5, .v (ptrV g8)), (6, .v (ptrV ga)), (7, .v (ptrV gmo)), (8, u8), (10, .v (ptrV g10)), (11, .v (ptrV g11))] ∧ h = brE g3 g5 g7 g8 gs gn gw gm b cp H Z' nd' F' ++ [.cl g10 232 [intA (a.1 : Nat), boolA a.2], .cl gmo 3 [intA most]] ++ rest))
      [(2, u2), (4, .v (ptrV g3)), (5, .v (ptrV g8)), (6, .v (ptrV ga)), (7, .v (ptrV gmo)), (8, u8), (10, .v (ptrV g10)), (11, .v (ptrV g11))] (.cl g11 272 [intA (aF b a : Nat), intA (aT b a : Nat), intA (aC a)] :: brE g3 g5 g7 g8 gs gn gw gm b cp H Z nd F ++ [.cl g10 232 [intA (a.1 : Nat), boolA a.2], .cl gmo 3 [intA most]] ++ rest) := by
  cases h
  simp only [List.cons_append, List.nil_append]
  refine awp_tree T0 [(0, 1), (1, 0), (2, 1), (3, 1), (4, 1), (5, 0), (6, 0), (7, 1), (8, 1), (9, 1), (10, 0), (11, 3), (12, 0)] (.op 0 1 (.op 1 0 (.op 2 1 (.op 3 1 (.op 4 1 (.op 5 0 (.op 6 0 (.op 7 1 (.op 8 1 (.op 9 1 (.op 10 0 (.op 11 3 (.op 12 0 .stop))))))))))))) [.cl g11 _ _, .cl g7 _ _, .rw (.slice (some ⟨gs, 0, none⟩) H H) _ _ _, .cl g5 _ _, .rw (.slice (some ⟨gn, 0, none⟩) H H) _ _ _, .cl g3 _ _, .cl gw _ _, leftM gm F, .cl g8 _ _, .cl g10 _ _, .cl gmo _ _] rfl (by kernel_rfl) (by solve | repeat' constructor) ?_
  refine awt_lo rfl (wt_none rfl) (lv_cl1 T0 rfl rfl rfl (by solve | repeat' constructor) (by first | rfl | assumption)) rfl rfl rfl ?_
  refine awt_po rfl (wt_none rfl) (pv_ix_arr T0 rfl rfl rfl rfl (by omega) (by simp; rfl)) rfl rfl ?_
  refine awt_lo rfl (wt_none rfl) (lv_cl1 T0 rfl rfl rfl (by solve | repeat' constructor) (by first | rfl | assumption)) rfl rfl rfl ?_
  refine awt_lo rfl (wt_none rfl) (lv_cl1 T0 rfl rfl rfl (by solve | repeat' constructor) (by first | rfl | assumption)) rfl rfl rfl ?_
  refine awt_lo rfl (wt_none rfl) (lv_cl1 T0 rfl rfl rfl (by solve | repeat' constructor) (by first | rfl | assumption)) rfl rfl rfl ?_
  refine awt_po rfl (wt_none rfl) (pv_nilCheck rfl rfl) rfl rfl ?_
  refine awt_po rfl (wt_none rfl) (pv_fa T0 rfl rfl rfl (by simp; rfl)) rfl rfl ?_
  refine awt_lo rfl (wt_none rfl) (lv_cl1 T0 rfl rfl rfl (by solve | repeat' constructor) (by first | rfl | assumption)) rfl rfl rfl ?_
  refine awt_lo rfl (wt_none rfl) (lv_cla T0 rfl rfl rfl (by solve | repeat' constructor) rfl) rfl rfl rfl ?_
  refine awt_lo rfl (wt_none rfl) (lv_lookupF Ma (k := a) rfl rfl rfl rfl (by solve | repeat' constructor) rfl) rfl rfl rfl ?_
  refine awt_po rfl (wt_none rfl) (pv_min2 rfl rfl rfl) rfl rfl ?_
  refine awt_s (md := fun _ => True) rfl (wt_none rfl) (st_acall T0 (hC) rfl rfl rfl rfl (by first | exact callee_lit | exact callee_v | exact callee_fn | assumption) (by solve | repeat' constructor) (by first | rfl | assumption) rfl (by first | ((repeat' (first | exact SubH.refl _ | apply SubH.cons | exact Pick.here | apply Pick.there)); all_goals fail) | fail) (fun _ _ => trivial) ?_)
  rintro r h' ⟨n, Z', nd', F', hR, rfl, rfl⟩
  refine awe_p rfl (wt_none rfl) (pv_assign rfl rfl) rfl rfl ?_
  refine awe_end ?_
  exact cut_n ⟨n, Z', nd', F', hR, rfl, rfl⟩ (by first | ((repeat' (first | exact True.intro | refine ⟨rfl, ?_⟩)); all_goals fail) | fail) (by simp only [List.cons_append, List.nil_append]; repeat' (first | exact subh_tail _ _ | exact Pick.here | apply Pick.there | apply SubH.cons))
end
end Go.Proofs.Ytlpknbneilgjkaa.R
