/- Joined texts: Sj, Sk. -/
import Derived.Test.YtilhflfbbfeakaaZlGSi
import Derived.Test.YtilhflfbbfeakaaZlGSd
import Derived.Test.YtilhflfbbfeakaaZlGRi
import Derived.Test.YtilhflfbbfeakaaTz
import Derived.Test.YtilhflfbbfeakaaZlGSf
section
namespace Go.Tl
open Go Go.RowKit
theorem pcall_frame {P : Program} {g : Nat} {args : List AV} {R : AV → Prop} (e : Ent) (C : PCall P g args R) : ACall P g args [e] (fun r h' => R r ∧ h' = [e]) := fun w S vs h1 h2 h3 => by
  refine (C w S vs h1 HRel.nil h3).mono fun e1 w' ⟨v, S', r, h', e2, ⟨hR, eh⟩, hvr, E, hlt, hr, hl⟩ => ?_
  subst eh
  have hk : ∀ b, b < w.heap.size → w'.heap[b]? = w.heap[b]? := fun b hb => E.keep b hb (fun ⟨e, he, _⟩ => by cases he)
  have hnew : ∀ b, S' b → S b ∨ w.heap.size ≤ b := fun b hb => by
    rcases E.new b hb with h | h | ⟨e, he, _⟩
    · exact .inl h
    · exact .inr h
    · cases he
  exact ⟨v, S', r, _, e2, ⟨hR, rfl⟩, hvr, ⟨E.os, E.tape, E.output, E.size, fun b hb _ => hk b hb, E.stab, fun b hb => by rcases hnew b hb with h | h; exact .inl h; exact .inr (.inl h)⟩, hlt,
    h2.same h1 E.stab hnew ⟨E.os, E.tape, E.output, E.size, fun b hb _ => hk b hb⟩, fun e he g hg => .inl ⟨e, he, hg⟩⟩
end Go.Tl
namespace Go.Proofs.Ytilhflfbbfeakaa
open Go Go.RowKit Go.Tl
set_option linter.unusedVariables false
set_option linter.unusedSimpArgs false
set_option maxRecDepth 100000
set_option maxHeartbeats 4000000
/-- how many are above 0 -/
def posN (f : Nat → Int) : Nat → Nat
  | 0 => 0
  | k + 1 => posN f k + if 0 < f k then 1 else 0
theorem pos_bd (f : Nat → Int) : ∀ k, posN f k ≤ k
  | 0 => Nat.le_refl _
  | k + 1 => by have := pos_bd f k; simp only [posN]; split <;> omega
theorem pos_le {f g : Nat → Int} : ∀ k, (∀ i, i < k → g i ≤ f i) → posN g k ≤ posN f k
  | 0, _ => Nat.le_refl _
  | k + 1, h => by
    have ih := pos_le k (fun i hi => h i (by omega))
    have := h k (Nat.lt_succ_self _)
    simp only [posN]
    split <;> split <;> omega
theorem pos_lt {f g : Nat → Int} {j : Nat} (hf : 0 < f j) (hg : g j ≤ 0) : ∀ k, j < k → (∀ i, i < k → g i ≤ f i) → posN g k + 1 ≤ posN f k
  | 0, h, _ => absurd h (Nat.not_lt_zero _)
  | k + 1, hj, h => by
    simp only [posN]
    by_cases e : j = k
    · subst e
      have := pos_le j (fun i hi => h i (by omega))
      rw [if_neg (by omega), if_pos hf]
      omega
    · have ih := pos_lt hf hg k (by omega) (fun i hi => h i (by omega))
      have := h k (Nat.lt_succ_self _)
      split <;> split <;> omega
/-- the least of what is set off along the first contracts of a path -/
def mnP (f : Nat → Int) (p : List Int) : Nat → Int
  | 0 => 100
  | k + 1 => min (mnP f p k) (f (p.getD k 0).toNat)
theorem mnP_le {f : Nat → Int} {p : List Int} : ∀ {k j : Nat}, j < k → mnP f p k ≤ f (p.getD j 0).toNat
  | 0, _, h => absurd h (Nat.not_lt_zero _)
  | k + 1, j, h => by
    simp only [mnP]
    by_cases e : j = k
    · subst e; omega
    · have := mnP_le (f := f) (p := p) (show j < k by omega); omega
theorem mnP_pos {f : Nat → Int} {p : List Int} : ∀ {k : Nat}, (∀ j, j < k → 0 < f (p.getD j 0).toNat) → 1 ≤ mnP f p k ∧ mnP f p k ≤ 100
  | 0, _ => by simp [mnP]
  | k + 1, h => by
    have ih := mnP_pos (f := f) (p := p) (k := k) (fun j hj => h j (by omega))
    have := h k (Nat.lt_succ_self _)
    simp only [mnP]
    omega
theorem mnP_ex {f : Nat → Int} {p : List Int} : ∀ {k : Nat}, mnP f p k = 100 ∨ ∃ j, j < k ∧ mnP f p k = f (p.getD j 0).toNat
  | 0 => .inl rfl
  | k + 1 => by
    simp only [mnP]
    by_cases c : mnP f p k ≤ f (p.getD k 0).toNat
    · rcases mnP_ex (f := f) (p := p) (k := k) with h | ⟨j, hj, h⟩
      · exact .inl (by omega)
      · exact .inr ⟨j, by omega, by omega⟩
    · exact .inr ⟨k, Nat.lt_succ_self _, by omega⟩
theorem ringN_one {r : RingD} {h : Nat} : ∀ k, k ≤ r.cons.length → (∀ i j, i < r.cons.length → j < i → r.cons.getD j 0 ≠ r.cons.getD i 0) → ringN r k h = 0 ∨ (ringN r k h = r.amount ∧ ∃ j, j < k ∧ r.cons.getD j 0 = (h : Int))
  | 0, _, _ => .inl rfl
  | k + 1, hk, hd => by
    have ih := ringN_one (r := r) (h := h) k (by omega) hd
    simp only [ringN]
    by_cases c : r.cons.getD k 0 = (h : Int)
    · rw [if_pos c]
      rcases ih with h0 | ⟨_, j, hj, e⟩
      · exact .inr ⟨by rw [h0]; omega, k, Nat.lt_succ_self _, c⟩
      · exact absurd (e.trans c.symm) (hd k j (by omega) hj)
    · rw [if_neg c, Int.add_zero]
      rcases ih with h0 | ⟨h1, j, hj, e⟩
      · exact .inl h0
      · exact .inr ⟨h1, j, by omega, e⟩
theorem ringN_hit {r : RingD} {h : Nat} (ha : 0 ≤ r.amount) : ∀ k, ∀ j, j < k → r.cons.getD j 0 = (h : Int) → r.amount ≤ ringN r k h
  | 0, j, hj, _ => absurd hj (Nat.not_lt_zero _)
  | k + 1, j, hj, e => by
    have hnn : ∀ k, 0 ≤ ringN r k h := fun k => by
      induction k with
      | zero => exact Int.le_refl _
      | succ k ih => simp only [ringN]; split <;> omega
    simp only [ringN]
    by_cases c : j = k
    · subst c; rw [if_pos e]; have := hnn j; omega
    · have := ringN_hit ha k j (by omega) e
      split <;> omega
theorem path_dist {b : BookD} {f : Nat → Int} {p : List Int} (h : pathOk b f p) : ∀ i j, i < p.length → j < i → p.getD j 0 ≠ p.getD i 0 := fun i j hi hj e => h.1.2.2.2.2 i j hi hj (by unfold cAt; rw [e])
/-- one ring taken off -/
theorem ring_off {b : BookD} (hv : VBook b) {cap f : Nat → Int} (ho : OffF b cap f) {p : List Int} (hp : pathOk b f p) {x : Int} (hx : x = mnP f p p.length) (hcap : ∀ i, i < b.cons.length → cap i ≤ 100) :
    isRing b ⟨p, x⟩ ∧ OffF b cap (fun h => f h - ringN ⟨p, x⟩ p.length h) ∧ posN (fun h => f h - ringN ⟨p, x⟩ p.length h) b.cons.length + 1 ≤ posN f b.cons.length ∧ ∀ k h, k ≤ p.length → h < b.cons.length → 0 ≤ f h - ringN ⟨p, x⟩ k h ∧ f h - ringN ⟨p, x⟩ k h ≤ 100 := by
  have hx1 := mnP_pos (f := f) (p := p) (k := p.length) hp.2
  rw [← hx] at hx1
  have hr : isRing b ⟨p, x⟩ := ⟨hp.1.1, hx1, hp.1.2.2⟩
  have hd := path_dist hp
  have hbd : ∀ k h, k ≤ p.length → h < b.cons.length → 0 ≤ f h - ringN ⟨p, x⟩ k h ∧ f h - ringN ⟨p, x⟩ k h ≤ f h := fun k h hk hh => by
    have h1 := (ho.bd h hh).1
    rcases ringN_one (r := ⟨p, x⟩) (h := h) k hk hd with h2 | ⟨h2, j, hj, e⟩
    · rw [h2]; omega
    · have h3 := mnP_le (f := f) (p := p) (show j < p.length by omega)
      have e' : p.getD j 0 = (h : Int) := e
      rw [e', Int.toNat_natCast, ← hx] at h3
      rw [h2]
      show 0 ≤ f h - x ∧ f h - x ≤ f h
      omega
  refine ⟨hr, ⟨fun i hi => ?_, fun h => ?_⟩, ?_, fun k h hk hh => ?_⟩
  · have h1 := hbd p.length i (Nat.le_refl _) hi
    have h2 := (ho.bd i hi).2
    show 0 ≤ f i - _ ∧ f i - _ ≤ _
    omega
  · have h1 := ring_zero hr h
    have h2 := acc_add (cs := b.cons) (f := fun h => f h - ringN ⟨p, x⟩ p.length h) (g := ringN ⟨p, x⟩ p.length) h b.cons.length
    have h3 : accN b.cons (fun i => (fun h => f h - ringN ⟨p, x⟩ p.length h) i + ringN ⟨p, x⟩ p.length i) b.cons.length h = accN b.cons f b.cons.length h := accN_congr _ _ fun i _ => by show f i - _ + _ = _; omega
    have h1' : accN b.cons (ringN ⟨p, x⟩ p.length) b.cons.length h = 0 := h1
    rw [h3, ho.net, h1'] at h2
    omega
  · obtain ⟨j, hj, e⟩ : ∃ j, j < p.length ∧ mnP f p p.length = f (p.getD j 0).toNat := by
      rcases mnP_ex (f := f) (p := p) (k := p.length) with h | h
      · have h0 := hp.1.1
        have h1 := mnP_le (f := f) (p := p) (show 0 < p.length by have : 2 ≤ p.length := h0; omega)
        have h2 : (p.getD 0 0).toNat < b.cons.length := (okAt_lt (hp.1.2.2.1 0 (by have : 2 ≤ p.length := h0; show 0 < p.length; omega))).1
        have h3 := (ho.bd _ h2).2
        have h4 := hcap _ h2
        exact ⟨0, by have : 2 ≤ p.length := h0; omega, by omega⟩
      · exact h
    have hok := okAt_lt (hp.1.2.2.1 j hj)
    have hjl : (p.getD j 0).toNat < b.cons.length := hok.1
    have hjn : p.getD j 0 = ((p.getD j 0).toNat : Int) := hok.2
    have hhit := ringN_hit (r := ⟨p, x⟩) (h := (p.getD j 0).toNat) (by show 0 ≤ x; omega) p.length j hj hjn
    have hhit' : x ≤ ringN ⟨p, x⟩ p.length (p.getD j 0).toNat := hhit
    exact pos_lt (j := (p.getD j 0).toNat) (hp.2 j hj) (by show f _ - _ ≤ 0; omega) _ hjl (fun i hi => (hbd p.length i (Nat.le_refl _) hi).2)
  · have h1 := hbd k h hk hh
    have h2 := (ho.bd h hh).2
    have h3 := hcap h hh
    omega
theorem rd_snoc {rs : List RingD} {r : RingD} {j : Nat} (h : j < rs.length) : (rs ++ [r]).getD j default = rs.getD j default := by simp [List.getD_eq_getElem?_getD, List.getElem?_append, h]
theorem rd_last {rs : List RingD} {r : RingD} : (rs ++ [r]).getD rs.length default = r := by simp [List.getD_eq_getElem?_getD]
theorem made_snoc {rs : List RingD} {r : RingD} (h : Nat) : madeN (rs ++ [r]) (rs.length + 1) h = madeN rs rs.length h + ringN r r.cons.length h := by
  have : ∀ i, i ≤ rs.length → madeN (rs ++ [r]) i h = madeN rs i h := fun i => by
    induction i with
    | zero => intro _; rfl
    | succ i ih => intro hi; simp only [madeN]; rw [ih (by omega), rd_snoc (by omega)]
  simp only [madeN]
  rw [this _ (Nat.le_refl _), rd_last]
attribute [local irreducible] AWP AWL AOp PV LV AWT AWE
theorem woff_o (cp : Bool) (b : BookD) (gw gm : Nat) (F : Arc → Int) (hl : b.cons.length ≤ 1000) : ACall Try.prog 70 [.v (ptrV gw)] [workE gw gm b cp, leftM gm F] (fun r h' => ∃ ga, r = .v (.slice (some ⟨ga, 0, none⟩) b.cons.length b.cons.length) ∧ h' = [workE gw gm b cp, leftM gm F, .rw (.slice (some ⟨ga, 0, none⟩) b.cons.length b.cons.length) 3 1 (fRows (fun i => F (i, true)) b.cons.length)]) := by
  refine acall_of_awp T0 Try.func70 rfl rfl rfl ?_
  repeat (first | refine awp_seq ?_ | refine awp_region_lit rfl ?_ | (show AWL _ _ _ (⟨_, .move _, _, _, _, _⟩ :: _) _ _ _; refine awl_pw (wt_none rfl) (pv_move rfl rfl) rfl rfl ?_) | (show AWL _ _ _ (⟨_, .assign _, _, _, _, _⟩ :: _) _ _ _; refine awl_pw (wt_none rfl) (pv_assign rfl rfl) rfl rfl ?_) | (show AWL _ _ _ (⟨_, .load _ _, _, _, _, _⟩ :: _) _ _ _; refine awl_lw (wt_none rfl) (lv_cl1 T0 rfl rfl rfl (by solve | repeat' constructor) (by first | rfl | assumption)) rfl rfl rfl ?_) | (show AWL _ _ _ (⟨_, .fieldAddr _ _ _, _, _, _, _⟩ :: _) _ _ _; refine awl_pw (wt_none rfl) (pv_fa T0 rfl rfl rfl (by simp; rfl)) rfl rfl ?_) | (show AWL _ _ _ (⟨_, .call ⟨.builtin .len, _, _⟩, _, _, _, _⟩ :: _) _ _ _; refine awl_pw (wt_none rfl) (pv_len_t T0 rfl rfl rfl) rfl rfl ?_) | (show AWL _ _ _ (⟨_, .nilCheck _, _, _, _, _⟩ :: _) _ _ _; refine awl_pw (wt_none rfl) (pv_nilCheck rfl rfl) rfl rfl ?_) | refine awl_nil ?_)
  refine awl_hw (wt_none rfl) (aop_make T0 rfl rfl rfl rfl rfl rfl rfl rfl (by omega) rfl ?_)
  intro ga
  repeat (first | refine awp_seq ?_ | refine awp_block ?_ | refine awp_region_lit rfl ?_ | (show AWL _ _ _ (⟨_, .move _, _, _, _, _⟩ :: _) _ _ _; refine awl_pw (wt_none rfl) (pv_move rfl rfl) rfl rfl ?_) | (show AWL _ _ _ (⟨_, .assign _, _, _, _, _⟩ :: _) _ _ _; refine awl_pw (wt_none rfl) (pv_assign rfl rfl) rfl rfl ?_) | (show AWL _ _ _ (⟨_, .call ⟨.builtin .len, _, _⟩, _, _, _, _⟩ :: _) _ _ _; refine awl_pw (wt_none rfl) (pv_len_v T0 rfl rfl rfl) rfl rfl ?_) | refine awl_nil ?_)
  have hz : List.replicate b.cons.length [AV.v (Value.int .i64 0)] = fRows (fun i => if i < 0 then F (i, true) else 0) b.cons.length := by
    refine List.ext_getElem (by simp [fRows]) fun k h1 h2 => ?_
    simp [fRows, intRow]
  rw [hz]
  refine awp_loop (fun m s h => ∃ (k : Nat), k ≤ b.cons.length ∧ m = b.cons.length - k ∧ s = [(0, .v (ptrV gw)), (3, .v (.slice (some ⟨ga, 0, none⟩) b.cons.length b.cons.length)), (13, intA b.cons.length), (14, intA k)] ∧ h = [workE gw gm b cp, leftM gm F, .rw (.slice (some ⟨ga, 0, none⟩) b.cons.length b.cons.length) 3 1 (fRows (fun i => if i < k then F (i, true) else 0) b.cons.length)]) ?_ ⟨0, Nat.zero_le _, rfl, rfl, rfl⟩ (by first | ((repeat' (first | exact True.intro | refine ⟨rfl, ?_⟩)); all_goals fail) | fail) (by solve | repeat' constructor)
  rintro m s h ⟨k, hk, rfl, rfl, rfl⟩
  by_cases hlt : k < b.cons.length
  · have r2 := fRows_len (fun i => if i < k then F (i, true) else 0) b.cons.length
    have hset := fRows_set (f := fun i => if i < k then F (i, true) else 0) (g := fun i => if i < k + 1 then F (i, true) else 0) (m := b.cons.length) (j := k) (v := F (k, true)) hlt (fun q hq => by
      by_cases e : q = k
      · subst e; rw [if_pos (Nat.lt_succ_self _), if_pos rfl]
      · rw [if_neg e]
        by_cases c : q < k
        · rw [if_pos c, if_pos (by omega)]
        · rw [if_neg c, if_neg (by omega)])
    repeat (first | refine awp_seq ?_ | refine awp_block ?_ | refine awp_region_lit rfl ?_ | refine awp_skip ?_ | refine awp_cond_t rfl (by first | rfl | assumption | exact dT (by omega)) ?_ | (show AWL _ _ _ (⟨_, .move _, _, _, _, _⟩ :: _) _ _ _; refine awl_pw (wt_none rfl) (pv_move rfl rfl) rfl rfl ?_) | (show AWL _ _ _ (⟨_, .assign _, _, _, _, _⟩ :: _) _ _ _; refine awl_pw (wt_none rfl) (pv_assign rfl rfl) rfl rfl ?_) | (show AWL _ _ _ (⟨_, .load _ _, _, _, _, _⟩ :: _) _ _ _; refine awl_lw (wt_none rfl) (lv_cl1 T0 rfl rfl rfl (by solve | repeat' constructor) (by first | rfl | assumption)) rfl rfl rfl ?_) | (show AWL _ _ _ (⟨_, .fieldAddr _ _ _, _, _, _, _⟩ :: _) _ _ _; refine awl_pw (wt_none rfl) (pv_fa T0 rfl rfl rfl (by simp; rfl)) rfl rfl ?_) | (show AWL _ _ _ (⟨_, .build _ _, _, _, _, _⟩ :: _) _ _ _; refine awl_pw (wt_none rfl) (pv_build T0 rfl rfl rfl (by simp only [Value.cells, List.toList_toArray, List.map_cons, List.map_nil]; rfl) (by first | ((repeat' (first | exact BParts.nil | apply BParts.cons | rfl)); all_goals fail) | fail) (by first | ((repeat' (first | exact FillA.nil | exact Sp.done | apply FillA.cons | apply Sp.put | apply Sp.skip | (simp only [cellsA]; rfl) | rfl)); all_goals fail) | fail)) rfl rfl ?_) | (show AWL _ _ _ (⟨_, .binOp .lss _ _ _ _, _, _, _, _⟩ :: _) _ _ _; refine awl_pw (wt_none rfl) (pv_lss rfl rfl rfl) rfl rfl ?_) | (show AWL _ _ _ (⟨_, .nilCheck _, _, _, _, _⟩ :: _) _ _ _; refine awl_pw (wt_none rfl) (pv_nilCheck rfl rfl) rfl rfl ?_) | refine awl_nil ?_)
    refine awl_lw (wt_none rfl) (lv_lookupF Ma (k := (k, true)) rfl rfl rfl rfl (by solve | repeat' constructor) rfl) rfl rfl rfl ?_
    repeat (first | (show AWL _ _ _ (⟨_, .indexAddr _ _ _, _, _, _, _⟩ :: _) _ _ _; refine awl_pw (wt_none rfl) (pv_ix_own T0 rfl rfl rfl rfl (by omega) (by first | exact Int.toNat_natCast _ | rfl)) rfl rfl ?_))
    refine awl_hw (wt_none rfl) (aop_store_rp T0 rfl rfl rfl rfl rfl rfl rfl rfl (by solve | repeat' constructor) (by first | omega | (simp; omega)) (by omega) rfl trivial ?_)
    simp only [cellsA]
    rw [hset]
    repeat (first | refine awp_region_lit rfl ?_ | (show AWL _ _ _ (⟨_, .move _, _, _, _, _⟩ :: _) _ _ _; refine awl_pw (wt_none rfl) (pv_move rfl rfl) rfl rfl ?_) | (show AWL _ _ _ (⟨_, .binOp .add _ _ _ _, _, _, _, _⟩ :: _) _ _ _; refine awl_pw (wt_none rfl) (pv_add rfl rfl rfl (by first | assumption | exact wr64 (by omega))) rfl rfl ?_) | refine awl_nil ?_)
    refine rnd_n _ _ _ ?_ ⟨k + 1, hlt, rfl, rfl, rfl⟩ (by first | ((repeat' (first | exact True.intro | refine ⟨rfl, ?_⟩)); all_goals fail) | fail) (by solve | repeat' constructor)
    omega
  obtain rfl : k = b.cons.length := by omega
  have hend : fRows (fun i => if i < b.cons.length then F (i, true) else 0) b.cons.length = fRows (fun i => F (i, true)) b.cons.length := List.map_congr_left fun i hi => by
    show intRow (if i < b.cons.length then F (i, true) else 0) = intRow (F (i, true))
    rw [if_pos (List.mem_range.1 hi)]
  rw [hend]
  repeat (first | refine awp_seq ?_ | refine awp_region_lit rfl ?_ | refine awp_exit ?_ | refine awp_ret ?_ | refine awp_cond_f rfl (by first | rfl | assumption | exact dF (by omega)) ?_ | (show AWL _ _ _ (⟨_, .move _, _, _, _, _⟩ :: _) _ _ _; refine awl_pw (wt_none rfl) (pv_move rfl rfl) rfl rfl ?_) | (show AWL _ _ _ (⟨_, .assign _, _, _, _, _⟩ :: _) _ _ _; refine awl_pw (wt_none rfl) (pv_assign rfl rfl) rfl rfl ?_) | (show AWL _ _ _ (⟨_, .binOp .lss _ _ _ _, _, _, _, _⟩ :: _) _ _ _; refine awl_pw (wt_none rfl) (pv_lss rfl rfl rfl) rfl rfl ?_) | refine awl_nil ?_)
  exact body_r (h' := [workE gw gm b cp, leftM gm F, .rw (.slice (some ⟨ga, 0, none⟩) b.cons.length b.cons.length) 3 1 (fRows (fun i => F (i, true)) b.cons.length)]) (.cons rfl .nil) (by solve | repeat' constructor) ⟨ga, rfl, rfl⟩
theorem greatest_o (cp : Bool) (b : BookD) (hl : b.cons.length ≤ 1000) : ACall Try.prog 30 [bookA cp b] [] (fun r h' => if faultN b = 0 then ∃ (ga : Nat) (f : Nat → Int) (u : AV), r = .tup [.v (.slice (some ⟨ga, 0, none⟩) b.cons.length b.cons.length), u, intA 0] ∧ OffF b (numF b) f ∧ StuckA b f ∧ h' = [.rw (.slice (some ⟨ga, 0, none⟩) b.cons.length b.cons.length) 3 1 (fRows f b.cons.length)] else r = .tup [noneA, noneA, intA (faultN b)] ∧ h' = []) := by
  refine acall_of_awp T0 Try.func30 rfl rfl rfl ?_
  repeat (first | refine awp_seq ?_ | refine awp_region_lit rfl ?_)
  refine awl_hw (wt_none rfl) (st_box rfl rfl (by first | rfl | assumption) (by first | assumption | (simp only [cellsA]; rfl)) rfl rfl ?_)
  intro g1
  repeat (first | refine awp_seq ?_ | refine awp_region_lit rfl ?_ | (show AWL _ _ _ (⟨_, .assign _, _, _, _, _⟩ :: _) _ _ _; refine awl_pw (wt_none rfl) (pv_assign rfl rfl) rfl rfl ?_) | (show AWL _ _ _ (⟨_, .load _ _, _, _, _, _⟩ :: _) _ _ _; refine awl_lw (wt_none rfl) (lv_cla T0 rfl rfl rfl (by solve | repeat' constructor) rfl) rfl rfl rfl ?_) | refine awl_nil ?_)
  refine awl_hw (wt_none rfl) (st_call T0 (check_p cp b hl) rfl rfl rfl rfl (by first | exact callee_lit | exact callee_v | exact callee_fn | assumption) (by solve | repeat' constructor) (by first | rfl | assumption) rfl ?_)
  rintro _ rfl
  by_cases hf : faultN b = 0
  case neg =>
    have d1 : decide (faultN b ≠ 0) = true := decide_eq_true hf
    repeat (first | refine awp_seq ?_ | refine awp_region_lit rfl ?_ | refine awp_ret ?_ | refine then_n ?_ | refine then_r ?_ | refine awp_cond_t rfl (by first | rfl | assumption | exact dT (by omega)) ?_ | (show AWL _ _ _ (⟨_, .move _, _, _, _, _⟩ :: _) _ _ _; refine awl_pw (wt_none rfl) (pv_move rfl rfl) rfl rfl ?_) | (show AWL _ _ _ (⟨_, .assign _, _, _, _, _⟩ :: _) _ _ _; refine awl_pw (wt_none rfl) (pv_assign rfl rfl) rfl rfl ?_) | (show AWL _ _ _ (⟨_, .binOp .neq _ _ _ _, _, _, _, _⟩ :: _) _ _ _; refine awl_pw (wt_none rfl) (pv_neq rfl rfl rfl) rfl rfl ?_) | refine awl_nil ?_)
    refine body_r (h' := []) (.cons rfl (.cons rfl (.cons rfl .nil))) .nil ?_
    rw [if_neg hf]; exact ⟨rfl, rfl⟩
  have hv := vbook hf
  have hlen := hv.len
  simp only [if_pos hf]
  rw [hf]
  repeat (first | refine awp_seq ?_ | refine awp_region_lit rfl ?_ | refine awp_skip ?_ | refine then_n ?_ | refine awp_cond_f rfl (by first | rfl | assumption | exact dF (by omega)) ?_ | (show AWL _ _ _ (⟨_, .move _, _, _, _, _⟩ :: _) _ _ _; refine awl_pw (wt_none rfl) (pv_move rfl rfl) rfl rfl ?_) | (show AWL _ _ _ (⟨_, .assign _, _, _, _, _⟩ :: _) _ _ _; refine awl_pw (wt_none rfl) (pv_assign rfl rfl) rfl rfl ?_) | (show AWL _ _ _ (⟨_, .load _ _, _, _, _, _⟩ :: _) _ _ _; refine awl_lw (wt_none rfl) (lv_cla T0 rfl rfl rfl (by solve | repeat' constructor) rfl) rfl rfl rfl ?_) | (show AWL _ _ _ (⟨_, .binOp .neq _ _ _ _, _, _, _, _⟩ :: _) _ _ _; refine awl_pw (wt_none rfl) (pv_neq rfl rfl rfl) rfl rfl ?_) | refine awl_nil ?_)
  refine awl_hw (wt_none rfl) (st_acall T0 (work_p cp b hl) rfl rfl rfl rfl (by first | exact callee_lit | exact callee_v | exact callee_fn | assumption) (by solve | repeat' constructor) (by first | rfl | assumption) rfl (by first | ((repeat' (first | exact SubH.refl _ | apply SubH.cons | exact Pick.here | apply Pick.there)); all_goals fail) | fail) (fun _ _ => trivial) ?_)
  rintro r h ⟨gw, gm, rfl, rfl⟩
  simp only [List.cons_append, List.nil_append]
  repeat (first | refine awp_seq ?_ | refine awp_region_lit rfl ?_ | (show AWL _ _ _ (⟨_, .move _, _, _, _, _⟩ :: _) _ _ _; refine awl_pw (wt_none rfl) (pv_move rfl rfl) rfl rfl ?_) | (show AWL _ _ _ (⟨_, .assign _, _, _, _, _⟩ :: _) _ _ _; refine awl_pw (wt_none rfl) (pv_assign rfl rfl) rfl rfl ?_) | refine awl_nil ?_)
  refine awl_hw (wt_none rfl) (st_acall T0 (most_p cp b gw gm (fun _ => 0) hv (off_zero hv)) rfl rfl rfl rfl (by first | exact callee_lit | exact callee_v | exact callee_fn | assumption) (by solve | repeat' constructor) (by first | rfl | assumption) rfl (by first | ((repeat' (first | exact SubH.refl _ | apply SubH.cons | exact Pick.here | apply Pick.there)); all_goals fail) | fail) (fun _ _ => trivial) ?_)
  rintro r h ⟨f, hof, hst, rfl⟩
  simp only [List.cons_append, List.nil_append]
  repeat (first | refine awp_seq ?_ | refine awp_region_lit rfl ?_ | (show AWL _ _ _ (⟨_, .move _, _, _, _, _⟩ :: _) _ _ _; refine awl_pw (wt_none rfl) (pv_move rfl rfl) rfl rfl ?_) | refine awl_nil ?_)
  refine awl_hw (wt_none rfl) (st_acall T0 (woff_o cp b gw gm (fL (numF b) f) hl) rfl rfl rfl rfl (by first | exact callee_lit | exact callee_v | exact callee_fn | assumption) (by solve | repeat' constructor) (by first | rfl | assumption) rfl (by first | ((repeat' (first | exact SubH.refl _ | apply SubH.cons | exact Pick.here | apply Pick.there)); all_goals fail) | fail) (fun _ _ => trivial) ?_)
  rintro r h ⟨ga, rfl, rfl⟩
  simp only [List.cons_append, List.nil_append]
  repeat (first | (show AWL _ _ _ (⟨_, .move _, _, _, _, _⟩ :: _) _ _ _; refine awl_pw (wt_none rfl) (pv_move rfl rfl) rfl rfl ?_))
  refine awl_hw (wt_none rfl) (st_acall T0 (heights_p cp b gw gm f hv) rfl rfl rfl rfl (by first | exact callee_lit | exact callee_v | exact callee_fn | assumption) (by solve | repeat' constructor) (by first | rfl | assumption) rfl (by first | ((repeat' (first | exact SubH.refl _ | apply SubH.cons | exact Pick.here | apply Pick.there)); all_goals fail) | fail) (fun _ _ => trivial) ?_)
  rintro r h ⟨rfl, rfl⟩
  simp only [List.cons_append, List.nil_append]
  repeat (first | refine awp_ret ?_ | (show AWL _ _ _ (⟨_, .assign _, _, _, _, _⟩ :: _) _ _ _; refine awl_pw (wt_none rfl) (pv_assign rfl rfl) rfl rfl ?_) | refine awl_nil ?_)
  exact body_r (h' := [.rw (.slice (some ⟨ga, 0, none⟩) b.cons.length b.cons.length) 3 1 (fRows f b.cons.length)]) (.cons rfl (.cons rfl (.cons rfl .nil))) (by solve | repeat' constructor) ⟨ga, f, _, rfl, hof, hst, rfl⟩
section
variable {f g : Nat → Int} {n j g10 ga k : Nat} {x : Int} {u1 u9 u7 u50 u51 u52 u35 u36 u37 v0 : AV} {rest : List Ent}
theorem rn_13 (hj : j < n) (hn : n ≤ 1000) {ops : Array Oper} (h : regF Try.f35 13 = some ops) :
    AWP Try.prog Try.f35.ntmps none (.region 13 ops true) (cutQ (fun s h => s = [(1, u1), (4, .v (.slice (some ⟨ga, 0, none⟩) n n)), (7, u7), (9, u9), (10, .v (ptrV g10)), (35, u35), (36, u36), (37, u37)] ∧ h = .cl g10 82 [v0, intA (min x (f j))] :: .rw (.slice (some ⟨ga, 0, none⟩) n n) 3 1 (fRows f n) :: rest))
      [(12, intA j), (1, u1), (4, .v (.slice (some ⟨ga, 0, none⟩) n n)), (7, u7), (9, u9), (10, .v (ptrV g10)), (35, u35), (36, u36), (37, u37)] (.cl g10 82 [v0, intA x] :: .rw (.slice (some ⟨ga, 0, none⟩) n n) 3 1 (fRows f n) :: rest) := by
  cases h
  have r1 : ((fRows f n).getD j [])[0]? = some (intA (f j)) := fRows_at hj
  have r2 := fRows_len f n
  refine awp_tree T0 [(0, 0), (1, 1), (2, 0), (3, 0), (4, 0), (5, 1), (6, 0), (7, 0), (8, 3)] (.op 0 0 (.op 1 1 (.op 2 0 (.op 3 0 (.op 4 0 (.op 5 1 (.op 6 0 (.op 7 0 (.op 8 3 .stop))))))))) [.cl g10 _ _, .rw _ _ _ _] rfl (by kernel_rfl) (by solve | repeat' constructor) ?_
  refine awt_po rfl (wt_none rfl) (pv_fa T0 rfl rfl rfl (by simp; rfl)) rfl rfl ?_
  refine awt_lo rfl (wt_none rfl) (lv_cl1 T0 rfl rfl rfl (by solve | repeat' constructor) (by first | rfl | assumption)) rfl rfl rfl ?_
  refine awt_po rfl (wt_none rfl) (pv_move rfl rfl) rfl rfl ?_
  refine awt_po rfl (wt_none rfl) (pv_move rfl rfl) rfl rfl ?_
  refine awt_po rfl (wt_none rfl) (pv_ix_own T0 rfl rfl rfl rfl (by omega) (by first | exact Int.toNat_natCast _ | rfl)) rfl rfl ?_
  refine awt_lo rfl (wt_none rfl) (lv_rp T0 rfl rfl rfl (by solve | repeat' constructor) (by first | omega | (simp; omega)) (by omega) (by first | assumption | rfl)) rfl rfl rfl ?_
  refine awt_po rfl (wt_none rfl) (pv_min2 rfl rfl rfl) rfl rfl ?_
  refine awt_po rfl (wt_none rfl) (pv_fa T0 rfl rfl rfl (by simp; rfl)) rfl rfl ?_
  refine awt_s (md := fun _ => True) rfl (wt_none rfl) (st_store T0 rfl rfl rfl rfl rfl (by first | assumption | (simp only [cellsA]; rfl)) rfl rfl rfl (by solve | repeat' constructor) (by solve | repeat' constructor) trivial ?_)
  refine awe_end ?_
  exact cut_n ⟨rfl, rfl⟩ (by first | ((repeat' (first | exact True.intro | refine ⟨rfl, ?_⟩)); all_goals fail) | fail) (SubH.refl _)
theorem rn_18 (hj : j < n) (hn : n ≤ 1000) (b1 : -1000000 ≤ f j ∧ f j ≤ 1000000) (b2 : -1000000 ≤ x ∧ x ≤ 1000000) (hg : ∀ q, q < n → g q = if q = j then f j - x else f q) {ops : Array Oper} (h : regF Try.f35 18 = some ops) :
    AWP Try.prog Try.f35.ntmps none (.region 18 ops true) (cutQ (fun s h => s = [(1, u1), (4, .v (.slice (some ⟨ga, 0, none⟩) n n)), (7, u7), (10, .v (ptrV g10)), (50, u50), (51, u51), (52, u52)] ∧ h = .rw (.slice (some ⟨ga, 0, none⟩) n n) 3 1 (fRows g n) :: .cl g10 82 [v0, intA x] :: rest))
      [(14, intA j), (1, u1), (4, .v (.slice (some ⟨ga, 0, none⟩) n n)), (7, u7), (10, .v (ptrV g10)), (50, u50), (51, u51), (52, u52)] (.rw (.slice (some ⟨ga, 0, none⟩) n n) 3 1 (fRows f n) :: .cl g10 82 [v0, intA x] :: rest) := by
  cases h
  have r1 : ((fRows f n).getD j [])[0]? = some (intA (f j)) := fRows_at hj
  have r2 := fRows_len f n
  refine awp_tree T0 [(0, 0), (1, 0), (2, 0), (3, 1), (4, 0), (5, 1), (6, 0), (7, 0), (8, 3)] (.op 0 0 (.op 1 0 (.op 2 0 (.op 3 1 (.op 4 0 (.op 5 1 (.op 6 0 (.op 7 0 (.op 8 3 .stop))))))))) [.cl g10 _ _, .rw _ _ _ _] rfl (by kernel_rfl) (by solve | repeat' constructor) ?_
  refine awt_po rfl (wt_none rfl) (pv_move rfl rfl) rfl rfl ?_
  refine awt_po rfl (wt_none rfl) (pv_move rfl rfl) rfl rfl ?_
  refine awt_po rfl (wt_none rfl) (pv_ix_own T0 rfl rfl rfl rfl (by omega) (by first | exact Int.toNat_natCast _ | rfl)) rfl rfl ?_
  refine awt_lo rfl (wt_none rfl) (lv_rp T0 rfl rfl rfl (by solve | repeat' constructor) (by first | omega | (simp; omega)) (by omega) (by first | assumption | rfl)) rfl rfl rfl ?_
  refine awt_po rfl (wt_none rfl) (pv_fa T0 rfl rfl rfl (by simp; rfl)) rfl rfl ?_
  refine awt_lo rfl (wt_none rfl) (lv_cl1 T0 rfl rfl rfl (by solve | repeat' constructor) (by first | rfl | assumption)) rfl rfl rfl ?_
  refine awt_po rfl (wt_none rfl) (pv_sub rfl rfl rfl (by first | assumption | exact wr64 (by omega))) rfl rfl ?_
  refine awt_po rfl (wt_none rfl) (pv_ix_own T0 rfl rfl rfl rfl (by omega) (by first | exact Int.toNat_natCast _ | rfl)) rfl rfl ?_
  refine awt_s (md := fun _ => True) rfl (wt_none rfl) (aop_store_rp T0 rfl rfl rfl rfl rfl rfl rfl rfl (by solve | repeat' constructor) (by first | omega | (simp; omega)) (by omega) rfl trivial ?_)
  refine awe_end ?_
  simp only [cellsA]
  rw [fRows_set hj hg]
  exact cut_n ⟨rfl, rfl⟩ (by first | ((repeat' (first | exact True.intro | refine ⟨rfl, ?_⟩)); all_goals fail) | fail) (SubH.refl _)
end
end Go.Proofs.Ytilhflfbbfeakaa
end
section
namespace Go.Proofs.Ytilhflfbbfeakaa
open Go Go.RowKit Go.Tl
set_option linter.unusedVariables false
set_option linter.unusedSimpArgs false
set_option maxRecDepth 100000
set_option maxHeartbeats 4000000
attribute [local irreducible] AWP AWL AOp PV LV AWT AWE
/-- rings that make up a greatest setting off -/
structure RingsOk (b : BookD) (rs : List RingD) (f : Nat → Int) : Prop where
  off : OffF b (numF b) f
  stuck : StuckA b f
  ring : ∀ j, j < rs.length → isRing b (rs.getD j default)
  made : ∀ h, h < b.cons.length → madeN rs rs.length h = f h
  len : rs.length ≤ b.cons.length
theorem ringsr_p (cp : Bool) (b : BookD) (hl : b.cons.length ≤ 1000) : PCall Try.prog 35 [bookA cp b] (fun r => if faultN b = 0 then ∃ rs f, RingsOk b rs f ∧ r = .tup [.t (ringsT true true rs), intA 0] else r = .tup [noneA, intA (faultN b)]) := by
  refine acall_of_awp T0 Try.func35 rfl rfl rfl ?_
  repeat (first | refine awp_seq ?_ | refine awp_region_lit rfl ?_)
  refine awl_hw (wt_none rfl) (st_box rfl rfl (by first | rfl | assumption) (by first | assumption | (simp only [cellsA]; rfl)) rfl rfl ?_)
  intro g1
  repeat (first | refine awp_seq ?_ | refine awp_region_lit rfl ?_ | (show AWL _ _ _ (⟨_, .assign _, _, _, _, _⟩ :: _) _ _ _; refine awl_pw (wt_none rfl) (pv_assign rfl rfl) rfl rfl ?_) | (show AWL _ _ _ (⟨_, .load _ _, _, _, _, _⟩ :: _) _ _ _; refine awl_lw (wt_none rfl) (lv_cla T0 rfl rfl rfl (by solve | repeat' constructor) rfl) rfl rfl rfl ?_) | refine awl_nil ?_)
  by_cases hf : faultN b = 0
  case neg =>
    have d1 : decide (faultN b ≠ 0) = true := decide_eq_true hf
    refine awl_hw (wt_none rfl) (st_acall T0 (greatest_o cp b hl) rfl rfl rfl rfl (by first | exact callee_lit | exact callee_v | exact callee_fn | assumption) (by solve | repeat' constructor) (by first | rfl | assumption) rfl (by first | ((repeat' (first | exact SubH.refl _ | apply SubH.cons | exact Pick.here | apply Pick.there)); all_goals fail) | fail) (fun _ _ => trivial) ?_)
    (intro r h hr; rw [if_neg hf] at hr; obtain ⟨rfl, rfl⟩ := hr)
    simp only [List.cons_append, List.nil_append]
    repeat (first | refine awp_seq ?_ | refine awp_region_lit rfl ?_ | refine awp_ret ?_ | refine then_n ?_ | refine then_r ?_ | refine awp_cond_t rfl (by first | rfl | assumption | exact dT (by omega)) ?_ | (show AWL _ _ _ (⟨_, .move _, _, _, _, _⟩ :: _) _ _ _; refine awl_pw (wt_none rfl) (pv_move rfl rfl) rfl rfl ?_) | (show AWL _ _ _ (⟨_, .assign _, _, _, _, _⟩ :: _) _ _ _; refine awl_pw (wt_none rfl) (pv_assign rfl rfl) rfl rfl ?_) | (show AWL _ _ _ (⟨_, .binOp .neq _ _ _ _, _, _, _, _⟩ :: _) _ _ _; refine awl_pw (wt_none rfl) (pv_neq rfl rfl rfl) rfl rfl ?_) | (show AWL _ _ _ (⟨_, .extract _ _, _, _, _, _⟩ :: _) _ _ _; refine awl_pw (wt_none rfl) (pv_extract rfl rfl rfl) rfl rfl ?_) | refine awl_nil ?_)
    refine body_p (.cons rfl (.cons rfl .nil)) ?_
    rw [if_neg hf]; rfl
  have hv := vbook hf
  have hlen := hv.len
  have hh := hv.houses
  simp only [if_pos hf]
  refine awl_hw (wt_none rfl) (st_acall T0 (greatest_o cp b hl) rfl rfl rfl rfl (by first | exact callee_lit | exact callee_v | exact callee_fn | assumption) (by solve | repeat' constructor) (by first | rfl | assumption) rfl (by first | ((repeat' (first | exact SubH.refl _ | apply SubH.cons | exact Pick.here | apply Pick.there)); all_goals fail) | fail) (fun _ _ => trivial) ?_)
  (intro r h hr; rw [if_pos hf] at hr; obtain ⟨ga, f0, u, rfl, hof0, hst, rfl⟩ := hr)
  simp only [List.cons_append, List.nil_append]
  have hcap : ∀ i, i < b.cons.length → numF b i ≤ 100 := fun i hi => (hv.num i hi).2
  repeat (first | refine awp_seq ?_ | refine awp_block ?_ | refine awp_region_lit rfl ?_ | refine awp_skip ?_ | refine then_n ?_ | refine awp_cond_f rfl (by first | rfl | assumption | exact dF (by omega)) ?_ | (show AWL _ _ _ (⟨_, .move _, _, _, _, _⟩ :: _) _ _ _; refine awl_pw (wt_none rfl) (pv_move rfl rfl) rfl rfl ?_) | (show AWL _ _ _ (⟨_, .assign _, _, _, _, _⟩ :: _) _ _ _; refine awl_pw (wt_none rfl) (pv_assign rfl rfl) rfl rfl ?_) | (show AWL _ _ _ (⟨_, .binOp .neq _ _ _ _, _, _, _, _⟩ :: _) _ _ _; refine awl_pw (wt_none rfl) (pv_neq rfl rfl rfl) rfl rfl ?_) | (show AWL _ _ _ (⟨_, .extract _ _, _, _, _, _⟩ :: _) _ _ _; refine awl_pw (wt_none rfl) (pv_extract rfl rfl rfl) rfl rfl ?_) | refine awl_nil ?_)
  refine awp_ghost (ghost_nilrow 82 2) ?_
  refine awp_loop (fun m s h => ∃ (f : Nat → Int) (rs : List RingD) (ad : Option Addr) (c N : Nat) (rows : List (List AV)), OffF b (numF b) f ∧ m = posN f b.cons.length ∧ N = rs.length ∧ rows = rs.map ringRow ∧ rows.length = N ∧ N + posN f b.cons.length ≤ b.cons.length ∧ (∀ j, j < rs.length → isRing b (rs.getD j default)) ∧ (∀ h, h < b.cons.length → madeN rs rs.length h + f h = f0 h) ∧
    s = [(1, .v (ptrV g1)), (4, .v (.slice (some ⟨ga, 0, none⟩) b.cons.length b.cons.length)), (7, .v (.slice ad N c))] ∧ h = [.cl g1 33 [intA b.houses, .t (consT cp b.cons)], .rw (.slice (some ⟨ga, 0, none⟩) b.cons.length b.cons.length) 3 1 (fRows f b.cons.length), .rw (.slice ad N c) 82 2 rows]) ?_
    ⟨f0, [], _, _, _, _, hof0, rfl, rfl, rfl, rfl, (by have := pos_bd f0 b.cons.length; simp; omega), (fun j hj => absurd hj (Nat.not_lt_zero _)), (fun h _ => by simp [madeN]), rfl, rfl⟩ (by first | ((repeat' (first | exact True.intro | refine ⟨rfl, ?_⟩)); all_goals fail) | fail) (by solve | repeat' constructor)
  rintro m s h ⟨f, rs, ad, c, N, rows, ho, rfl, hN, hrows, hrl, hNp, hring, hmade, rfl, rfl⟩
  have hfl : (digL f b.cons.length).length = b.cons.length := by simp [digL]
  have hfr : fRows f b.cons.length = (digL f b.cons.length).map intRow := fRows_eq f _
  have hcall := iidx_o (cap := b.cons.length) (ad := some ⟨ga, 0, none⟩) (e := .cl g1 33 [intA b.houses, .t (consT cp b.cons)]) (q := fun x => decide (0 < x)) (fs := []) (cs := []) (g := 74) (fv := .v (.func (.func 74) #[] #[])) (n := b.cons.length) (digL f b.cons.length) (by omega) hfl.symm (fun _ => ⟨ga, rfl⟩) callee_lit rfl (fun x hx => pcall_frame _ (rings1_p x))
  rw [← hfr] at hcall
  repeat (first | refine awp_seq ?_ | refine awp_block ?_ | refine awp_region_lit rfl ?_ | (show AWL _ _ _ (⟨_, .move _, _, _, _, _⟩ :: _) _ _ _; refine awl_pw (wt_none rfl) (pv_move rfl rfl) rfl rfl ?_))
  refine awl_hw (wt_none rfl) (st_acall T0 (hcall) rfl rfl rfl rfl (by first | exact callee_lit | exact callee_v | exact callee_fn | assumption) (by solve | repeat' constructor) (by first | rfl | assumption) rfl (by first | ((repeat' (first | exact SubH.refl _ | apply SubH.cons | exact Pick.here | apply Pick.there)); all_goals fail) | fail) (fun _ _ => trivial) ?_)
  rintro r h ⟨⟨z, rfl, hz⟩, rfl⟩
  simp only [List.cons_append, List.nil_append]
  rcases hz with ⟨rfl, hz⟩ | ⟨k, hk, rfl, hk1, _⟩
  · have hz0 : ∀ h, h < b.cons.length → f h = 0 := fun h hh' => by
      have h1 := of_decide_eq_false (hz h (by omega))
      rw [digL_at hh'] at h1
      have := (ho.bd h hh').1
      omega
    have d1 : decide ((-1 : Int) < 0) = true := rfl
    refine awl_ghost (ghost_freeze (E := 82) (sz := 2) (n := N) (rows := rows) (d := 7) (fun q => ringL true (rs.getD q default)) (by solve | repeat' constructor) rfl hrl (by rw [hrows, hN]; exact rows_tree rs ringRow (ringL true) (fun _ => rfl))) ?_
    repeat (first | refine awp_seq ?_ | refine awp_region_lit rfl ?_ | refine awp_ret ?_ | refine then_n ?_ | refine then_r ?_ | refine blk_r ?_ | refine rnd_r ?_ | refine awp_cond_t rfl (by first | rfl | assumption | exact dT (by omega)) ?_ | (show AWL _ _ _ (⟨_, .move _, _, _, _, _⟩ :: _) _ _ _; refine awl_pw (wt_none rfl) (pv_move rfl rfl) rfl rfl ?_) | (show AWL _ _ _ (⟨_, .assign _, _, _, _, _⟩ :: _) _ _ _; refine awl_pw (wt_none rfl) (pv_assign rfl rfl) rfl rfl ?_) | (show AWL _ _ _ (⟨_, .binOp .lss _ _ _ _, _, _, _, _⟩ :: _) _ _ _; refine awl_pw (wt_none rfl) (pv_lss rfl rfl rfl) rfl rfl ?_) | refine awl_nil ?_)
    refine body_p (.cons rfl (.cons rfl .nil)) ⟨rs, f0, ⟨hof0, hst, hring, fun h hh' => by have := hmade h hh'; have := hz0 h hh'; omega, by omega⟩, ?_⟩
    rw [hN]; rfl
  as_aux_lemma =>
    rw [hfl] at hk
    have hfk : 0 < f k := by
      have := of_decide_eq_true hk1
      rwa [digL_at hk] at this
    have d1 : decide ((k : Int) < 0) = false := decide_eq_false (by omega)
    repeat (first | refine awp_seq ?_ | refine awp_region_lit rfl ?_ | refine awp_skip ?_ | refine then_n ?_ | refine awp_cond_f rfl (by first | rfl | assumption | exact dF (by omega)) ?_ | (show AWL _ _ _ (⟨_, .move _, _, _, _, _⟩ :: _) _ _ _; refine awl_pw (wt_none rfl) (pv_move rfl rfl) rfl rfl ?_) | (show AWL _ _ _ (⟨_, .assign _, _, _, _, _⟩ :: _) _ _ _; refine awl_pw (wt_none rfl) (pv_assign rfl rfl) rfl rfl ?_) | (show AWL _ _ _ (⟨_, .load _ _, _, _, _, _⟩ :: _) _ _ _; refine awl_lw (wt_none rfl) (lv_cla T0 rfl rfl rfl (by solve | repeat' constructor) rfl) rfl rfl rfl ?_) | (show AWL _ _ _ (⟨_, .binOp .lss _ _ _ _, _, _, _, _⟩ :: _) _ _ _; refine awl_pw (wt_none rfl) (pv_lss rfl rfl rfl) rfl rfl ?_) | refine awl_nil ?_)
    refine awl_hw (wt_none rfl) (st_acall T0 (bwalk_p cp b ga b.cons.length k b.cons.length f (numF b) hv rfl ho hk hfk) rfl rfl rfl rfl (by first | exact callee_lit | exact callee_v | exact callee_fn | assumption) (by solve | repeat' constructor) (by first | rfl | assumption) rfl (by first | ((repeat' (first | exact SubH.refl _ | apply SubH.cons | exact Pick.here | apply Pick.there)); all_goals fail) | fail) (fun _ _ => trivial) ?_)
    rintro r h ⟨p, hp, rfl, rfl⟩
    simp only [List.cons_append, List.nil_append]
    have hpl := ring_len hv hp.1
    have hpl' : (p.length : Int) ≤ b.houses := hpl
    have hpj : ∀ j, j < p.length → ∃ i : Nat, p.getD j 0 = i ∧ i < b.cons.length := fun j hj => by
      have := okAt_lt (hp.1.2.2.1 j hj)
      exact ⟨_, this.2, this.1⟩
    repeat (first | refine awp_seq ?_ | refine awp_region_lit rfl ?_ | (show AWL _ _ _ (⟨_, .move _, _, _, _, _⟩ :: _) _ _ _; refine awl_pw (wt_none rfl) (pv_move rfl rfl) rfl rfl ?_) | (show AWL _ _ _ (⟨_, .assign _, _, _, _, _⟩ :: _) _ _ _; refine awl_pw (wt_none rfl) (pv_assign rfl rfl) rfl rfl ?_) | (show AWL _ _ _ (⟨_, .build _ _, _, _, _, _⟩ :: _) _ _ _; refine awl_pw (wt_none rfl) (pv_build T0 rfl rfl rfl (by simp only [Value.cells, List.toList_toArray, List.map_cons, List.map_nil]; rfl) (by first | ((repeat' (first | exact BParts.nil | apply BParts.cons | rfl)); all_goals fail) | fail) (by first | ((repeat' (first | exact FillA.nil | exact Sp.done | apply FillA.cons | apply Sp.put | apply Sp.skip | (simp only [cellsA]; rfl) | rfl)); all_goals fail) | fail)) rfl rfl ?_) | refine awl_nil ?_)
    refine awl_hw (wt_none rfl) (st_alloc T0 rfl rfl rfl rfl (by simp only [Value.cells, List.toList_toArray, List.map_cons, List.map_nil]; rfl) ?_)
    intro g10
    repeat (first | refine awp_seq ?_ | refine awp_block ?_ | refine awp_region_lit rfl ?_ | (show AWL _ _ _ (⟨_, .move _, _, _, _, _⟩ :: _) _ _ _; refine awl_pw (wt_none rfl) (pv_move rfl rfl) rfl rfl ?_) | (show AWL _ _ _ (⟨_, .call ⟨.builtin .len, _, _⟩, _, _, _, _⟩ :: _) _ _ _; refine awl_pw (wt_none rfl) (pv_len_t T0 rfl rfl rfl) rfl rfl ?_) | (show AWL _ _ _ (⟨_, .store _ _ _, _, _, _, _⟩ :: _) _ _ _; refine awl_hw (wt_none rfl) (st_store T0 rfl rfl rfl rfl rfl (by first | assumption | (simp only [cellsA]; rfl)) rfl rfl rfl (by solve | repeat' constructor) (by solve | repeat' constructor) trivial ?_)) | refine awl_nil ?_)
    refine awp_loop (fun m s h => ∃ (j : Nat), j ≤ p.length ∧ m = p.length - j ∧ s = [(1, .v (ptrV g1)), (4, .v (.slice (some ⟨ga, 0, none⟩) b.cons.length b.cons.length)), (7, .v (.slice ad N c)), (9, .t (intsT true p)), (10, .v (ptrV g10)), (35, .t (intsT true p)), (36, intA p.length), (37, intA j)] ∧
      h = [.cl g10 82 [.t (intsT true p), intA (mnP f p j)], .rw (.slice (some ⟨ga, 0, none⟩) b.cons.length b.cons.length) 3 1 (fRows f b.cons.length), .cl g1 33 [intA b.houses, .t (consT cp b.cons)], .rw (.slice ad N c) 82 2 rows]) ?_ ⟨0, Nat.zero_le _, rfl, rfl, rfl⟩ (by first | ((repeat' (first | exact True.intro | refine ⟨rfl, ?_⟩)); all_goals fail) | fail) (by solve | repeat' constructor)
    rintro m s h ⟨j, hj, rfl, rfl, rfl⟩
    by_cases hlt : j < p.length
    · obtain ⟨i, hi, hil⟩ := hpj j hlt
      have hmn : mnP f p (j + 1) = min (mnP f p j) (f i) := by simp only [mnP]; rw [hi, Int.toNat_natCast]
      repeat (first | refine awp_seq ?_ | refine awp_block ?_ | refine awp_region_lit rfl ?_ | refine awp_skip ?_ | refine then_n ?_ | refine awp_cond_t rfl (by first | rfl | assumption | exact dT (by omega)) ?_ | (show AWL _ _ _ (⟨_, .assign _, _, _, _, _⟩ :: _) _ _ _; refine awl_pw (wt_none rfl) (pv_assign rfl rfl) rfl rfl ?_) | (show AWL _ _ _ (⟨_, .load _ _, _, _, _, _⟩ :: _) _ _ _; refine awl_lw (wt_none rfl) (lv_elt_sc T0 rfl rfl rfl rfl) rfl rfl rfl ?_) | (show AWL _ _ _ (⟨_, .indexAddr _ _ _, _, _, _, _⟩ :: _) _ _ _; refine awl_pw (wt_none rfl) (pv_ix_t T0 rfl rfl rfl rfl (by omega) (by first | exact Int.toNat_natCast _ | rfl)) rfl rfl ?_) | (show AWL _ _ _ (⟨_, .binOp .lss _ _ _ _, _, _, _, _⟩ :: _) _ _ _; refine awl_pw (wt_none rfl) (pv_lss rfl rfl rfl) rfl rfl ?_) | refine awl_nil ?_)
      rw [hi]
      refine awp_cutB _ (awp_weak (by first | ((repeat' (first | exact True.intro | refine ⟨rfl, ?_⟩)); all_goals fail) | fail) (by solve | repeat' constructor) (rn_13 (f := f) (n := b.cons.length) (j := i) (g10 := g10) (ga := ga) (x := mnP f p j) (u1 := .v (ptrV g1)) (u7 := .v (.slice ad N c)) (u9 := .t (intsT true p)) (u35 := .t (intsT true p)) (u36 := intA p.length) (u37 := intA j) (v0 := .t (intsT true p)) (rest := [.cl g1 33 [intA b.houses, .t (consT cp b.cons)], .rw (.slice ad N c) 82 2 rows]) hil hl rfl)) ?_
      rintro s h ⟨rfl, rfl⟩
      repeat (first | refine awp_region_lit rfl ?_ | (show AWL _ _ _ (⟨_, .move _, _, _, _, _⟩ :: _) _ _ _; refine awl_pw (wt_none rfl) (pv_move rfl rfl) rfl rfl ?_) | (show AWL _ _ _ (⟨_, .binOp .add _ _ _ _, _, _, _, _⟩ :: _) _ _ _; refine awl_pw (wt_none rfl) (pv_add rfl rfl rfl (by first | assumption | exact wr64 (by omega))) rfl rfl ?_) | refine awl_nil ?_)
      refine rnd_n _ _ _ ?_ ⟨j + 1, hlt, rfl, rfl, by rw [hmn]⟩ (by first | ((repeat' (first | exact True.intro | refine ⟨rfl, ?_⟩)); all_goals fail) | fail) (by solve | repeat' constructor)
      omega
    as_aux_lemma =>
      obtain rfl : j = p.length := by omega
      clear hlt hj
      obtain ⟨hr, ho2, hpos, hbd⟩ := ring_off hv ho hp rfl hcap
      have hx := mnP_pos (f := f) (p := p) (k := p.length) hp.2
      generalize mnP f p p.length = x at *
      have hfz : fRows f b.cons.length = fRows (fun h => f h - ringN ⟨p, x⟩ 0 h) b.cons.length := by congr 1; funext h; simp [ringN]
      repeat (first | refine awp_seq ?_ | refine awp_block ?_ | refine awp_region_lit rfl ?_ | refine awp_exit ?_ | refine awp_cond_f rfl (by first | rfl | assumption | exact dF (by omega)) ?_ | (show AWL _ _ _ (⟨_, .move _, _, _, _, _⟩ :: _) _ _ _; refine awl_pw (wt_none rfl) (pv_move rfl rfl) rfl rfl ?_) | (show AWL _ _ _ (⟨_, .binOp .lss _ _ _ _, _, _, _, _⟩ :: _) _ _ _; refine awl_pw (wt_none rfl) (pv_lss rfl rfl rfl) rfl rfl ?_) | (show AWL _ _ _ (⟨_, .call ⟨.builtin .len, _, _⟩, _, _, _, _⟩ :: _) _ _ _; refine awl_pw (wt_none rfl) (pv_len_t T0 rfl rfl rfl) rfl rfl ?_) | refine awl_nil ?_)
      rw [hfz]
      refine awp_loop (fun m s h => ∃ (j : Nat), j ≤ p.length ∧ m = p.length - j ∧ s = [(1, .v (ptrV g1)), (4, .v (.slice (some ⟨ga, 0, none⟩) b.cons.length b.cons.length)), (7, .v (.slice ad N c)), (10, .v (ptrV g10)), (50, .t (intsT true p)), (51, intA p.length), (52, intA j)] ∧
        h = [.rw (.slice (some ⟨ga, 0, none⟩) b.cons.length b.cons.length) 3 1 (fRows (fun h => f h - ringN ⟨p, x⟩ j h) b.cons.length), .cl g10 82 [.t (intsT true p), intA x], .cl g1 33 [intA b.houses, .t (consT cp b.cons)], .rw (.slice ad N c) 82 2 rows]) ?_ ⟨0, Nat.zero_le _, rfl, rfl, rfl⟩ (by first | ((repeat' (first | exact True.intro | refine ⟨rfl, ?_⟩)); all_goals fail) | fail) (by solve | repeat' constructor)
      rintro m s h ⟨j, hj, rfl, rfl, rfl⟩
      by_cases hlt : j < p.length
      · obtain ⟨i, hi, hil⟩ := hpj j hlt
        have hb := hbd j i (by omega) hil
        have hi2 : (RingD.mk p x).cons.getD j 0 = (i : Int) := hi
        repeat (first | refine awp_seq ?_ | refine awp_block ?_ | refine awp_region_lit rfl ?_ | refine awp_skip ?_ | refine then_n ?_ | refine awp_cond_t rfl (by first | rfl | assumption | exact dT (by omega)) ?_ | (show AWL _ _ _ (⟨_, .assign _, _, _, _, _⟩ :: _) _ _ _; refine awl_pw (wt_none rfl) (pv_assign rfl rfl) rfl rfl ?_) | (show AWL _ _ _ (⟨_, .load _ _, _, _, _, _⟩ :: _) _ _ _; refine awl_lw (wt_none rfl) (lv_elt_sc T0 rfl rfl rfl rfl) rfl rfl rfl ?_) | (show AWL _ _ _ (⟨_, .indexAddr _ _ _, _, _, _, _⟩ :: _) _ _ _; refine awl_pw (wt_none rfl) (pv_ix_t T0 rfl rfl rfl rfl (by omega) (by first | exact Int.toNat_natCast _ | rfl)) rfl rfl ?_) | (show AWL _ _ _ (⟨_, .binOp .lss _ _ _ _, _, _, _, _⟩ :: _) _ _ _; refine awl_pw (wt_none rfl) (pv_lss rfl rfl rfl) rfl rfl ?_) | refine awl_nil ?_)
        rw [hi]
        refine awp_cutB _ (awp_weak (by first | ((repeat' (first | exact True.intro | refine ⟨rfl, ?_⟩)); all_goals fail) | fail) (by solve | repeat' constructor) (rn_18 (f := fun h => f h - ringN ⟨p, x⟩ j h) (g := fun h => f h - ringN ⟨p, x⟩ (j + 1) h) (n := b.cons.length) (j := i) (g10 := g10) (ga := ga) (x := x) (u1 := .v (ptrV g1)) (u7 := .v (.slice ad N c)) (u50 := .t (intsT true p)) (u51 := intA p.length) (u52 := intA j) (v0 := .t (intsT true p)) (rest := [.cl g1 33 [intA b.houses, .t (consT cp b.cons)], .rw (.slice ad N c) 82 2 rows]) hil hl (by show -1000000 ≤ f i - ringN ⟨p, x⟩ j i ∧ f i - ringN ⟨p, x⟩ j i ≤ 1000000; omega) (by omega) (fun q hq => by
          simp only [ringN]
          rw [hi2]
          by_cases e : q = i
          · subst e; rw [if_pos rfl, if_pos rfl]; show f q - (_ + x) = _; omega
          · rw [if_neg (c := (i : Int) = (q : Int)) (by omega), if_neg e]; omega) rfl)) ?_
        rintro s h ⟨rfl, rfl⟩
        repeat (first | refine awp_region_lit rfl ?_ | (show AWL _ _ _ (⟨_, .move _, _, _, _, _⟩ :: _) _ _ _; refine awl_pw (wt_none rfl) (pv_move rfl rfl) rfl rfl ?_) | (show AWL _ _ _ (⟨_, .binOp .add _ _ _ _, _, _, _, _⟩ :: _) _ _ _; refine awl_pw (wt_none rfl) (pv_add rfl rfl rfl (by first | assumption | exact wr64 (by omega))) rfl rfl ?_) | refine awl_nil ?_)
        refine rnd_n _ _ _ ?_ ⟨j + 1, hlt, rfl, rfl, rfl⟩ (by first | ((repeat' (first | exact True.intro | refine ⟨rfl, ?_⟩)); all_goals fail) | fail) (by solve | repeat' constructor)
        omega
      obtain rfl : j = p.length := by omega
      repeat (first | refine awp_seq ?_ | refine awp_region_lit rfl ?_ | refine awp_exit ?_ | refine awp_cond_f rfl (by first | rfl | assumption | exact dF (by omega)) ?_ | (show AWL _ _ _ (⟨_, .move _, _, _, _, _⟩ :: _) _ _ _; refine awl_pw (wt_none rfl) (pv_move rfl rfl) rfl rfl ?_) | (show AWL _ _ _ (⟨_, .load _ _, _, _, _, _⟩ :: _) _ _ _; refine awl_lw (wt_none rfl) (lv_cla T0 rfl rfl rfl (by solve | repeat' constructor) rfl) rfl rfl rfl ?_) | (show AWL _ _ _ (⟨_, .binOp .lss _ _ _ _, _, _, _, _⟩ :: _) _ _ _; refine awl_pw (wt_none rfl) (pv_lss rfl rfl rfl) rfl rfl ?_) | refine awl_nil ?_)
      refine awl_hw (wt_none rfl) (st_bsl T0 rfl rfl rfl rfl rfl (by solve | repeat' constructor) rfl rfl rfl rfl (by simp only [List.map_cons, List.map_nil, cellsA]; rfl) ?_)
      intro g67
      skip
      refine awl_hw (wt_none rfl) (st_app T0 rfl rfl rfl rfl rfl rfl rfl rfl rfl (by solve | repeat' constructor) (by solve | repeat' constructor) rfl rfl hrl (by omega) (fun _ _ => trivial) ?_)
      intro a68 c68 p68
      repeat (first | refine blk_n ?_ | (show AWL _ _ _ (⟨_, .assign _, _, _, _, _⟩ :: _) _ _ _; refine awl_pw (wt_none rfl) (pv_assign rfl rfl) rfl rfl ?_) | refine awl_nil ?_)
      refine rnd_n _ _ _ ?_ ⟨fun h => f h - ringN ⟨p, x⟩ p.length h, rs ++ [⟨p, x⟩], _, _, N + 1, _, ho2, rfl, ?_, ?_, ?_, ?_, ?_, ?_, rfl, rfl⟩ (by first | ((repeat' (first | exact True.intro | refine ⟨rfl, ?_⟩)); all_goals fail) | fail) (by solve | repeat' constructor)
      · omega
      · simp; omega
      · rw [hrows, List.map_append]; rfl
      · simp; omega
      · omega
      · intro q hq
        simp only [List.length_append, List.length_cons, List.length_nil] at hq
        by_cases e : q < rs.length
        · rw [rd_snoc e]; exact hring q e
        · obtain rfl : q = rs.length := by omega
          rw [rd_last]; exact hr
      · intro h hh'
        have h1 := hmade h hh'
        have h2 : (rs ++ [(⟨p, x⟩ : RingD)]).length = rs.length + 1 := by simp
        rw [h2, made_snoc]
        show madeN rs rs.length h + ringN ⟨p, x⟩ p.length h + (f h - ringN ⟨p, x⟩ p.length h) = f0 h
        omega
end Go.Proofs.Ytilhflfbbfeakaa
end
