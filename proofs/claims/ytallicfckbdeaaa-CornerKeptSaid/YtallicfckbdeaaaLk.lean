/- Flags of markets; whether a number is in a list (Try.func52); houses that would not sell: plain. -/
import Derived.Test.YtallicfckbdeaaaLb
import Derived.Test.YtallicfckbdeaaaXb
import Derived.Test.YtallicfckbdeaaaGHc
import Derived.Test.YtallicfckbdeaaaGHa
import Derived.Test.YtallicfckbdeaaaGTy
namespace Go.Proofs.Ytallicfckbdeaaa
open Go Go.RowKit Go.Tl
set_option linter.unusedVariables false
set_option linter.unusedSimpArgs false
set_option maxRecDepth 100000
set_option maxHeartbeats 4000000
theorem acall_args {P : Program} {f : Nat} {args args' : List AV} {hc : List Ent} {Q : AV → List Ent → Prop} (C : ACall P f args' hc Q) (H : AVsLe args args') : ACall P f args hc Q := fun w S vs h1 h2 h3 => C w S vs h1 h2 (H.rels h3)
theorem pv_nilCheck_rp {P : Program} {o : Oper} {s : Slots} {x : Operand} {v : Value} {sz k off : Nat} (ho : o.op = .nilCheck x) (hx : evA s x = some (.rp v sz k off)) : PV P o s (.rp v sz k off) := fun w S a hs => by
  have h := hs.eval hx
  generalize hev : a.eval x = u at *
  cases h with
  | rp => exact ⟨_, fun w' => by simp [execOp, ho, hev], .rp⟩
theorem hous_le (cp : Bool) (hs : List HouD) : TrLe (housT cp hs) (housT false hs) := TrLe.sl (fun h => by cases h) (fun k hk => ⟨rfl, fun j x x' h1 h2 => by rw [h1] at h2; cases h2; exact TrLe.refl _⟩)
theorem cons_le (cp : Bool) (cs : List ConD) : TrLe (consT cp cs) (consT false cs) := TrLe.sl (fun h => by cases h) (fun k hk => ⟨rfl, fun j x x' h1 h2 => by rw [h1] at h2; cases h2; exact TrLe.refl _⟩)
theorem mkt_le (cp cc : Bool) (m : MktD) : AVLe (mktA cp cc m) (mktA false false m) := AVLe.ag (.cons (AVLe.refl _) (.cons (AVLe.t (hous_le cp m.hou)) (.cons (AVLe.t (cons_le cc m.con)) .nil)))
theorem market_q (cp cc : Bool) (m : MktD) (hl : m.hou.length ≤ 1000) (hc : m.con.length ≤ 1000) : PCall Try.prog 20 [mktA cp cc m] (fun r => r = mktA true true m) := acall_args (market_p m hl hc) (.cons (mkt_le cp cc m) .nil)
theorem lawfault_q (cp cc : Bool) (m : MktD) (hl : m.hou.length ≤ 1000000) (hc : m.con.length ≤ 1000000) : PCall Try.prog 23 [mktA cp cc m] (fun r => r = intA (faultN m)) := acall_args (lawfault_p m hl hc) (.cons (mkt_le cp cc m) .nil)
theorem ready_q (cp cc : Bool) (m : MktD) (hl : m.hou.length ≤ 9223372036854775807) (hc : m.con.length ≤ 9223372036854775807) : PCall Try.prog 44 [mktA cp cc m] (fun x => x = boolA (decide (faultN m = 0))) := acall_args (ready_p m hl hc) (.cons (mkt_le cp cc m) .nil)
/-- more houses that would not sell: the truths are the same, the shortage is not smaller -/
theorem keep_truth {m : MktD} {l : List Int} (hl : ∀ x ∈ l, 0 ≤ x) (t : List Int) : truthB (keepM m l) t = truthB m t := by
  have h1 : (keepM m l).hou.length = m.hou.length := keep_len l m.hou
  have e : ∀ k, k < m.hou.length → ((keepM m l).hou.getD k default).lo = (m.hou.getD k default).lo ∧ ((keepM m l).hou.getD k default).hi = (m.hou.getD k default).hi := fun k hk => by
    have := keep_at (l := l) (hs := m.hou) hk hl
    show ((keepL m.hou l).getD k default).lo = _ ∧ ((keepL m.hou l).getD k default).hi = _
    rw [this]
    split <;> exact ⟨rfl, rfl⟩
  have hlf : ∀ k, leftN (keepM m l) t k = leftN m t k := fun k => by rw [left_sum, left_sum]
  rw [Bool.eq_iff_iff, truth_iff, truth_iff, h1]
  constructor
  · rintro ⟨a, b, c⟩
    refine ⟨a, fun k hk => ?_, by rw [← hlf]; exact c⟩
    have := b k hk
    rw [(e k hk).1, (e k hk).2] at this
    exact this
  · rintro ⟨a, b, c⟩
    refine ⟨a, fun k hk => ?_, by rw [hlf]; exact c⟩
    rw [(e k hk).1, (e k hk).2]
    exact b k hk
theorem keep_short {m : MktD} {l : List Int} (hl : ∀ x ∈ l, 0 ≤ x) {t : List Int} (ht : t.length = m.hou.length) : shortT m t ≤ shortT (keepM m l) t := by
  have h1 : (keepM m l).hou.length = m.hou.length := keep_len l m.hou
  rw [short_sum ht, short_sum (by rw [h1]; exact ht), h1]
  refine sumF_le fun k hk => ?_
  show shortF (m.hou.getD k default) (posN m t k) ≤ shortF ((keepL m.hou l).getD k default) (posN m t k)
  rw [keep_at hk hl]
  split
  · unfold shortF spareN noSell
    split <;> simp <;> omega
  · exact Int.le_refl _
theorem keep_poss {m : MktD} (hv : VMkt m) {l : List Int} (hl : ∀ x ∈ l, 0 ≤ x) : possB (keepM m l) = possB m := by
  rw [Bool.eq_iff_iff, poss_iff (keep_ok hv hl), poss_iff hv]
  exact ⟨fun ⟨t, h⟩ => ⟨t, by rw [← keep_truth hl]; exact h⟩, fun ⟨t, h⟩ => ⟨t, by rw [keep_truth hl]; exact h⟩⟩
theorem keep_low {m : MktD} (hv : VMkt m) {l : List Int} (hl : ∀ x ∈ l, 0 ≤ x) (hp : possB m = true) : lowN m ≤ lowN (keepM m l) :=
  low_mono hv (keep_ok hv hl) (fun t h => ⟨by rw [← keep_truth hl]; exact h, keep_short hl (by rw [keep_truth hl] at h; exact (truth_iff.1 h).1)⟩) (poss_ne (keep_ok hv hl) (by rw [keep_poss hv hl]; exact hp))
theorem keep_high {m : MktD} (hv : VMkt m) {l : List Int} (hl : ∀ x ∈ l, 0 ≤ x) (hp : possB m = true) : highN m ≤ highN (keepM m l) :=
  high_mono hv (keep_ok hv hl) (fun t h => ⟨by rw [keep_truth hl]; exact h, keep_short hl (truth_iff.1 h).1⟩) (poss_ne hv hp)
theorem all_set {hs : List HouD} {i : Nat} {x : HouD} (h : hs.all houB = true) (hx : houB x = true) : (hs.set i x).all houB = true := by
  rw [List.all_eq_true] at h ⊢
  intro y hy
  rcases List.mem_or_eq_of_mem_set hy with h1 | h1
  · exact h y h1
  · rw [h1]; exact hx
theorem fault_set {m : MktD} {i : Nat} {x : HouD} (h : faultN m = 0) (hx : houB x = true) : faultN ⟨m.ex, m.hou.set i x, m.con⟩ = 0 := by
  unfold faultN at h ⊢
  show (if 6 < (m.hou.set i x).length ∨ 8 < m.con.length then (3 : Int) else if (inB m.ex 1 200 = true ∧ (m.hou.set i x).length ≠ 0) ∧ (m.hou.set i x).all houB = true ∧ m.con.all (conB (m.hou.set i x).length) = true then 0 else 1) = 0
  rw [List.length_set]
  split at h
  · cases h
  · rename_i h0
    rw [if_neg h0]
    split at h
    · rename_i h1
      rw [if_pos ⟨h1.1, all_set h1.2.1 hx, h1.2.2⟩]
    · cases h
theorem hou_ok {m : MktD} (h : faultN m = 0) {i : Nat} (hi : i < m.hou.length) : houB (m.hou.getD i default) = true := by
  unfold faultN at h
  split at h
  · cases h
  split at h
  · rename_i h1
    have k5 : ∀ i, i < m.hou.length → houB (m.hou.getD i default) = true := all_getD.1 h1.2.1
    exact k5 i hi
  · cases h
theorem keep_fault {m : MktD} (h : faultN m = 0) {i : Nat} (hi : i < m.hou.length) : faultN (keepM m [(i : Int)]) = 0 := fault_set (i := i) h (hou_ok h hi)
/-- who is essential -/
theorem ess_mem {m : MktD} {f : Int × Int → Int} {x : Nat} : ∀ {k : Nat}, (x : Int) ∈ essL m f k ↔ x < k ∧ (m.hou.getD x default).sells = true ∧ 0 < f (bndN (keepM m [(x : Int)]))
  | 0 => ⟨(fun h => by cases h), (fun h => absurd h.1 (Nat.not_lt_zero _))⟩
  | k + 1 => by
    have ih := ess_mem (m := m) (f := f) (x := x) (k := k)
    by_cases c : (m.hou.getD k default).sells = true ∧ 0 < f (bndN (keepM m [(k : Int)]))
    · rw [ess_yes c, List.mem_append, ih, List.mem_singleton]
      constructor
      · rintro (h | h)
        · exact ⟨by omega, h.2⟩
        · obtain rfl : x = k := by omega
          exact ⟨by omega, c⟩
      · rintro ⟨h1, h2⟩
        by_cases e : x = k
        · exact .inr (by rw [e])
        · exact .inl ⟨by omega, h2⟩
    · rw [ess_no c, ih]
      constructor
      · exact fun h => ⟨by omega, h.2⟩
      · rintro ⟨h1, h2⟩
        by_cases e : x = k
        · subst e; exact absurd h2 c
        · exact ⟨by omega, h2⟩
theorem houRows_range (l : List HouD) : ((List.range l.length).map fun k => (houL (l.getD k default)).map AV.ofTr) = l.map houRow := by
  refine List.ext_getElem (by simp) fun k h1 h2 => ?_
  simp at h1 h2
  simp [List.getD_eq_getElem?_getD, h1, AV.ofTr, houL, houRow]
theorem hrow_at {hs : List HouD} {q : Nat} (hq : q < hs.length) : (hs.map houRow).getD q [] = houRow (hs.getD q default) := by simp [List.getD_eq_getElem?_getD, hq]
theorem hrow_set {hs : List HouD} {q off : Nat} {h' : HouD} {ys : List AV} (hq : q < hs.length) (e : spA (houRow (hs.getD q default)) off ys = houRow h') : (hs.map houRow).set q (spA ((hs.map houRow).getD q []) off ys) = (hs.set q h').map houRow := by
  rw [hrow_at hq, e, List.map_set]
theorem set_at {hs : List HouD} {q k : Nat} {h : HouD} (hk : k < hs.length) : (hs.set q h).getD k default = if k = q then h else hs.getD k default := by
  rw [List.getD_eq_getElem?_getD, List.getElem?_set]
  by_cases e : q = k
  · subst e; rw [if_pos rfl, if_pos hk, if_pos rfl]; rfl
  · rw [if_neg e, if_neg (fun h => e h.symm), ← List.getD_eq_getElem?_getD]
/-- a market in which one house is another one -/
abbrev setH (m : MktD) (q : Nat) (h : HouD) : MktD := ⟨m.ex, m.hou.set q h, m.con⟩
theorem setH_len (m : MktD) (q : Nat) (h : HouD) : (setH m q h).hou.length = m.hou.length := List.length_set
theorem keep_setH (m : MktD) (q : Nat) : keepM m [(q : Int)] = setH m q (noSell (m.hou.getD q default)) := rfl
/-- the same sellers: the shortage is the same -/
theorem setH_short {m : MktD} {q : Nat} {h : HouD} (hs : h.sells = (m.hou.getD q default).sells) {t : List Int} (ht : t.length = m.hou.length) : shortT (setH m q h) t = shortT m t := by
  rw [short_sum ht, short_sum (by rw [setH_len]; exact ht), setH_len]
  refine sumF_congr fun k hk => ?_
  show shortF ((m.hou.set q h).getD k default) (posN m t k) = shortF (m.hou.getD k default) (posN m t k)
  rw [set_at hk]
  split
  · rename_i e
    subst e
    unfold shortF spareN
    rw [hs]
  · rfl
/-- wider holdings: truths stay truths -/
theorem setH_truth {m : MktD} {q : Nat} {h : HouD} (h1 : h.lo ≤ (m.hou.getD q default).lo) (h2 : (m.hou.getD q default).hi ≤ h.hi) {t : List Int} (ht : truthB m t = true) : truthB (setH m q h) t = true := by
  obtain ⟨a, b, c⟩ := truth_iff.1 ht
  refine truth_iff.2 ⟨by rw [setH_len]; exact a, fun k hk => ?_, ?_⟩
  · rw [setH_len] at hk
    have := inB_iff.1 (b k hk)
    show inB (t.getD k 0) ((m.hou.set q h).getD k default).lo ((m.hou.set q h).getD k default).hi = true
    rw [set_at hk]
    split
    · rename_i e
      subst e
      exact inB_iff.2 (by omega)
    · exact b k hk
  · rw [setH_len, left_sum]
    rw [left_sum] at c
    exact c
attribute [local irreducible] AWP AWL AOp PV LV AWT AWE
theorem has_p (cp : Bool) (l : List Int) (n : Int) (hl : l.length ≤ 1000) : PCall Try.prog 52 [.t (intsT cp l), intA n] (fun r => r = boolA (decide (n ∈ l))) := by
  refine acall_of_awp T0 Try.func52 rfl rfl rfl ?_
  repeat (first | refine awp_seq ?_ | refine awp_block ?_ | refine awp_region_lit rfl ?_ | (show AWL _ _ _ (⟨_, .assign _, _, _, _, _⟩ :: _) _ _ _; refine awl_pw (wt_none rfl) (pv_assign rfl rfl) rfl rfl ?_) | refine awl_nil ?_)
  refine awp_loop (fun q s h => ∃ (k : Nat), k ≤ l.length ∧ q = l.length - k ∧ (∀ j, j < k → l.getD j 0 ≠ n) ∧ s = [(0, .t (intsT cp l)), (1, intA n), (5, intA k)] ∧ h = []) ?_ ⟨0, Nat.zero_le _, rfl, (fun j hj => absurd hj (Nat.not_lt_zero _)), rfl, rfl⟩ ssA rcA
  rintro q s h ⟨k, hk, rfl, hno, rfl, rfl⟩
  by_cases hkt : k < l.length
  case neg =>
    obtain rfl : k = l.length := by omega
    have hE : decide (n ∈ l) = false := decide_eq_false fun h => by
      obtain ⟨j, hj, e⟩ := List.mem_iff_getElem.1 h
      exact hno j hj (by rw [List.getD_eq_getElem?_getD, List.getElem?_eq_getElem hj]; exact e)
    rw [hE]
    repeat (first | refine awp_seq ?_ | refine awp_region_lit rfl ?_ | refine awp_exit ?_ | refine awp_ret ?_ | refine then_n ?_ | refine awp_cond_f rfl (by first | rfl | assumption | exact dF (by omega)) ?_ | (show AWL _ _ _ (⟨_, .move _, _, _, _, _⟩ :: _) _ _ _; refine awl_pw (wt_none rfl) (pv_move rfl rfl) rfl rfl ?_) | (show AWL _ _ _ (⟨_, .assign _, _, _, _, _⟩ :: _) _ _ _; refine awl_pw (wt_none rfl) (pv_assign rfl rfl) rfl rfl ?_) | (show AWL _ _ _ (⟨_, .binOp .lss _ _ _ _, _, _, _, _⟩ :: _) _ _ _; refine awl_pw (wt_none rfl) (pv_lss rfl rfl rfl) rfl rfl ?_) | (show AWL _ _ _ (⟨_, .call ⟨.builtin .len, _, _⟩, _, _, _, _⟩ :: _) _ _ _; refine awl_pw (wt_none rfl) (pv_len_t T0 rfl rfl rfl) rfl rfl ?_) | refine awl_nil ?_)
    exact body_p (.cons rfl .nil) rfl
  by_cases e : l.getD k 0 = n
  · have d := decide_eq_true e
    have hE : decide (n ∈ l) = true := decide_eq_true (by rw [← e]; exact getD_mem hkt)
    rw [hE]
    repeat (first | refine awp_seq ?_ | refine awp_block ?_ | refine awp_region_lit rfl ?_ | refine awp_skip ?_ | refine awp_ret ?_ | refine then_n ?_ | refine then_r ?_ | refine blk_r ?_ | refine rnd_r ?_ | refine awp_cond_t rfl (by first | rfl | assumption | exact dT (by omega)) ?_ | (show AWL _ _ _ (⟨_, .move _, _, _, _, _⟩ :: _) _ _ _; refine awl_pw (wt_none rfl) (pv_move rfl rfl) rfl rfl ?_) | (show AWL _ _ _ (⟨_, .assign _, _, _, _, _⟩ :: _) _ _ _; refine awl_pw (wt_none rfl) (pv_assign rfl rfl) rfl rfl ?_) | (show AWL _ _ _ (⟨_, .load _ _, _, _, _, _⟩ :: _) _ _ _; refine awl_lw (wt_none rfl) (lv_elt_sc T0 rfl rfl rfl rfl) rfl rfl rfl ?_) | (show AWL _ _ _ (⟨_, .indexAddr _ _ _, _, _, _, _⟩ :: _) _ _ _; refine awl_pw (wt_none rfl) (pv_ix_t T0 rfl rfl rfl rfl (by omega) ixA) rfl rfl ?_) | (show AWL _ _ _ (⟨_, .binOp .lss _ _ _ _, _, _, _, _⟩ :: _) _ _ _; refine awl_pw (wt_none rfl) (pv_lss rfl rfl rfl) rfl rfl ?_) | (show AWL _ _ _ (⟨_, .binOp .eql _ _ _ _, _, _, _, _⟩ :: _) _ _ _; refine awl_pw (wt_none rfl) (pv_eql rfl rfl rfl) rfl rfl ?_) | (show AWL _ _ _ (⟨_, .call ⟨.builtin .len, _, _⟩, _, _, _, _⟩ :: _) _ _ _; refine awl_pw (wt_none rfl) (pv_len_t T0 rfl rfl rfl) rfl rfl ?_) | refine awl_nil ?_)
    exact body_p (.cons rfl .nil) rfl
  · have d := decide_eq_false e
    repeat (first | refine awp_seq ?_ | refine awp_block ?_ | refine awp_region_lit rfl ?_ | refine awp_skip ?_ | refine then_n ?_ | refine awp_cond_t rfl (by first | rfl | assumption | exact dT (by omega)) ?_ | refine awp_cond_f rfl (by first | rfl | assumption | exact dF (by omega)) ?_ | (show AWL _ _ _ (⟨_, .move _, _, _, _, _⟩ :: _) _ _ _; refine awl_pw (wt_none rfl) (pv_move rfl rfl) rfl rfl ?_) | (show AWL _ _ _ (⟨_, .assign _, _, _, _, _⟩ :: _) _ _ _; refine awl_pw (wt_none rfl) (pv_assign rfl rfl) rfl rfl ?_) | (show AWL _ _ _ (⟨_, .load _ _, _, _, _, _⟩ :: _) _ _ _; refine awl_lw (wt_none rfl) (lv_elt_sc T0 rfl rfl rfl rfl) rfl rfl rfl ?_) | (show AWL _ _ _ (⟨_, .indexAddr _ _ _, _, _, _, _⟩ :: _) _ _ _; refine awl_pw (wt_none rfl) (pv_ix_t T0 rfl rfl rfl rfl (by omega) ixA) rfl rfl ?_) | (show AWL _ _ _ (⟨_, .binOp .add _ _ _ _, _, _, _, _⟩ :: _) _ _ _; refine awl_pw (wt_none rfl) (pv_add rfl rfl rfl (by first | assumption | exact wr64 (by omega))) rfl rfl ?_) | (show AWL _ _ _ (⟨_, .binOp .lss _ _ _ _, _, _, _, _⟩ :: _) _ _ _; refine awl_pw (wt_none rfl) (pv_lss rfl rfl rfl) rfl rfl ?_) | (show AWL _ _ _ (⟨_, .binOp .eql _ _ _ _, _, _, _, _⟩ :: _) _ _ _; refine awl_pw (wt_none rfl) (pv_eql rfl rfl rfl) rfl rfl ?_) | (show AWL _ _ _ (⟨_, .call ⟨.builtin .len, _, _⟩, _, _, _, _⟩ :: _) _ _ _; refine awl_pw (wt_none rfl) (pv_len_t T0 rfl rfl rfl) rfl rfl ?_) | refine awl_nil ?_)
    refine rnd_n _ _ _ ?_ ⟨k + 1, hkt, rfl, (fun j hj => ?_), rfl, rfl⟩ ssA rcA
    · omega
    · by_cases c : j = k
      · subst c; exact e
      · exact hno j (by omega)
end Go.Proofs.Ytallicfckbdeaaa
