/- Joined texts: Si0, Si. -/
import Derived.Test.YtilhflfbbfeakaaZlGBf
import Derived.Test.YtilhflfbbfeakaaZlGRi
import Derived.Test.YtilhflfbbfeakaaTz
section
namespace Go.Tl
open Go Go.RowKit
set_option linter.unusedSimpArgs false
set_option linter.unusedVariables false
theorem acall_unpackL {P : Program} {g : Nat} {args : List AV} {hc h0 : List Ent} {R : AV → Prop} (C : ACall P g args (.ob (packOb hc) :: h0) (fun r h' => R r ∧ h' = .ob (packOb hc) :: h0)) : ACall P g args (hc ++ h0) (fun r h' => R r ∧ h' = hc ++ h0) := fun w S vs h1 h2 h3 => by
  refine (C w S vs h1 (pack_hrel h2) h3).mono fun e w' ⟨v, S', r, h', e1, ⟨hR, eh⟩, hvr, E, hlt, hr, hl⟩ => ?_
  subst eh
  refine ⟨v, S', r, _, e1, ⟨hR, rfl⟩, hvr, ⟨E.os, E.tape, E.output, E.size, fun b hb hn => E.keep b hb (fun ho => hn (own_pack.1 ho)), E.stab, fun b hb => ?_⟩, hlt, unpack_hrel hr, fun e he g hg => ?_⟩
  · rcases E.new b hb with h | h | h
    · exact .inl h
    · exact .inr (.inl h)
    · exact .inr (.inr (own_pack.1 h))
  · obtain ⟨e2, he2, hg2⟩ := own_pack.2 ⟨e, he, hg⟩
    rcases hl e2 he2 g hg2 with h | h
    · exact .inl (own_pack.1 h)
    · exact .inr h
theorem pv_slice_lo_t {P : Program} {o : Oper} {s : Slots} (T : TT P) {t e sz bt n k : Nat} {x y : Operand} {f : Nat → List Tr} {kd : IntKind} {i : Int} (ho : o.op = .slice t x (some y) none none) (hx : evA s x = some (.t (.sl true sz n f))) (hy : evA s y = some (.v (.int kd i))) (ht : f2 T.elm t = some (e, sz, bt)) (hk : i = (k : Int)) (hkn : k < n) : PV P o s (.t (.sl true sz (n - k) (fun q => f (k + q)))) := fun w S a hs => by
  obtain ⟨j, hund, hj, hjs, hjb, hne⟩ := T.elm_at ht
  have h1 := hs.eval hx
  subst hk
  generalize hv : a.eval x = v at *
  cases h1 with
  | t h1 =>
    cases h1 with
    | @sl _ _ _ _ a0 c val hc hl h ih =>
      have hcn := hc rfl
      obtain ⟨b, off, e1, _, _⟩ := h k hkn
      subst e1
      refine ⟨.slice (some ⟨b, off + k * sz, none⟩) (n - k) (c - k), fun w' => ?_, .t (.sl (fun q => val (k + q)) (fun _ => by omega) (fun q hq => hl (k + q) (by omega)) (fun q hq => ?_) (fun q r z hq hz => ih (k + q) r z (by omega) hz))⟩
      · have e1 : (k : Int) ≤ (n : Int) := by omega
        have e2 : ¬ c = k := by omega
        simp [execOp, ho, hv, hs.lit hy, Instr.sliceAt, Instr.slice, run_underlying hund, Instr.sliceBounds, Instr.sliceBound, asIntOf, e1, run_sizeOf' hj, hjs, e2, Addr.add_lit]
        intro hlt
        exact absurd hlt (by omega)
      · obtain ⟨b', off', e1, e2, e3⟩ := h (k + q) (by omega)
        simp at e1
        obtain ⟨rfl, rfl⟩ := e1
        refine ⟨b, off + k * sz, rfl, e2, fun r hr => ?_⟩
        have := e3 r hr
        rw [← this]
        congr 2
        rw [Nat.add_mul]
        omega
end Go.Tl
namespace Go.Proofs.Ytilhflfbbfeakaa
open Go Go.RowKit Go.Tl
set_option linter.unusedVariables false
set_option linter.unusedSimpArgs false
set_option maxRecDepth 100000
set_option maxHeartbeats 4000000
theorem intRow_at {l : List Int} {k : Nat} (h : k < l.length) : ((l.map intRow).getD k [])[0]? = some (intA (l.getD k 0)) := by
  simp [List.getD_eq_getElem?_getD, h, intRow]
attribute [local irreducible] AWP AWL AOp PV LV AWT AWE
theorem iidx_o {fv : AV} {g n cap : Nat} {ad : Option Addr} {fs cs : List AV} {e : Ent} {q : Int → Bool} (l : List Int) (hl : l.length ≤ 1000) (hn : n = l.length) (hga : 0 < n → ∃ ga, ad = some ⟨ga, 0, none⟩) (hcal : Tl.Callee fv g fs cs) (hg : T0.fns.any g.beq = true)
    (hq : ∀ c, c ∈ l → ACall Try.prog g (fs ++ [intA c] ++ cs) [e] (fun r h' => r = boolA (q c) ∧ h' = [e])) :
    ACall Try.prog 73 [.v (.slice ad n cap), fv] [e, .rw (.slice ad n cap) 3 1 (l.map intRow)] (fun r h' => (∃ z, r = intA z ∧ IdxOf (fun k => q (l.getD k 0)) l.length z) ∧ h' = [e, .rw (.slice ad n cap) 3 1 (l.map intRow)]) := by
  subst hn
  refine acall_of_awp T0 Try.func73 rfl rfl rfl ?_
  have hml : (l.map intRow).length = l.length := by simp
  repeat (first | refine awp_seq ?_ | refine awp_block ?_ | refine awp_region_lit rfl ?_ | (show AWL _ _ _ (⟨_, .move _, _, _, _, _⟩ :: _) _ _ _; refine awl_pw (wt_none rfl) (pv_move rfl rfl) rfl rfl ?_) | (show AWL _ _ _ (⟨_, .assign _, _, _, _, _⟩ :: _) _ _ _; refine awl_pw (wt_none rfl) (pv_assign rfl rfl) rfl rfl ?_) | (show AWL _ _ _ (⟨_, .call ⟨.builtin .len, _, _⟩, _, _, _, _⟩ :: _) _ _ _; refine awl_pw (wt_none rfl) (pv_len_v T0 rfl rfl rfl) rfl rfl ?_) | refine awl_nil ?_)
  refine awp_loop (fun m s h => ∃ (k : Nat), k ≤ l.length ∧ m = l.length - k ∧ (∀ j, j < k → q (l.getD j 0) = false) ∧ s = [(0, .v (.slice ad l.length cap)), (1, fv), (7, intA l.length), (8, intA k)] ∧ h = [e, .rw (.slice ad l.length cap) 3 1 (l.map intRow)]) ?_ ⟨0, Nat.zero_le _, rfl, (fun j hj => absurd hj (Nat.not_lt_zero _)), rfl, rfl⟩ (by first | ((repeat' (first | exact True.intro | refine ⟨rfl, ?_⟩)); all_goals fail) | fail) (by solve | repeat' constructor)
  rintro m s h ⟨k, hk, rfl, hno, rfl, rfl⟩
  by_cases hkt : k < l.length
  case neg =>
    obtain rfl : k = l.length := by omega
    repeat (first | refine awp_seq ?_ | refine awp_region_lit rfl ?_ | refine awp_exit ?_ | refine awp_ret ?_ | refine awp_cond_f rfl (by first | rfl | assumption | exact dF (by omega)) ?_ | (show AWL _ _ _ (⟨_, .assign _, _, _, _, _⟩ :: _) _ _ _; refine awl_pw (wt_none rfl) (pv_assign rfl rfl) rfl rfl ?_) | (show AWL _ _ _ (⟨_, .binOp .lss _ _ _ _, _, _, _, _⟩ :: _) _ _ _; refine awl_pw (wt_none rfl) (pv_lss rfl rfl rfl) rfl rfl ?_) | refine awl_nil ?_)
    exact body_r (h' := [e, .rw (.slice ad l.length cap) 3 1 (l.map intRow)]) (.cons rfl .nil) (by solve | repeat' constructor) ⟨⟨-1, rfl, .inl ⟨rfl, hno⟩⟩, rfl⟩
  have hc := hq _ (getD_mem (d := (0 : Int)) hkt)
  have r1 := intRow_at hkt
  obtain ⟨ga, rfl⟩ := hga (by omega)
  cases c : q (l.getD k 0)
  · rw [c] at hc
    repeat (first | refine awp_seq ?_ | refine awp_block ?_ | refine awp_region_lit rfl ?_ | refine awp_skip ?_ | refine awp_cond_t rfl (by first | rfl | assumption | exact dT (by omega)) ?_ | (show AWL _ _ _ (⟨_, .move _, _, _, _, _⟩ :: _) _ _ _; refine awl_pw (wt_none rfl) (pv_move rfl rfl) rfl rfl ?_) | (show AWL _ _ _ (⟨_, .assign _, _, _, _, _⟩ :: _) _ _ _; refine awl_pw (wt_none rfl) (pv_assign rfl rfl) rfl rfl ?_) | (show AWL _ _ _ (⟨_, .load _ _, _, _, _, _⟩ :: _) _ _ _; refine awl_lw (wt_none rfl) (lv_rp T0 rfl rfl rfl (by solve | repeat' constructor) (by first | omega | (simp; omega)) (by omega) (by first | assumption | rfl)) rfl rfl rfl ?_) | (show AWL _ _ _ (⟨_, .indexAddr _ _ _, _, _, _, _⟩ :: _) _ _ _; refine awl_pw (wt_none rfl) (pv_ix_own T0 rfl rfl rfl rfl (by omega) (by first | exact Int.toNat_natCast _ | rfl)) rfl rfl ?_) | (show AWL _ _ _ (⟨_, .binOp .lss _ _ _ _, _, _, _, _⟩ :: _) _ _ _; refine awl_pw (wt_none rfl) (pv_lss rfl rfl rfl) rfl rfl ?_) | refine awl_nil ?_)
    refine awl_hw (wt_none rfl) (st_acall T0 (hc) rfl rfl rfl rfl (by first | exact callee_lit | exact callee_v | exact callee_fn | assumption) (by solve | repeat' constructor) (by first | rfl | assumption) rfl (by first | ((repeat' (first | exact SubH.refl _ | apply SubH.cons | exact Pick.here | apply Pick.there)); all_goals fail) | fail) (fun _ _ => trivial) ?_)
    rintro r h ⟨rfl, rfl⟩
    repeat (first | refine awp_region_lit rfl ?_ | refine awp_skip ?_ | refine then_n ?_ | refine awp_cond_f rfl (by first | rfl | assumption | exact dF (by omega)) ?_ | (show AWL _ _ _ (⟨_, .move _, _, _, _, _⟩ :: _) _ _ _; refine awl_pw (wt_none rfl) (pv_move rfl rfl) rfl rfl ?_) | (show AWL _ _ _ (⟨_, .binOp .add _ _ _ _, _, _, _, _⟩ :: _) _ _ _; refine awl_pw (wt_none rfl) (pv_add rfl rfl rfl (by first | assumption | exact wr64 (by omega))) rfl rfl ?_) | refine awl_nil ?_)
    refine rnd_n _ _ _ ?_ ⟨k + 1, hkt, rfl, fun j hj => ?_, rfl, rfl⟩ (by first | ((repeat' (first | exact True.intro | refine ⟨rfl, ?_⟩)); all_goals fail) | fail) (by solve | repeat' constructor)
    · omega
    · by_cases e' : j = k
      · subst e'; exact c
      · exact hno j (by omega)
  · rw [c] at hc
    repeat (first | refine awp_seq ?_ | refine awp_block ?_ | refine awp_region_lit rfl ?_ | refine awp_skip ?_ | refine awp_cond_t rfl (by first | rfl | assumption | exact dT (by omega)) ?_ | (show AWL _ _ _ (⟨_, .move _, _, _, _, _⟩ :: _) _ _ _; refine awl_pw (wt_none rfl) (pv_move rfl rfl) rfl rfl ?_) | (show AWL _ _ _ (⟨_, .assign _, _, _, _, _⟩ :: _) _ _ _; refine awl_pw (wt_none rfl) (pv_assign rfl rfl) rfl rfl ?_) | (show AWL _ _ _ (⟨_, .load _ _, _, _, _, _⟩ :: _) _ _ _; refine awl_lw (wt_none rfl) (lv_rp T0 rfl rfl rfl (by solve | repeat' constructor) (by first | omega | (simp; omega)) (by omega) (by first | assumption | rfl)) rfl rfl rfl ?_) | (show AWL _ _ _ (⟨_, .indexAddr _ _ _, _, _, _, _⟩ :: _) _ _ _; refine awl_pw (wt_none rfl) (pv_ix_own T0 rfl rfl rfl rfl (by omega) (by first | exact Int.toNat_natCast _ | rfl)) rfl rfl ?_) | (show AWL _ _ _ (⟨_, .binOp .lss _ _ _ _, _, _, _, _⟩ :: _) _ _ _; refine awl_pw (wt_none rfl) (pv_lss rfl rfl rfl) rfl rfl ?_) | refine awl_nil ?_)
    refine awl_hw (wt_none rfl) (st_acall T0 (hc) rfl rfl rfl rfl (by first | exact callee_lit | exact callee_v | exact callee_fn | assumption) (by solve | repeat' constructor) (by first | rfl | assumption) rfl (by first | ((repeat' (first | exact SubH.refl _ | apply SubH.cons | exact Pick.here | apply Pick.there)); all_goals fail) | fail) (fun _ _ => trivial) ?_)
    rintro r h ⟨rfl, rfl⟩
    repeat (first | refine awp_seq ?_ | refine awp_region_lit rfl ?_ | refine awp_ret ?_ | refine then_n ?_ | refine then_r ?_ | refine blk_r ?_ | refine rnd_r ?_ | refine awp_cond_t rfl (by first | rfl | assumption | exact dT (by omega)) ?_ | (show AWL _ _ _ (⟨_, .move _, _, _, _, _⟩ :: _) _ _ _; refine awl_pw (wt_none rfl) (pv_move rfl rfl) rfl rfl ?_) | (show AWL _ _ _ (⟨_, .assign _, _, _, _, _⟩ :: _) _ _ _; refine awl_pw (wt_none rfl) (pv_assign rfl rfl) rfl rfl ?_) | refine awl_nil ?_)
    exact body_r (h' := [e, .rw (.slice (some ⟨ga, 0, none⟩) l.length cap) 3 1 (l.map intRow)]) (.cons rfl .nil) (by solve | repeat' constructor) ⟨⟨k, rfl, .inr ⟨k, hkt, rfl, c, hno⟩⟩, rfl⟩
theorem iclone_p (l : List Int) (hl : l.length ≤ 1000) (h0 : 0 < l.length) (f : Nat → List Tr) (hf : f = fun k => [.sc (.int .i64 (l.getD k 0))]) : PCall Try.prog 79 [.t (.sl true 1 l.length f)] (fun r => r = .t (intsT true l)) := by
  subst hf
  refine acall_of_awp T0 Try.func79 rfl rfl rfl ?_
  repeat (first | refine awp_seq ?_ | refine awp_region_lit rfl ?_ | (show AWL _ _ _ (⟨_, .move _, _, _, _, _⟩ :: _) _ _ _; refine awl_pw (wt_none rfl) (pv_move rfl rfl) rfl rfl ?_) | (show AWL _ _ _ (⟨_, .assign _, _, _, _, _⟩ :: _) _ _ _; refine awl_pw (wt_none rfl) (pv_assign rfl rfl) rfl rfl ?_) | refine awl_nil ?_)
  refine awl_hw (wt_none rfl) (aop_isnil T0 rfl rfl rfl rfl rfl ?_)
  intro b hb
  obtain rfl := hb h0
  repeat (first | refine awp_seq ?_ | refine awp_region_lit rfl ?_ | refine awp_skip ?_ | refine then_n ?_ | refine awp_cond_f rfl (by first | rfl | assumption | exact dF (by omega)) ?_ | refine awl_nil ?_)
  refine awl_hw (wt_none rfl) (st_bsl T0 rfl rfl rfl rfl rfl (by solve | repeat' constructor) rfl rfl rfl rfl (by simp only [List.map_cons, List.map_nil, cellsA]; rfl) ?_)
  intro g
  repeat (first | (show AWL _ _ _ (⟨_, .move _, _, _, _, _⟩ :: _) _ _ _; refine awl_pw (wt_none rfl) (pv_move rfl rfl) rfl rfl ?_))
  refine awl_hw (wt_none rfl) (st_appt T0 rfl rfl rfl rfl rfl rfl rfl rfl rfl (by solve | repeat' constructor) (by intro k hk u hu; simp at hu; subst hu; rfl) (rfl : ([] : List (List AV)).length = 0) (by first | omega | (simp; omega)) (fun _ _ => trivial) rfl ?_)
  intro a c p
  repeat (first | refine awp_ret ?_ | (show AWL _ _ _ (⟨_, .assign _, _, _, _, _⟩ :: _) _ _ _; refine awl_pw (wt_none rfl) (pv_assign rfl rfl) rfl rfl ?_) | refine awl_nil ?_)
  simp only [List.nil_append, List.length_nil, Nat.zero_add]
  have hrows : ((List.range l.length).map fun k => List.map AV.ofTr [Tr.sc (.int .i64 (l.getD k 0))]) = l.map intRow := by
    refine List.ext_getElem (by simp) fun k h1 h2 => ?_
    simp at h1 h2
    simp [List.getD_eq_getElem?_getD, h1, AV.ofTr, intRow]
  rw [hrows]
  refine bodyQ_ghost (ghost_freeze (E := 3) (sz := 1) (n := l.length) (rows := l.map intRow) (d := 2) (fun q => [.sc (.int .i64 (l.getD q 0))]) (by solve | repeat' constructor) rfl (by simp) (intRows_tree l)) ?_
  exact body_p (.cons rfl .nil) rfl
theorem rings1_p (c : Int) : PCall Try.prog 74 [intA c] (fun r => r = boolA (decide (0 < c))) := by
  refine acall_of_awp T0 Try.func74 rfl rfl rfl ?_
  repeat (first | refine awp_seq ?_ | refine awp_region_lit rfl ?_ | refine awp_ret ?_ | (show AWL _ _ _ (⟨_, .move _, _, _, _, _⟩ :: _) _ _ _; refine awl_pw (wt_none rfl) (pv_move rfl rfl) rfl rfl ?_) | (show AWL _ _ _ (⟨_, .assign _, _, _, _, _⟩ :: _) _ _ _; refine awl_pw (wt_none rfl) (pv_assign rfl rfl) rfl rfl ?_) | (show AWL _ _ _ (⟨_, .binOp .gtr _ _ _ _, _, _, _, _⟩ :: _) _ _ _; refine awl_pw (wt_none rfl) (pv_gtr rfl rfl rfl) rfl rfl ?_) | refine awl_nil ?_)
  exact body_p (.cons rfl .nil) rfl
theorem walk1_p (cp : Bool) (b : BookD) (g3 g7 j : Nat) (at' : Int) (hj : j < b.cons.length) (hl : b.cons.length ≤ 1000) : ACall Try.prog 98 [intA j, .v (ptrV g3), .v (ptrV g7)] [.cl g3 33 [intA b.houses, .t (consT cp b.cons)], .cl g7 3 [intA at']] (fun r h' => r = boolA (decide ((b.cons.getD j default).frm = at')) ∧ h' = [.cl g3 33 [intA b.houses, .t (consT cp b.cons)], .cl g7 3 [intA at']]) := by
  refine acall_of_awp T0 Try.func98 rfl rfl rfl ?_
  repeat (first | refine awp_seq ?_ | refine awp_region_lit rfl ?_ | (show AWL _ _ _ (⟨_, .assign _, _, _, _, _⟩ :: _) _ _ _; refine awl_pw (wt_none rfl) (pv_assign rfl rfl) rfl rfl ?_) | refine awl_nil ?_)
  refine awp_tree T0 [(0, 0), (1, 1), (2, 0), (3, 0), (4, 0), (5, 1), (6, 1), (7, 0), (8, 0)] (.op 0 0 (.op 1 1 (.op 2 0 (.op 3 0 (.op 4 0 (.op 5 1 (.op 6 1 (.op 7 0 (.op 8 0 .stop))))))))) [.cl g3 _ _, .cl g7 _ _] rfl (by kernel_rfl) (by solve | repeat' constructor) ?_
  refine awt_po rfl (wt_none rfl) (pv_fa T0 rfl rfl rfl (by simp; rfl)) rfl rfl ?_
  refine awt_lo rfl (wt_none rfl) (lv_cl1 T0 rfl rfl rfl (by solve | repeat' constructor) (by first | rfl | assumption)) rfl rfl rfl ?_
  refine awt_po rfl (wt_none rfl) (pv_move rfl rfl) rfl rfl ?_
  refine awt_po rfl (wt_none rfl) (pv_ix_t T0 rfl rfl rfl rfl (by omega) (by first | exact Int.toNat_natCast _ | rfl)) rfl rfl ?_
  refine awt_po rfl (wt_none rfl) (pv_fa_elt T0 rfl rfl rfl (by simp; rfl)) rfl rfl ?_
  refine awt_lo rfl (wt_none rfl) (lv_elt_sc T0 rfl rfl rfl rfl) rfl rfl rfl ?_
  refine awt_lo rfl (wt_none rfl) (lv_cl1 T0 rfl rfl rfl (by solve | repeat' constructor) (by first | rfl | assumption)) rfl rfl rfl ?_
  refine awt_po rfl (wt_none rfl) (pv_eql rfl rfl rfl) rfl rfl ?_
  refine awt_po rfl (wt_none rfl) (pv_assign rfl rfl) rfl rfl ?_
  refine awt_end ?_
  repeat (first | refine awp_ret ?_)
  exact body_r (h' := [.cl g3 33 [intA b.houses, .t (consT cp b.cons)], .cl g7 3 [intA at']]) (.cons rfl .nil) (by solve | repeat' constructor) ⟨rfl, rfl⟩
end Go.Proofs.Ytilhflfbbfeakaa
end
section
namespace Go.Proofs.Ytilhflfbbfeakaa
open Go Go.RowKit Go.Tl
set_option linter.unusedVariables false
set_option linter.unusedSimpArgs false
set_option maxRecDepth 100000
set_option maxHeartbeats 4000000
/-- where something comes to, something goes on from -/
theorem out_ex {b : BookD} {cap f : Nat → Int} (ho : OffF b cap f) {i0 : Nat} {h : Nat} (hi : i0 < b.cons.length) (ht : (b.cons.getD i0 default).to = (h : Int)) (hf : 0 < f i0) : ∃ i, i < b.cons.length ∧ (b.cons.getD i default).frm = (h : Int) ∧ 0 < f i := by
  refine Classical.byContradiction fun hno => ?_
  have hz : ∀ i, i < b.cons.length → (b.cons.getD i default).frm = (h : Int) → f i = 0 := fun i hi he => by
    have := (ho.bd i hi).1
    by_cases c : 0 < f i
    · exact absurd ⟨i, hi, he, c⟩ hno
    · omega
  have hacc : ∀ k, k ≤ b.cons.length → (if i0 < k then f i0 else 0) ≤ accN b.cons f k h := fun k => by
    induction k with
    | zero => intro _; simp [accN]
    | succ k ih =>
      intro hk
      have h1 := ih (by omega)
      have h2 := (ho.bd k (by omega)).1
      simp only [accN]
      have h3 : (if (b.cons.getD k default).frm = (h : Int) then f k else 0) = 0 := by
        by_cases c : (b.cons.getD k default).frm = (h : Int)
        · rw [if_pos c]; exact hz k (by omega) c
        · rw [if_neg c]
      rw [h3]
      by_cases e : i0 = k
      · subst e
        rw [if_neg (Nat.lt_irrefl _)] at h1
        rw [if_pos (Nat.lt_succ_self _), if_pos ht]
        omega
      · have h4 : 0 ≤ (if (b.cons.getD k default).to = (h : Int) then f k else 0) := by split <;> omega
        by_cases c : i0 < k
        · rw [if_pos c] at h1; rw [if_pos (c := i0 < k + 1) (by omega)]; omega
        · rw [if_neg c] at h1; rw [if_neg (c := i0 < k + 1) (by omega)]; omega
  have := hacc _ (Nat.le_refl _)
  rw [if_pos hi, ho.net h] at this
  omega
/-- a ring of contracts of which something is set off -/
def pathOk (b : BookD) (f : Nat → Int) (p : List Int) : Prop := isRing b ⟨p, 1⟩ ∧ ∀ k, k < p.length → 0 < f (p.getD k 0).toNat
/-- a path -/
structure PathI (b : BookD) (f : Nat → Int) (first : Nat) (P : List Int) (a : Int) : Prop where
  ok : ∀ k, k < P.length → okAt b ⟨P, 1⟩ k
  pos : ∀ k, k < P.length → 0 < f (P.getD k 0).toNat
  next : ∀ k, k + 1 < P.length → (cAt b ⟨P, 1⟩ k).to = (cAt b ⟨P, 1⟩ (k + 1)).frm
  ne : ∀ k m, k < P.length → m < k → (cAt b ⟨P, 1⟩ m).frm ≠ (cAt b ⟨P, 1⟩ k).frm
  at0 : P = [] → a = (b.cons.getD first default).frm
  at1 : ∀ k, k + 1 = P.length → a = (cAt b ⟨P, 1⟩ k).to
theorem path_len {b : BookD} (hv : VBook b) {f : Nat → Int} {first : Nat} {P : List Int} {a : Int} (h : PathI b f first P a) : (P.length : Int) ≤ b.houses := by
  have hh := hv.houses
  have := pigeon b.houses.toNat P.length (fun k => (cAt b ⟨P, 1⟩ k).frm.toNat) (fun k hk => by
    have := hv.frm _ (okAt_lt (h.ok k hk)).1
    show (cAt b ⟨P, 1⟩ k).frm.toNat < _
    unfold cAt
    omega) (fun i j hi hj => by
    have h1 := hv.frm _ (okAt_lt (h.ok i hi)).1
    have h2 := hv.frm _ (okAt_lt (h.ok j (by omega))).1
    have := h.ne i j hi hj
    show (cAt b ⟨P, 1⟩ j).frm.toNat ≠ (cAt b ⟨P, 1⟩ i).frm.toNat
    unfold cAt at this ⊢
    omega)
  omega
theorem drop_at {l : List Int} {k j : Nat} : (l.drop k).getD j 0 = l.getD (k + j) 0 := by simp [List.getD_eq_getElem?_getD]
theorem path_ring {b : BookD} (hv : VBook b) {f : Nat → Int} {first : Nat} {P : List Int} {a : Int} (h : PathI b f first P a) {k : Nat} (hk : k < P.length) (he : (cAt b ⟨P, 1⟩ k).frm = a) : pathOk b f (P.drop k) := by
  have hc : ∀ j, cAt b ⟨P.drop k, 1⟩ j = cAt b ⟨P, 1⟩ (k + j) := fun j => by
    show b.cons.getD ((P.drop k).getD j 0).toNat default = b.cons.getD (P.getD (k + j) 0).toNat default
    rw [drop_at]
  have hl : (P.drop k).length = P.length - k := List.length_drop
  have hlast := h.at1 (P.length - 1) (by omega)
  have h2 : 2 ≤ P.length - k := by
    refine Classical.byContradiction fun hno => ?_
    obtain rfl : k = P.length - 1 := by omega
    have hok := h.ok (P.length - 1) hk
    exact hv.ne _ (okAt_lt hok).1 (by unfold cAt at he hlast; rw [he, hlast])
  refine ⟨⟨by show 2 ≤ (P.drop k).length; omega, ⟨Int.le_refl _, by show (1 : Int) ≤ 100; omega⟩, fun j hj => ?_, fun j hj => ?_, fun j m hj hm => ?_⟩, fun j hj => ?_⟩
  · have hj : j < (P.drop k).length := hj
    have := h.ok (k + j) (by omega)
    unfold okAt at this ⊢
    show 0 ≤ (P.drop k).getD j 0 ∧ (P.drop k).getD j 0 ≤ _
    rw [drop_at]; exact this
  · have hj : j < (P.drop k).length := hj
    show (cAt b ⟨P.drop k, 1⟩ j).to = (cAt b ⟨P.drop k, 1⟩ ((j + 1) % (P.drop k).length)).frm
    rw [hc, hc]
    by_cases c : j + 1 < (P.drop k).length
    · rw [Nat.mod_eq_of_lt c]
      exact h.next (k + j) (by omega)
    · have e1 : j + 1 = (P.drop k).length := by omega
      rw [e1, Nat.mod_self, Nat.add_zero, he, hlast]
      congr 2
      omega
  · have hj : j < (P.drop k).length := hj
    rw [hc, hc]
    exact h.ne (k + j) (k + m) (by omega) (by omega)
  · rw [drop_at]
    exact h.pos (k + j) (by omega)
theorem snoc_at {l : List Int} {x : Int} {j : Nat} (h : j < l.length) : (l ++ [x]).getD j 0 = l.getD j 0 := by simp [List.getD_eq_getElem?_getD, List.getElem?_append, h]
theorem snoc_last {l : List Int} {x : Int} : (l ++ [x]).getD l.length 0 = x := by simp [List.getD_eq_getElem?_getD]
theorem path_step {b : BookD} (hv : VBook b) {f : Nat → Int} {first : Nat} {P : List Int} {a : Int} (h : PathI b f first P a) {i : Nat} (hi : i < b.cons.length) (hf : 0 < f i) (he : (b.cons.getD i default).frm = a) (hno : ∀ k, k < P.length → (cAt b ⟨P, 1⟩ k).frm ≠ a) :
    PathI b f first (P ++ [(i : Int)]) (b.cons.getD i default).to := by
  have hl : (P ++ [(i : Int)]).length = P.length + 1 := by simp
  have hc : ∀ j, j < P.length → cAt b ⟨P ++ [(i : Int)], 1⟩ j = cAt b ⟨P, 1⟩ j := fun j hj => by
    show b.cons.getD ((P ++ [(i : Int)]).getD j 0).toNat default = b.cons.getD (P.getD j 0).toNat default
    rw [snoc_at hj]
  have hc2 : cAt b ⟨P ++ [(i : Int)], 1⟩ P.length = b.cons.getD i default := by
    show b.cons.getD ((P ++ [(i : Int)]).getD P.length 0).toNat default = _
    rw [snoc_last, Int.toNat_natCast]
  refine ⟨fun k hk => ?_, fun k hk => ?_, fun k hk => ?_, fun k m hk hm => ?_, fun e => ?_, fun k hk => ?_⟩
  · rw [hl] at hk
    unfold okAt
    show 0 ≤ (P ++ [(i : Int)]).getD k 0 ∧ (P ++ [(i : Int)]).getD k 0 ≤ _
    by_cases c : k < P.length
    · rw [snoc_at c]; exact h.ok k c
    · obtain rfl : k = P.length := by omega
      rw [snoc_last]; omega
  · rw [hl] at hk
    by_cases c : k < P.length
    · rw [snoc_at c]; exact h.pos k c
    · obtain rfl : k = P.length := by omega
      rw [snoc_last, Int.toNat_natCast]; exact hf
  · rw [hl] at hk
    by_cases c : k + 1 < P.length
    · rw [hc _ (by omega), hc _ c]; exact h.next k c
    · have e1 : P.length = k + 1 := by omega
      rw [← e1, hc2, hc _ (by omega), he]
      exact (h.at1 k (by omega)).symm
  · rw [hl] at hk
    by_cases c : k < P.length
    · rw [hc _ (by omega), hc _ c]; exact h.ne k m c hm
    · obtain rfl : k = P.length := by omega
      rw [hc2, hc _ hm, he]
      exact hno m hm
  · simp at e
  · rw [hl] at hk
    obtain rfl : k = P.length := by omega
    rw [hc2]
attribute [local irreducible] AWP AWL AOp PV LV AWT AWE
theorem bwalk_p (cp : Bool) (b : BookD) (go n first cap : Nat) (f capf : Nat → Int) (hv : VBook b) (hn : n = b.cons.length) (ho : OffF b capf f) (hfi : first < n) (hff : 0 < f first) :
    ACall Try.prog 75 [bookA cp b, .v (.slice (some ⟨go, 0, none⟩) n cap), intA first] [.rw (.slice (some ⟨go, 0, none⟩) n cap) 3 1 (fRows f n)] (fun r h' => ∃ p, pathOk b f p ∧ r = .t (intsT true p) ∧ h' = [.rw (.slice (some ⟨go, 0, none⟩) n cap) 3 1 (fRows f n)]) := by
  subst hn
  have hlen := hv.len
  have hh := hv.houses
  refine acall_of_awp T0 Try.func75 rfl rfl rfl ?_
  repeat (first | refine awp_seq ?_ | refine awp_region_lit rfl ?_)
  refine awl_hw (by first | exact wt_none rfl | exact wt_some' rfl rfl rfl rfl (by first | rfl | assumption | exact dT (by omega) | exact dF (by omega))) (st_box rfl rfl (by first | rfl | assumption) (by first | assumption | (simp only [cellsA]; rfl)) rfl rfl ?_)
  intro g3
  repeat (first | refine awp_seq ?_ | refine awp_region_lit rfl ?_ | ((first | (show AWL _ _ _ (⟨_, .move _, _, _, _, _⟩ :: _) _ _ _; refine awl_pw ?w (pv_move rfl rfl) rfl rfl ?_) | (show AWL _ _ _ (⟨_, .assign _, _, _, _, _⟩ :: _) _ _ _; refine awl_pw ?w (pv_assign rfl rfl) rfl rfl ?_) | (show AWL _ _ _ (⟨_, .load _ _, _, _, _, _⟩ :: _) _ _ _; refine awl_lw ?w (lv_cl1 T0 rfl rfl rfl (by solve | repeat' constructor) (by first | rfl | assumption)) rfl rfl rfl ?_) | (show AWL _ _ _ (⟨_, .load _ _, _, _, _, _⟩ :: _) _ _ _; refine awl_lw ?w (lv_elt_sc T0 rfl rfl rfl rfl) rfl rfl rfl ?_) | (show AWL _ _ _ (⟨_, .fieldAddr _ _ _, _, _, _, _⟩ :: _) _ _ _; refine awl_pw ?w (pv_fa T0 rfl rfl rfl (by simp; rfl)) rfl rfl ?_) | (show AWL _ _ _ (⟨_, .fieldAddr _ _ _, _, _, _, _⟩ :: _) _ _ _; refine awl_pw ?w (pv_fa_elt T0 rfl rfl rfl (by simp; rfl)) rfl rfl ?_) | (show AWL _ _ _ (⟨_, .indexAddr _ _ _, _, _, _, _⟩ :: _) _ _ _; refine awl_pw ?w (pv_ix_t T0 rfl rfl rfl rfl (by omega) (by first | exact Int.toNat_natCast _ | rfl)) rfl rfl ?_)); case w => first | exact wt_none rfl | exact wt_some' rfl rfl rfl rfl (by first | rfl | assumption | exact dT (by omega) | exact dF (by omega))) | refine awl_nil ?_)
  refine awl_hw (by first | exact wt_none rfl | exact wt_some' rfl rfl rfl rfl (by first | rfl | assumption | exact dT (by omega) | exact dF (by omega))) (st_alloc T0 rfl rfl rfl rfl (by simp only [Value.cells, List.toList_toArray, List.map_cons, List.map_nil]; rfl) ?_)
  intro g7
  repeat (first | refine awp_block ?_ | (show AWL _ _ _ (⟨_, .store _ _ _, _, _, _, _⟩ :: _) _ _ _; refine awl_hw (by first | exact wt_none rfl | exact wt_some' rfl rfl rfl rfl (by first | rfl | assumption | exact dT (by omega) | exact dF (by omega))) (st_store T0 rfl rfl rfl rfl rfl (by first | assumption | (simp only [cellsA]; rfl)) rfl rfl rfl (by solve | repeat' constructor) (by solve | repeat' constructor) trivial ?_)) | refine awl_nil ?_)
  refine awp_ghost (ghost_nilrow 3 1) ?_
  refine awp_loop (fun m s h => ∃ (P : List Int) (a : Int) (ad : Option Addr) (c N : Nat) (rows : List (List AV)), PathI b f first P a ∧ m = 7 - P.length ∧ N = P.length ∧ rows = P.map intRow ∧ rows.length = N ∧ (0 < N → ∃ g, ad = some ⟨g, 0, none⟩) ∧ s = [(1, .v (.slice (some ⟨go, 0, none⟩) b.cons.length cap)), (2, intA first), (3, .v (ptrV g3)), (6, .v (.slice ad N c)), (7, .v (ptrV g7))] ∧
    h = [.cl g3 33 [intA b.houses, .t (consT cp b.cons)], .cl g7 3 [intA a], .rw (.slice ad N c) 3 1 rows, .rw (.slice (some ⟨go, 0, none⟩) b.cons.length cap) 3 1 (fRows f b.cons.length)]) ?_
    ⟨[], _, _, _, _, _, ⟨fun k hk => absurd hk (Nat.not_lt_zero _), fun k hk => absurd hk (Nat.not_lt_zero _), fun k hk => absurd hk (Nat.not_lt_zero _), fun k m hk => absurd hk (Nat.not_lt_zero _), fun _ => rfl, fun k hk => by simp at hk⟩, rfl, rfl, rfl, rfl, (fun h => absurd h (Nat.lt_irrefl _)), rfl, rfl⟩ (by first | ((repeat' (first | exact True.intro | refine ⟨rfl, ?_⟩)); all_goals fail) | fail) (by solve | repeat' constructor)
  rintro m s h ⟨P, a, ad, c, N, rows, hP, rfl, hN, hrows, hrl, had, rfl, rfl⟩
  have hPl := path_len hv hP
  have hok : ∀ x, x ∈ P → ∃ j : Nat, x = j ∧ j < b.cons.length := fun x hx => by
    obtain ⟨k, hk, rfl⟩ := List.getElem_of_mem hx
    have := okAt_lt (hP.ok k hk)
    simp only [List.getD_eq_getElem?_getD, hk, List.getElem?_eq_getElem, Option.getD_some] at this
    exact ⟨_, this.2, this.1⟩
  have hcall := acall_unpackL (iidx_o (cap := c) (e := .ob (packOb [.cl g3 33 [intA b.houses, .t (consT cp b.cons)], .cl g7 3 [intA a]])) (q := fun x => decide ((b.cons.getD x.toNat default).frm = a)) (fs := []) (cs := [.v (ptrV g3), .v (ptrV g7)]) (g := 98) (fv := .v (.func (.func 98) #[] #[ptrV g3, ptrV g7])) P (by omega) hN had (callee_v (a := []) (b := [ptrV g3, ptrV g7])) rfl (fun x hx => by
    obtain ⟨j, rfl, hj⟩ := hok x hx
    have := acall_pack (walk1_p cp b g3 g7 j a hj (by omega))
    rw [Int.toNat_natCast]
    exact this))
  rw [← hrows] at hcall
  simp only [List.cons_append, List.nil_append] at hcall
  repeat (first | refine awp_seq ?_ | refine awp_block ?_ | refine awp_region_lit rfl ?_ | ((first | (show AWL _ _ _ (⟨_, .move _, _, _, _, _⟩ :: _) _ _ _; refine awl_pw ?w (pv_move rfl rfl) rfl rfl ?_)); case w => first | exact wt_none rfl | exact wt_some' rfl rfl rfl rfl (by first | rfl | assumption | exact dT (by omega) | exact dF (by omega))))
  refine awl_pw (wt_none rfl) (pv_makeFunc_v (fs := []) (cs := [ptrV g3, ptrV g7]) rfl rfl rfl) rfl rfl ?_
  refine awl_hw (by first | exact wt_none rfl | exact wt_some' rfl rfl rfl rfl (by first | rfl | assumption | exact dT (by omega) | exact dF (by omega))) (st_acall T0 (hcall) rfl rfl rfl rfl (by first | exact callee_lit | exact callee_v | exact callee_fn | assumption) (by solve | repeat' constructor) (by first | rfl | assumption) rfl (by first | ((repeat' (first | exact SubH.refl _ | apply SubH.cons | exact Pick.here | apply Pick.there)); all_goals fail) | fail) (fun _ _ => trivial) ?_)
  rintro r h ⟨⟨z, rfl, hz⟩, rfl⟩
  simp only [List.cons_append, List.nil_append]
  rcases hz with ⟨rfl, hz⟩ | ⟨k, hk, rfl, hk1, _⟩
  case inr =>
    have he : (cAt b ⟨P, 1⟩ k).frm = a := of_decide_eq_true hk1
    have hpo := path_ring hv hP hk he
    have d1 : decide ((0 : Int) ≤ (k : Int)) = true := decide_eq_true (by omega)
    subst hrows
    have hdl : (P.drop k).length = N - k := by rw [List.length_drop, hN]
    have hcl := iclone_p (P.drop k) (by omega) (by omega) (fun q => (fun q => [Tr.sc (.int .i64 (P.getD q 0))]) (k + q)) (by funext q; simp only [drop_at])
    rw [hdl] at hcl
    refine awl_ghost (ghost_freeze (E := 3) (sz := 1) (n := N) (rows := P.map intRow) (d := 6) (fun q => [.sc (.int .i64 (P.getD q 0))]) (by solve | repeat' constructor) rfl hrl (by rw [hN]; exact intRows_tree P)) ?_
    repeat (first | refine awp_seq ?_ | refine awp_region_lit rfl ?_ | refine then_n ?_ | refine awp_cond_t rfl (by first | rfl | assumption | exact dT (by omega)) ?_ | ((first | (show AWL _ _ _ (⟨_, .move _, _, _, _, _⟩ :: _) _ _ _; refine awl_pw ?w (pv_move rfl rfl) rfl rfl ?_) | (show AWL _ _ _ (⟨_, .assign _, _, _, _, _⟩ :: _) _ _ _; refine awl_pw ?w (pv_assign rfl rfl) rfl rfl ?_) | (show AWL _ _ _ (⟨_, .binOp .geq _ _ _ _, _, _, _, _⟩ :: _) _ _ _; refine awl_pw ?w (pv_geq rfl rfl rfl) rfl rfl ?_)); case w => first | exact wt_none rfl | exact wt_some' rfl rfl rfl rfl (by first | rfl | assumption | exact dT (by omega) | exact dF (by omega))) | refine awl_nil ?_)
    refine awl_pw (wt_none rfl) (pv_slice_lo_t T0 rfl rfl rfl rfl rfl (by omega)) rfl rfl ?_
    refine awl_hw (by first | exact wt_none rfl | exact wt_some' rfl rfl rfl rfl (by first | rfl | assumption | exact dT (by omega) | exact dF (by omega))) (st_call T0 (hcl) rfl rfl rfl rfl (by first | exact callee_lit | exact callee_v | exact callee_fn | assumption) (by solve | repeat' constructor) (by first | rfl | assumption) rfl ?_)
    rintro _ rfl
    repeat (first | refine awp_ret ?_ | refine then_r ?_ | refine blk_r ?_ | refine rnd_r ?_ | ((first | (show AWL _ _ _ (⟨_, .assign _, _, _, _, _⟩ :: _) _ _ _; refine awl_pw ?w (pv_assign rfl rfl) rfl rfl ?_)); case w => first | exact wt_none rfl | exact wt_some' rfl rfl rfl rfl (by first | rfl | assumption | exact dT (by omega) | exact dF (by omega))) | refine awl_nil ?_)
    exact body_r (h' := [.rw (.slice (some ⟨go, 0, none⟩) b.cons.length cap) 3 1 (fRows f b.cons.length)]) (.cons rfl .nil) (by solve | repeat' constructor) ⟨_, hpo, rfl, rfl⟩
  as_aux_lemma =>
    have hno : ∀ k, k < P.length → (cAt b ⟨P, 1⟩ k).frm ≠ a := fun k hk => of_decide_eq_false (hz k hk)
    obtain ⟨i0, hi0, he0, hf0⟩ : ∃ i, i < b.cons.length ∧ (b.cons.getD i default).frm = a ∧ 0 < f i := by
      by_cases e : P = []
      · exact ⟨first, hfi, (hP.at0 e).symm, hff⟩
      · have hpos : 0 < P.length := by
          rcases Nat.eq_zero_or_pos P.length with h | h
          · exact absurd (List.length_eq_zero_iff.1 h) e
          · exact h
        have h1 := hP.at1 (P.length - 1) (by omega)
        have h2 := okAt_lt (hP.ok (P.length - 1) (by omega))
        have h3 := hP.pos (P.length - 1) (by omega)
        have h4 := hv.to _ h2.1
        have h5 : a = (b.cons.getD (P.getD (P.length - 1) 0).toNat default).to := h1
        obtain ⟨h, hh'⟩ : ∃ h : Nat, a = h := ⟨a.toNat, by rw [h5]; exact (Int.toNat_of_nonneg h4.1).symm⟩
        rw [hh']
        exact out_ex ho h2.1 (by rw [← h5, hh']) h3
    repeat (first | refine awp_seq ?_ | refine awp_block ?_ | refine awp_region_lit rfl ?_ | refine awp_skip ?_ | refine then_n ?_ | refine awp_cond_f rfl (by first | rfl | assumption | exact dF (by omega)) ?_ | ((first | (show AWL _ _ _ (⟨_, .move _, _, _, _, _⟩ :: _) _ _ _; refine awl_pw ?w (pv_move rfl rfl) rfl rfl ?_) | (show AWL _ _ _ (⟨_, .assign _, _, _, _, _⟩ :: _) _ _ _; refine awl_pw ?w (pv_assign rfl rfl) rfl rfl ?_) | (show AWL _ _ _ (⟨_, .load _ _, _, _, _, _⟩ :: _) _ _ _; refine awl_lw ?w (lv_cl1 T0 rfl rfl rfl (by solve | repeat' constructor) (by first | rfl | assumption)) rfl rfl rfl ?_) | (show AWL _ _ _ (⟨_, .fieldAddr _ _ _, _, _, _, _⟩ :: _) _ _ _; refine awl_pw ?w (pv_fa T0 rfl rfl rfl (by simp; rfl)) rfl rfl ?_) | (show AWL _ _ _ (⟨_, .binOp .geq _ _ _ _, _, _, _, _⟩ :: _) _ _ _; refine awl_pw ?w (pv_geq rfl rfl rfl) rfl rfl ?_) | (show AWL _ _ _ (⟨_, .call ⟨.builtin .len, _, _⟩, _, _, _, _⟩ :: _) _ _ _; refine awl_pw ?w (pv_len_t T0 rfl rfl rfl) rfl rfl ?_)); case w => first | exact wt_none rfl | exact wt_some' rfl rfl rfl rfl (by first | rfl | assumption | exact dT (by omega) | exact dF (by omega))) | refine awl_nil ?_)
    refine awp_loop (fun m s h => ∃ (i : Nat), i ≤ b.cons.length ∧ m = b.cons.length - i ∧ (∀ j, j < i → ¬ ((b.cons.getD j default).frm = a ∧ 0 < f j)) ∧ s = [(1, .v (.slice (some ⟨go, 0, none⟩) b.cons.length cap)), (2, intA first), (3, .v (ptrV g3)), (6, .v (.slice ad N c)), (7, .v (ptrV g7)), (29, .t (consT cp b.cons)), (30, intA b.cons.length), (31, intA i)] ∧
      h = [.cl g3 33 [intA b.houses, .t (consT cp b.cons)], .cl g7 3 [intA a], .rw (.slice ad N c) 3 1 rows, .rw (.slice (some ⟨go, 0, none⟩) b.cons.length cap) 3 1 (fRows f b.cons.length)]) ?_ ⟨0, Nat.zero_le _, rfl, (fun j hj => absurd hj (Nat.not_lt_zero _)), rfl, rfl⟩ (by first | ((repeat' (first | exact True.intro | refine ⟨rfl, ?_⟩)); all_goals fail) | fail) (by solve | repeat' constructor)
    rintro m s h ⟨i, hi', rfl, hnot, rfl, rfl⟩
    by_cases hi : i < b.cons.length
    case neg => exact absurd ⟨he0, hf0⟩ (hnot i0 (by omega))
    have r1 : ((fRows f b.cons.length).getD i [])[0]? = some (intA (f i)) := fRows_at hi
    have r2 := fRows_len f b.cons.length
    by_cases he : (b.cons.getD i default).frm = a
    case neg =>
      have d1 : decide ((b.cons.getD i default).frm = a) = false := decide_eq_false he
      repeat (first | refine awp_seq ?_ | refine awp_block ?_ | refine awp_region_lit rfl ?_ | refine awp_skip ?_ | refine awp_cond_t rfl (by first | rfl | assumption | exact dT (by omega)) ?_ | ((first | (show AWL _ _ _ (⟨_, .move _, _, _, _, _⟩ :: _) _ _ _; refine awl_pw ?w (pv_move rfl rfl) rfl rfl ?_) | (show AWL _ _ _ (⟨_, .load _ _, _, _, _, _⟩ :: _) _ _ _; refine awl_lw ?w (lv_elt_ag T0 rfl rfl rfl rfl (by solve | repeat' constructor)) rfl rfl rfl ?_) | (show AWL _ _ _ (⟨_, .indexAddr _ _ _, _, _, _, _⟩ :: _) _ _ _; refine awl_pw ?w (pv_ix_t T0 rfl rfl rfl rfl (by omega) (by first | exact Int.toNat_natCast _ | rfl)) rfl rfl ?_) | (show AWL _ _ _ (⟨_, .binOp .lss _ _ _ _, _, _, _, _⟩ :: _) _ _ _; refine awl_pw ?w (pv_lss rfl rfl rfl) rfl rfl ?_)); case w => first | exact wt_none rfl | exact wt_some' rfl rfl rfl rfl (by first | rfl | assumption | exact dT (by omega) | exact dF (by omega))) | refine awl_nil ?_)
      refine awl_hw (by first | exact wt_none rfl | exact wt_some' rfl rfl rfl rfl (by first | rfl | assumption | exact dT (by omega) | exact dF (by omega))) (st_alloc T0 rfl rfl rfl rfl (by simp only [Value.cells, List.toList_toArray, List.map_cons, List.map_nil]; rfl) ?_)
      intro g11
      repeat (first | refine awp_seq ?_ | refine awp_region_lit rfl ?_ | refine awp_skip ?_ | refine then_n ?_ | refine awp_cond_f rfl (by first | rfl | assumption | exact dF (by omega)) ?_ | ((first | (show AWL _ _ _ (⟨_, .move _, _, _, _, _⟩ :: _) _ _ _; refine awl_pw ?w (pv_move rfl rfl) rfl rfl ?_) | (show AWL _ _ _ (⟨_, .assign _, _, _, _, _⟩ :: _) _ _ _; refine awl_pw ?w (pv_assign rfl rfl) rfl rfl ?_) | (show AWL _ _ _ (⟨_, .load _ _, _, _, _, _⟩ :: _) _ _ _; refine awl_lw ?w (lv_cl1 T0 rfl rfl rfl (by solve | repeat' constructor) (by first | rfl | assumption)) rfl rfl rfl ?_) | (show AWL _ _ _ (⟨_, .fieldAddr _ _ _, _, _, _, _⟩ :: _) _ _ _; refine awl_pw ?w (pv_fa T0 rfl rfl rfl (by simp; rfl)) rfl rfl ?_) | (show AWL _ _ _ (⟨_, .binOp .add _ _ _ _, _, _, _, _⟩ :: _) _ _ _; refine awl_pw ?w (pv_add rfl rfl rfl (by first | assumption | exact wr64 (by omega))) rfl rfl ?_) | (show AWL _ _ _ (⟨_, .binOp .eql _ _ _ _, _, _, _, _⟩ :: _) _ _ _; refine awl_pw ?w (pv_eql rfl rfl rfl) rfl rfl ?_) | (show AWL _ _ _ (⟨_, .pick _ _ _, _, _, _, _⟩ :: _) _ _ _; refine awl_pw ?w (pv_pick_f rfl rfl (by first | rfl | assumption | exact dT (by omega) | exact dF (by omega)) rfl) rfl rfl ?_)); case w => first | exact wt_none rfl | exact wt_some' rfl rfl rfl rfl (by first | rfl | assumption | exact dT (by omega) | exact dF (by omega))) | (show AWL _ _ _ (⟨_, .store _ _ _, _, _, _, _⟩ :: _) _ _ _; refine awl_hw (by first | exact wt_none rfl | exact wt_some' rfl rfl rfl rfl (by first | rfl | assumption | exact dT (by omega) | exact dF (by omega))) (st_store T0 rfl rfl rfl rfl rfl (by first | assumption | (simp only [cellsA]; rfl)) rfl rfl rfl (by solve | repeat' constructor) (by solve | repeat' constructor) trivial ?_)) | refine awl_sk (wf_some rfl rfl rfl rfl (by first | rfl | assumption | exact dT (by omega) | exact dF (by omega))) rfl rfl ?_ | refine awl_nil ?_)
      refine rnd_n _ _ _ ?_ ⟨i + 1, hi, rfl, fun j hj => ?_, rfl, rfl⟩ (by first | ((repeat' (first | exact True.intro | refine ⟨rfl, ?_⟩)); all_goals fail) | fail) (by solve | repeat' constructor)
      · omega
      · by_cases e : j = i
        · subst e; exact fun h => he h.1
        · exact hnot j (by omega)
    have d1 : decide ((b.cons.getD i default).frm = a) = true := decide_eq_true he
    by_cases hf : 0 < f i
    case neg =>
      have d2 : decide (0 < f i) = false := decide_eq_false hf
      repeat (first | refine awp_seq ?_ | refine awp_block ?_ | refine awp_region_lit rfl ?_ | refine awp_skip ?_ | refine awp_cond_t rfl (by first | rfl | assumption | exact dT (by omega)) ?_ | ((first | (show AWL _ _ _ (⟨_, .move _, _, _, _, _⟩ :: _) _ _ _; refine awl_pw ?w (pv_move rfl rfl) rfl rfl ?_) | (show AWL _ _ _ (⟨_, .load _ _, _, _, _, _⟩ :: _) _ _ _; refine awl_lw ?w (lv_elt_ag T0 rfl rfl rfl rfl (by solve | repeat' constructor)) rfl rfl rfl ?_) | (show AWL _ _ _ (⟨_, .indexAddr _ _ _, _, _, _, _⟩ :: _) _ _ _; refine awl_pw ?w (pv_ix_t T0 rfl rfl rfl rfl (by omega) (by first | exact Int.toNat_natCast _ | rfl)) rfl rfl ?_) | (show AWL _ _ _ (⟨_, .binOp .lss _ _ _ _, _, _, _, _⟩ :: _) _ _ _; refine awl_pw ?w (pv_lss rfl rfl rfl) rfl rfl ?_)); case w => first | exact wt_none rfl | exact wt_some' rfl rfl rfl rfl (by first | rfl | assumption | exact dT (by omega) | exact dF (by omega))) | refine awl_nil ?_)
      refine awl_hw (by first | exact wt_none rfl | exact wt_some' rfl rfl rfl rfl (by first | rfl | assumption | exact dT (by omega) | exact dF (by omega))) (st_alloc T0 rfl rfl rfl rfl (by simp only [Value.cells, List.toList_toArray, List.map_cons, List.map_nil]; rfl) ?_)
      intro g11
      repeat (first | refine awp_seq ?_ | refine awp_region_lit rfl ?_ | refine awp_skip ?_ | refine then_n ?_ | refine awp_cond_f rfl (by first | rfl | assumption | exact dF (by omega)) ?_ | ((first | (show AWL _ _ _ (⟨_, .move _, _, _, _, _⟩ :: _) _ _ _; refine awl_pw ?w (pv_move rfl rfl) rfl rfl ?_) | (show AWL _ _ _ (⟨_, .assign _, _, _, _, _⟩ :: _) _ _ _; refine awl_pw ?w (pv_assign rfl rfl) rfl rfl ?_) | (show AWL _ _ _ (⟨_, .load _ _, _, _, _, _⟩ :: _) _ _ _; refine awl_lw ?w (lv_cl1 T0 rfl rfl rfl (by solve | repeat' constructor) (by first | rfl | assumption)) rfl rfl rfl ?_) | (show AWL _ _ _ (⟨_, .load _ _, _, _, _, _⟩ :: _) _ _ _; refine awl_lw ?w (lv_rp T0 rfl rfl rfl (by solve | repeat' constructor) (by first | omega | (simp; omega)) (by omega) (by first | assumption | rfl)) rfl rfl rfl ?_) | (show AWL _ _ _ (⟨_, .fieldAddr _ _ _, _, _, _, _⟩ :: _) _ _ _; refine awl_pw ?w (pv_fa T0 rfl rfl rfl (by simp; rfl)) rfl rfl ?_) | (show AWL _ _ _ (⟨_, .indexAddr _ _ _, _, _, _, _⟩ :: _) _ _ _; refine awl_pw ?w (pv_ix_own T0 rfl rfl rfl rfl (by omega) (by first | exact Int.toNat_natCast _ | rfl)) rfl rfl ?_) | (show AWL _ _ _ (⟨_, .binOp .add _ _ _ _, _, _, _, _⟩ :: _) _ _ _; refine awl_pw ?w (pv_add rfl rfl rfl (by first | assumption | exact wr64 (by omega))) rfl rfl ?_) | (show AWL _ _ _ (⟨_, .binOp .gtr _ _ _ _, _, _, _, _⟩ :: _) _ _ _; refine awl_pw ?w (pv_gtr rfl rfl rfl) rfl rfl ?_) | (show AWL _ _ _ (⟨_, .binOp .eql _ _ _ _, _, _, _, _⟩ :: _) _ _ _; refine awl_pw ?w (pv_eql rfl rfl rfl) rfl rfl ?_) | (show AWL _ _ _ (⟨_, .pick _ _ _, _, _, _, _⟩ :: _) _ _ _; refine awl_pw ?w (pv_pick_t rfl rfl (by first | rfl | assumption | exact dT (by omega) | exact dF (by omega)) rfl) rfl rfl ?_)); case w => first | exact wt_none rfl | exact wt_some' rfl rfl rfl rfl (by first | rfl | assumption | exact dT (by omega) | exact dF (by omega))) | (show AWL _ _ _ (⟨_, .store _ _ _, _, _, _, _⟩ :: _) _ _ _; refine awl_hw (by first | exact wt_none rfl | exact wt_some' rfl rfl rfl rfl (by first | rfl | assumption | exact dT (by omega) | exact dF (by omega))) (st_store T0 rfl rfl rfl rfl rfl (by first | assumption | (simp only [cellsA]; rfl)) rfl rfl rfl (by solve | repeat' constructor) (by solve | repeat' constructor) trivial ?_)) | refine awl_nil ?_)
      refine rnd_n _ _ _ ?_ ⟨i + 1, hi, rfl, fun j hj => ?_, rfl, rfl⟩ (by first | ((repeat' (first | exact True.intro | refine ⟨rfl, ?_⟩)); all_goals fail) | fail) (by solve | repeat' constructor)
      · omega
      · by_cases e : j = i
        · subst e; exact fun h => hf h.2
        · exact hnot j (by omega)
    have d2 : decide (0 < f i) = true := decide_eq_true hf
    have hPn := path_step hv hP hi hf he hno
    repeat (first | refine awp_seq ?_ | refine awp_block ?_ | refine awp_region_lit rfl ?_ | refine awp_skip ?_ | refine awp_cond_t rfl (by first | rfl | assumption | exact dT (by omega)) ?_ | ((first | (show AWL _ _ _ (⟨_, .move _, _, _, _, _⟩ :: _) _ _ _; refine awl_pw ?w (pv_move rfl rfl) rfl rfl ?_) | (show AWL _ _ _ (⟨_, .load _ _, _, _, _, _⟩ :: _) _ _ _; refine awl_lw ?w (lv_elt_ag T0 rfl rfl rfl rfl (by solve | repeat' constructor)) rfl rfl rfl ?_) | (show AWL _ _ _ (⟨_, .indexAddr _ _ _, _, _, _, _⟩ :: _) _ _ _; refine awl_pw ?w (pv_ix_t T0 rfl rfl rfl rfl (by omega) (by first | exact Int.toNat_natCast _ | rfl)) rfl rfl ?_) | (show AWL _ _ _ (⟨_, .binOp .lss _ _ _ _, _, _, _, _⟩ :: _) _ _ _; refine awl_pw ?w (pv_lss rfl rfl rfl) rfl rfl ?_)); case w => first | exact wt_none rfl | exact wt_some' rfl rfl rfl rfl (by first | rfl | assumption | exact dT (by omega) | exact dF (by omega))) | refine awl_nil ?_)
    refine awl_hw (by first | exact wt_none rfl | exact wt_some' rfl rfl rfl rfl (by first | rfl | assumption | exact dT (by omega) | exact dF (by omega))) (st_alloc T0 rfl rfl rfl rfl (by simp only [Value.cells, List.toList_toArray, List.map_cons, List.map_nil]; rfl) ?_)
    intro g11
    repeat (first | refine awp_seq ?_ | refine awp_region_lit rfl ?_ | refine awp_exit ?_ | refine then_n ?_ | refine awp_cond_t rfl (by first | rfl | assumption | exact dT (by omega)) ?_ | ((first | (show AWL _ _ _ (⟨_, .move _, _, _, _, _⟩ :: _) _ _ _; refine awl_pw ?w (pv_move rfl rfl) rfl rfl ?_) | (show AWL _ _ _ (⟨_, .assign _, _, _, _, _⟩ :: _) _ _ _; refine awl_pw ?w (pv_assign rfl rfl) rfl rfl ?_) | (show AWL _ _ _ (⟨_, .load _ _, _, _, _, _⟩ :: _) _ _ _; refine awl_lw ?w (lv_cl1 T0 rfl rfl rfl (by solve | repeat' constructor) (by first | rfl | assumption)) rfl rfl rfl ?_) | (show AWL _ _ _ (⟨_, .load _ _, _, _, _, _⟩ :: _) _ _ _; refine awl_lw ?w (lv_rp T0 rfl rfl rfl (by solve | repeat' constructor) (by first | omega | (simp; omega)) (by omega) (by first | assumption | rfl)) rfl rfl rfl ?_) | (show AWL _ _ _ (⟨_, .fieldAddr _ _ _, _, _, _, _⟩ :: _) _ _ _; refine awl_pw ?w (pv_fa T0 rfl rfl rfl (by simp; rfl)) rfl rfl ?_) | (show AWL _ _ _ (⟨_, .indexAddr _ _ _, _, _, _, _⟩ :: _) _ _ _; refine awl_pw ?w (pv_ix_own T0 rfl rfl rfl rfl (by omega) (by first | exact Int.toNat_natCast _ | rfl)) rfl rfl ?_) | (show AWL _ _ _ (⟨_, .binOp .gtr _ _ _ _, _, _, _, _⟩ :: _) _ _ _; refine awl_pw ?w (pv_gtr rfl rfl rfl) rfl rfl ?_) | (show AWL _ _ _ (⟨_, .binOp .eql _ _ _ _, _, _, _, _⟩ :: _) _ _ _; refine awl_pw ?w (pv_eql rfl rfl rfl) rfl rfl ?_) | (show AWL _ _ _ (⟨_, .pick _ _ _, _, _, _, _⟩ :: _) _ _ _; refine awl_pw ?w (pv_pick_t rfl rfl (by first | rfl | assumption | exact dT (by omega) | exact dF (by omega)) rfl) rfl rfl ?_)); case w => first | exact wt_none rfl | exact wt_some' rfl rfl rfl rfl (by first | rfl | assumption | exact dT (by omega) | exact dF (by omega))) | (show AWL _ _ _ (⟨_, .store _ _ _, _, _, _, _⟩ :: _) _ _ _; refine awl_hw (by first | exact wt_none rfl | exact wt_some' rfl rfl rfl rfl (by first | rfl | assumption | exact dT (by omega) | exact dF (by omega))) (st_store T0 rfl rfl rfl rfl rfl (by first | assumption | (simp only [cellsA]; rfl)) rfl rfl rfl (by solve | repeat' constructor) (by solve | repeat' constructor) trivial ?_)) | refine awl_nil ?_)
    refine awl_hw (by first | exact wt_none rfl | exact wt_some' rfl rfl rfl rfl (by first | rfl | assumption | exact dT (by omega) | exact dF (by omega))) (st_bsl T0 rfl rfl rfl rfl rfl (by solve | repeat' constructor) rfl rfl rfl rfl (by simp only [List.map_cons, List.map_nil, cellsA]; rfl) ?_)
    intro g51
    skip
    refine awl_hw (by first | exact wt_none rfl | exact wt_some' rfl rfl rfl rfl (by first | rfl | assumption | exact dT (by omega) | exact dF (by omega))) (st_app T0 rfl rfl rfl rfl rfl rfl rfl rfl rfl (by solve | repeat' constructor) (by solve | repeat' constructor) rfl rfl hrl (by omega) (fun _ _ => trivial) ?_)
    intro a52 c52 p52
    repeat (first | refine awp_region_lit rfl ?_ | refine blk_n ?_ | ((first | (show AWL _ _ _ (⟨_, .move _, _, _, _, _⟩ :: _) _ _ _; refine awl_pw ?w (pv_move rfl rfl) rfl rfl ?_) | (show AWL _ _ _ (⟨_, .assign _, _, _, _, _⟩ :: _) _ _ _; refine awl_pw ?w (pv_assign rfl rfl) rfl rfl ?_) | (show AWL _ _ _ (⟨_, .load _ _, _, _, _, _⟩ :: _) _ _ _; refine awl_lw ?w (lv_cl1 T0 rfl rfl rfl (by solve | repeat' constructor) (by first | rfl | assumption)) rfl rfl rfl ?_) | (show AWL _ _ _ (⟨_, .load _ _, _, _, _, _⟩ :: _) _ _ _; refine awl_lw ?w (lv_elt_sc T0 rfl rfl rfl rfl) rfl rfl rfl ?_) | (show AWL _ _ _ (⟨_, .fieldAddr _ _ _, _, _, _, _⟩ :: _) _ _ _; refine awl_pw ?w (pv_fa T0 rfl rfl rfl (by simp; rfl)) rfl rfl ?_) | (show AWL _ _ _ (⟨_, .fieldAddr _ _ _, _, _, _, _⟩ :: _) _ _ _; refine awl_pw ?w (pv_fa_elt T0 rfl rfl rfl (by simp; rfl)) rfl rfl ?_) | (show AWL _ _ _ (⟨_, .indexAddr _ _ _, _, _, _, _⟩ :: _) _ _ _; refine awl_pw ?w (pv_ix_t T0 rfl rfl rfl rfl (by omega) (by first | exact Int.toNat_natCast _ | rfl)) rfl rfl ?_)); case w => first | exact wt_none rfl | exact wt_some' rfl rfl rfl rfl (by first | rfl | assumption | exact dT (by omega) | exact dF (by omega))) | (show AWL _ _ _ (⟨_, .store _ _ _, _, _, _, _⟩ :: _) _ _ _; refine awl_hw (by first | exact wt_none rfl | exact wt_some' rfl rfl rfl rfl (by first | rfl | assumption | exact dT (by omega) | exact dF (by omega))) (st_store T0 rfl rfl rfl rfl rfl (by first | assumption | (simp only [cellsA]; rfl)) rfl rfl rfl (by solve | repeat' constructor) (by solve | repeat' constructor) trivial ?_)) | refine awl_nil ?_)
    refine rnd_n _ _ _ ?_ ⟨P ++ [(i : Int)], _, _, _, N + 1, _, hPn, rfl, ?_, ?_, ?_, (fun _ => p52 (by omega)), rfl, rfl⟩ (by first | ((repeat' (first | exact True.intro | refine ⟨rfl, ?_⟩)); all_goals fail) | fail) (by solve | repeat' constructor)
    · simp; omega
    · simp; omega
    · rw [hrows]; simp [intRow]
    · simp; omega
end Go.Proofs.Ytilhflfbbfeakaa
end
