/- Joined texts: ROc, CGNq, CGHf. -/
import Derived.Test.YtlpknbneilgjkaaZgRRa
import Derived.ChangeKeysEq
import Derived.Test.YtlpknbneilgjkaaZgCMsp
import Derived.Test.YtlpknbneilgjkaaZgCCa
import Derived.Test.YtlpknbneilgjkaaZgGTy
import Derived.Test.YtlpknbneilgjkaaZgCGHa
import Derived.Test.YtlpknbneilgjkaaZgCGHc
section
namespace Go.Proofs.Ytlpknbneilgjkaa.R
open Go Go.RowKit Go.ChangeShapes Go.Tl
set_option linter.unusedVariables false
set_option linter.unusedSimpArgs false
def ConsAt (w : World) (a : Option Addr) (cs : List ConD) : Prop :=
  ∀ k, k < cs.length → ∃ b off, a = some ⟨b, off, none⟩ ∧ w.cell? ⟨b, off + k * 4, none⟩ = some (.int .i64 (cs.getD k default).frm) ∧ w.cell? ⟨b, off + k * 4 + 1, none⟩ = some (.int .i64 (cs.getD k default).to) ∧
    w.cell? ⟨b, off + k * 4 + 2, none⟩ = some (.int .i64 (cs.getD k default).num) ∧ w.cell? ⟨b, off + k * 4 + 3, none⟩ = some (.int .i64 (cs.getD k default).price)
section
variable {P : Program} {H : Type} {enc : TypeId × Value → H} {w : World} {base : Nat} {spare : Nat → Bool} {held : Bool}
theorem trod_struct4 {t : TypeId} {f0 f1 f2 f3 : Field} {fuel : Nat} {cs : List Value} {x : DataW H × List MemPlace} (ht : P.underlying t = some (.struct #[f0, f1, f2, f3])) (h : DataW.trod enc P w base spare held fuel t cs = some x) :
    ∃ y0 y1 y2 y3 n, cs.length = P.cellsOf t ∧ DataW.trod enc P w base spare held n f0.type ((cs.drop f0.offset).take (P.cellsOf f0.type)) = some y0 ∧
      DataW.trod enc P w base spare held n f1.type ((cs.drop f1.offset).take (P.cellsOf f1.type)) = some y1 ∧ DataW.trod enc P w base spare held n f2.type ((cs.drop f2.offset).take (P.cellsOf f2.type)) = some y2 ∧
      DataW.trod enc P w base spare held n f3.type ((cs.drop f3.offset).take (P.cellsOf f3.type)) = some y3 := by
  obtain ⟨xs, n, _, rfl, hl, hlen, hf⟩ := DataW.trod_struct ht h
  match xs, hlen with
  | [y0, y1, y2, y3], _ => exact ⟨y0, y1, y2, y3, n, hl, by simpa using hf 0 f0 rfl, by simpa using hf 1 f1 rfl, by simpa using hf 2 f2 rfl, by simpa using hf 3 f3 rfl⟩
theorem open_cons {t te e : TypeId} {q0 q1 q2 q3 : Field} {fuel : Nat} {cs : List Value} {x : DataW H × List MemPlace} (hs : P.underlying t = some (.slice te)) (hsz : P.cellsOf te = 4) (ht : P.underlying te = some (.struct #[q0, q1, q2, q3])) (hq0 : q0.type = e ∧ q0.offset = 0) (hq1 : q1.type = e ∧ q1.offset = 1) (hq2 : q2.type = e ∧ q2.offset = 2) (hq3 : q3.type = e ∧ q3.offset = 3)
    (he : P.underlying e = some (.int .i64)) (hc : P.cellsOf e = 1)
    (h : DataW.trod enc P w base spare held fuel t cs = some x) : ∃ (a : Option Addr) (c : Nat) (rs : List ConD), cs = [.slice a rs.length c] ∧ rs.length ≤ maxLen ∧ ConsAt w a rs := by
  obtain ⟨a, c, l, g1, g2, g3⟩ := open_slice (α := ConD) (R := fun val r => val 0 = .int .i64 r.frm ∧ val 1 = .int .i64 r.to ∧ val 2 = .int .i64 r.num ∧ val 3 = .int .i64 r.price) hs hsz (by omega) (fun fuel cs y hy hl => by
    obtain ⟨y0, y1, y2, y3, n, _, k0, k1, k2, k3⟩ := trod_struct4 ht hy
    match cs, hl with
    | [u, v, z, z2], _ =>
      rw [hq0.1, hq0.2, hc] at k0
      rw [hq1.1, hq1.2, hc] at k1
      rw [hq2.1, hq2.2, hc] at k2
      rw [hq3.1, hq3.2, hc] at k3
      obtain ⟨m0, e0, _, _⟩ := DataW.trod_int he k0
      obtain ⟨m1, e1, _, _⟩ := DataW.trod_int he k1
      obtain ⟨m2, e2, _, _⟩ := DataW.trod_int he k2
      obtain ⟨m3, e3, _, _⟩ := DataW.trod_int he k3
      simp only [List.drop_zero, List.take_succ_cons, List.take_zero, List.cons.injEq, and_true] at e0
      simp only [List.drop_succ_cons, List.drop_zero, List.take_succ_cons, List.take_nil, List.take_zero, List.cons.injEq, and_true] at e1
      simp only [List.drop_succ_cons, List.drop_zero, List.take_succ_cons, List.take_nil, List.take_zero, List.cons.injEq, and_true] at e2
      simp only [List.drop_succ_cons, List.drop_zero, List.take_succ_cons, List.take_nil, List.take_zero, List.cons.injEq, and_true] at e3
      exact ⟨⟨m0, m1, m2, m3⟩, e0, e1, e2, e3⟩) h
  refine ⟨a, c, l, g1, g2, fun k hk => ?_⟩
  obtain ⟨b, off, val, e, g, r1, r2, r3, r4⟩ := g3 k hk
  refine ⟨b, off, e, ?_, ?_, ?_, ?_⟩
  · have := g 0 (by omega); rw [r1] at this; simpa using this
  · have := g 1 (by omega); rw [r2] at this; exact this
  · have := g 2 (by omega); rw [r3] at this; exact this
  · have := g 3 (by omega); rw [r4] at this; exact this
end
theorem cons_in {w : World} {a : Option Addr} {c : Nat} {xs : List ConD} (h : ConsAt w a xs) : Tl.TRel w (fun b => b < w.heap.size) (consT false xs) (.slice a xs.length c) := by
  refine sl_in (fun _ _ => rfl) (by omega) (fun k hk => ?_)
  obtain ⟨b, off, e, h0, h1, h2, h3⟩ := h k hk
  refine ⟨b, off, fun j => if j = 0 then .int .i64 (xs.getD k default).frm else if j = 1 then .int .i64 (xs.getD k default).to else if j = 2 then .int .i64 (xs.getD k default).num else .int .i64 (xs.getD k default).price, e, fun j hj => ?_, fun j x hx => ?_⟩
  · rcases (show j = 0 ∨ j = 1 ∨ j = 2 ∨ j = 3 by omega) with rfl | rfl | rfl | rfl
    · simpa using h0
    · simpa using h1
    · simpa using h2
    · simpa using h3
  · match j with
    | 0 => simp [conL] at hx; subst hx; exact .sc _
    | 1 => simp [conL] at hx; subst hx; exact .sc _
    | 2 => simp [conL] at hx; subst hx; exact .sc _
    | 3 => simp [conL] at hx; subst hx; exact .sc _
    | j + 4 => simp [conL] at hx
theorem book_in {w : World} {a : Option Addr} {c : Nat} {b : BookD} (h : ConsAt w a b.cons) : VRel w (fun b => b < w.heap.size) (bookA false b) (.agg #[.int .i64 b.houses, .slice a b.cons.length c]) :=
  ag_rel (vs := [_, _]) (rels_cons (.v _) (rels_cons (.t (cons_in h)) rels_nil))
theorem cells3 : Try.prog.cellsOf 3 = 1 := by kernel_rfl
theorem cells79 : Try.prog.cellsOf 79 = 1 := by kernel_rfl
theorem cells81 : Try.prog.cellsOf 81 = 2 := by kernel_rfl
theorem cells93 : Try.prog.cellsOf 93 = 4 := by kernel_rfl
theorem cells29 : Try.prog.cellsOf 29 = 1 := by kernel_rfl
section
variable {H : Type} {enc : TypeId × Value → H} {w : World} {base : Nat} {spare : Nat → Bool} {held : Bool}
set_option maxRecDepth 100000 in
theorem open_book {fuel : Nat} {cs : List Value} {x : DataW H × List MemPlace} (h : DataW.trod enc Try.prog w base spare held fuel 81 cs = some x) :
    ∃ (b : BookD) (a : Option Addr) (c : Nat), cs = [.int .i64 b.houses, .slice a b.cons.length c] ∧ b.cons.length ≤ maxLen ∧ ConsAt w a b.cons := by
  obtain ⟨y0, y1, n, hx0, hl, k0, k1⟩ := trod_struct2 Try.underlying81 h
  rw [cells81] at hl
  match cs, hl with
  | [u, v], _ =>
    rw [cells3] at k0
    rw [cells79] at k1
    obtain ⟨st, e0, _, _⟩ := DataW.trod_int Try.underlying3 k0
    obtain ⟨a, c, ds, e1, hd, hD⟩ := open_cons Try.underlying79 cells93 Try.underlying93 ⟨rfl, rfl⟩ ⟨rfl, rfl⟩ ⟨rfl, rfl⟩ ⟨rfl, rfl⟩ Try.underlying3 cells3 k1
    simp only [List.drop_zero, List.take_succ_cons, List.take_zero, List.cons.injEq, and_true] at e0
    simp only [List.drop_succ_cons, List.drop_zero, List.take_succ_cons, List.take_nil, List.take_zero, List.cons.injEq, and_true] at e1
    exact ⟨⟨st, ds⟩, a, c, by rw [e0, e1], hd, hD⟩
end
end Go.Proofs.Ytlpknbneilgjkaa.R
end
section
section
namespace Go.Proofs.Ytlpknbneilgjkaa.C
open Go Go.RowKit Go.Tl
set_option linter.unusedVariables false
set_option linter.unusedSimpArgs false
end Go.Proofs.Ytlpknbneilgjkaa.C
end
section
namespace Go.Proofs.Ytlpknbneilgjkaa.C
open Go Go.RowKit Go.Tl
set_option linter.unusedVariables false
set_option linter.unusedSimpArgs false
theorem eq_rng (a b a' b' : Int) (w : World) : (Op.equal 184 (.agg #[.int .i64 a, .int .i64 b]) (.agg #[.int .i64 a', .int .i64 b'])).run Try.prog w = .ok (a == a' && b == b') w := by
  have h1 : Try.prog.stoodInHeld 184 = false := by kernel_rfl
  have h2 : Try.prog.underlying 184 = some (.struct (Try.prog.fieldsOf 184)) := by kernel_rfl
  have hfo : (Try.prog.fieldsOf 184).toList = (match Try.prog.underlying 184 with | some (.struct fs) => fs.toList | _ => []) := by kernel_rfl
  have q : ∀ (a b : Int) (w : World), (Op.equalIn 9999 3 (.int .i64 a) (.int .i64 b)).run Try.prog w = .ok (a == b) w := fun a b w => run_equalIn_int w 9998 3 .i64 .i64 a b Try.underlying3
  have p0 : ∀ (x y : Value) (w : World), (part 3 #[x, y] 0).run Try.prog w = .ok x w := fun x y w => by kernel_rfl
  have p1 : ∀ (x y : Value) (w : World), (part 3 #[x, y] 1).run Try.prog w = .ok y w := fun x y w => by kernel_rfl
  unfold Op.equal Op.maxDepth
  rw [run_equalIn_struct w 9999 184 _ _ h2 h1, hfo, Try.underlying184]
  cases h1 : (a == a') <;> cases h2 : (b == b') <;> simp [Op.eqFields, p0, p1, q, h1, h2]
theorem rng_inv {w : World} {S : Nat → Prop} {r : Int × Int} {v : Value} (h : VRel w S (.ag [intA r.1, intA r.2]) v) : v = .agg #[.int .i64 r.1, .int .i64 r.2] := by
  obtain ⟨vs, rfl, hv⟩ := ag_inv h
  obtain ⟨v1, us, rfl, k1, hv⟩ := rels1 hv
  obtain ⟨v2, us, rfl, k2, hv⟩ := rels1 hv
  obtain rfl := rels0 hv
  rw [k1.lit_inv, k2.lit_inv]
section
variable {o : Oper} {sl : Slots} {t' : TypeId} {x z : Operand} {q r : Int × Int}
theorem eq2_iff : (q.1 == r.1 && q.2 == r.2) = decide (q = r) := by
  obtain ⟨a, b⟩ := q
  obtain ⟨c, d⟩ := r
  rw [Bool.eq_iff_iff]
  simp
theorem pv_eql_rng (ho : o.op = .binOp .eql 184 x z t') (hx : evA sl x = some (.ag [intA q.1, intA q.2])) (hz : evA sl z = some (.ag [intA r.1, intA r.2])) : PV Try.prog o sl (boolA (decide (q = r))) := fun w S a hs => by
  have h1 := rng_inv (hs.eval hx)
  have h2 := rng_inv (hs.eval hz)
  rw [← eq2_iff]
  refine ⟨.bool (q.1 == r.1 && q.2 == r.2), fun w' => ?_, .v _⟩
  have h3 := eq_rng q.1 q.2 r.1 r.2 w'
  simp [execOp, ho, h1, h2, eqGuard, binOp, h3]
end
end Go.Proofs.Ytlpknbneilgjkaa.C
end
end
section
section
namespace Go.Proofs.Ytlpknbneilgjkaa.C
open Go Go.RowKit Go.Tl
set_option linter.unusedVariables false
set_option linter.unusedSimpArgs false
set_option maxRecDepth 100000
set_option maxHeartbeats 4000000
def sLo (hs : List HouD) : Nat → Int
  | 0 => 0
  | k + 1 => sLo hs k + (hs.getD k default).lo
def sHi (hs : List HouD) : Nat → Int
  | 0 => 0
  | k + 1 => sHi hs k + (hs.getD k default).hi
def possB (m : MktD) : Bool := inB m.ex (sLo m.hou m.hou.length) (sHi m.hou m.hou.length)
theorem s_bd {m : MktD} (hv : VMkt m) : ∀ k, k ≤ m.hou.length → (0 ≤ sLo m.hou k ∧ sLo m.hou k ≤ sHi m.hou k) ∧ sHi m.hou k ≤ 200 * (k : Int)
  | 0, _ => by simp [sLo, sHi]
  | k + 1, hk => by
    have ih := s_bd hv k (by omega)
    have h := hv.held k (by omega)
    simp only [sLo, sHi]
    omega
attribute [local irreducible] AWP AWL AOp PV LV AWT AWE
end Go.Proofs.Ytlpknbneilgjkaa.C
end
section
namespace Go.Proofs.Ytlpknbneilgjkaa.C
open Go Go.RowKit Go.Tl
set_option linter.unusedVariables false
set_option linter.unusedSimpArgs false
set_option maxRecDepth 100000
set_option maxHeartbeats 4000000
attribute [local irreducible] AWP AWL AOp PV LV AWT AWE
section
variable {g1 g6 g7 i : Nat} {cp cc : Bool} {m : MktD} {o : List Nat} {X : AV} {mi : Int} {b : Bool} {Q : AV → Prop}
end
end Go.Proofs.Ytlpknbneilgjkaa.C
end
section
namespace Go.Proofs.Ytlpknbneilgjkaa.C
open Go Go.RowKit Go.Tl
set_option linter.unusedVariables false
set_option linter.unusedSimpArgs false
set_option maxRecDepth 100000
set_option maxHeartbeats 4000000
attribute [local irreducible] AWP AWL AOp PV LV AWT AWE
theorem refhas_p (cp cc : Bool) (m : MktD) (hv : VMkt m) : PCall Try.prog 35 [mktA cp cc m] (fun r => r = boolA (possB m)) := by
  have hlen := hv.len
  refine acall_of_awp T0 Try.func35 rfl rfl rfl ?_
  repeat (first | refine awp_seq ?_ | refine awp_region_lit rfl ?_)
  refine awl_hw (wt_none rfl) (st_box rfl rfl raA (by first | assumption | (simp only [cellsA]; rfl)) rfl rfl ?_)
  intro g1
  repeat (first | refine awp_seq ?_ | refine awp_block ?_ | refine awp_region_lit rfl ?_ | (show AWL _ _ _ (⟨_, .assign _, _, _, _, _⟩ :: _) _ _ _; refine awl_pw (wt_none rfl) (pv_assign rfl rfl) rfl rfl ?_) | refine awl_nil ?_)
  refine awp_loop (fun q s h => ∃ (k : Nat), k ≤ m.hou.length ∧ q = m.hou.length - k ∧ s = [(1, .v (ptrV g1)), (3, intA (sLo m.hou k)), (4, intA (sHi m.hou k)), (5, intA k)] ∧ h = [.cl g1 119 [intA m.ex, .t (housT cp m.hou), .t (consT cc m.con)]]) ?_ ⟨0, Nat.zero_le _, rfl, rfl, rfl⟩ ssA rcA
  rintro q s h ⟨k, hk, rfl, rfl, rfl⟩
  have hb := s_bd hv k hk
  by_cases hkt : k < m.hou.length
  case neg =>
    obtain rfl : k = m.hou.length := by omega
    have hC := in_q (n := m.ex) (lo := sLo m.hou m.hou.length) (hi := sHi m.hou m.hou.length) rfl
    repeat (first | refine awp_seq ?_ | refine awp_region_lit rfl ?_ | refine awp_exit ?_ | with_reducible refine then_n ?_ | refine awp_cond_f rfl (by first | rfl | assumption | exact dF (by omega)) ?_ | (show AWL _ _ _ (⟨_, .move _, _, _, _, _⟩ :: _) _ _ _; refine awl_pw (wt_none rfl) (pv_move rfl rfl) rfl rfl ?_) | (show AWL _ _ _ (⟨_, .load _ _, _, _, _, _⟩ :: _) _ _ _; refine awl_lw (wt_none rfl) (lv_cl1 T0 rfl rfl rfl rcA raA) rfl rfl rfl ?_) | (show AWL _ _ _ (⟨_, .fieldAddr _ _ _, _, _, _, _⟩ :: _) _ _ _; refine awl_pw (wt_none rfl) (pv_fa T0 rfl rfl rfl (by simp; rfl)) rfl rfl ?_) | (show AWL _ _ _ (⟨_, .binOp .lss _ _ _ _, _, _, _, _⟩ :: _) _ _ _; refine awl_pw (wt_none rfl) (pv_lss rfl rfl rfl) rfl rfl ?_) | (show AWL _ _ _ (⟨_, .call ⟨.builtin .len, _, _⟩, _, _, _, _⟩ :: _) _ _ _; refine awl_pw (wt_none rfl) (pv_len_t T0 rfl rfl rfl) rfl rfl ?_) | refine awl_nil ?_)
    refine awl_hw (wt_none rfl) (st_call T0 (hC) rfl rfl rfl rfl (by first | exact callee_lit | exact callee_v | exact callee_fn | assumption) rcA raA rfl ?_)
    rintro _ rfl
    repeat (first | refine awp_ret ?_ | (show AWL _ _ _ (⟨_, .assign _, _, _, _, _⟩ :: _) _ _ _; refine awl_pw (wt_none rfl) (pv_assign rfl rfl) rfl rfl ?_) | refine awl_nil ?_)
    exact body_p (.cons rfl .nil) rfl
  have hh := hv.held k hkt
  repeat (first | refine awp_seq ?_ | refine awp_block ?_ | refine awp_region_lit rfl ?_ | refine awp_skip ?_ | with_reducible refine then_n ?_ | refine awp_cond_t rfl (by first | rfl | assumption | exact dT (by omega)) ?_ | (show AWL _ _ _ (⟨_, .move _, _, _, _, _⟩ :: _) _ _ _; refine awl_pw (wt_none rfl) (pv_move rfl rfl) rfl rfl ?_) | (show AWL _ _ _ (⟨_, .assign _, _, _, _, _⟩ :: _) _ _ _; refine awl_pw (wt_none rfl) (pv_assign rfl rfl) rfl rfl ?_) | (show AWL _ _ _ (⟨_, .load _ _, _, _, _, _⟩ :: _) _ _ _; refine awl_lw (wt_none rfl) (lv_cl1 T0 rfl rfl rfl rcA raA) rfl rfl rfl ?_) | (show AWL _ _ _ (⟨_, .load _ _, _, _, _, _⟩ :: _) _ _ _; refine awl_lw (wt_none rfl) (lv_elt_sc T0 rfl rfl rfl rfl) rfl rfl rfl ?_) | (show AWL _ _ _ (⟨_, .fieldAddr _ _ _, _, _, _, _⟩ :: _) _ _ _; refine awl_pw (wt_none rfl) (pv_fa T0 rfl rfl rfl (by simp; rfl)) rfl rfl ?_) | (show AWL _ _ _ (⟨_, .fieldAddr _ _ _, _, _, _, _⟩ :: _) _ _ _; refine awl_pw (wt_none rfl) (pv_fa_elt T0 rfl rfl rfl (by simp; rfl)) rfl rfl ?_) | (show AWL _ _ _ (⟨_, .indexAddr _ _ _, _, _, _, _⟩ :: _) _ _ _; refine awl_pw (wt_none rfl) (pv_ix_t T0 rfl rfl rfl rfl (by omega) ixA) rfl rfl ?_) | (show AWL _ _ _ (⟨_, .binOp .add _ _ _ _, _, _, _, _⟩ :: _) _ _ _; refine awl_pw (wt_none rfl) (pv_add rfl rfl rfl (by first | assumption | exact wr64 (by omega))) rfl rfl ?_) | (show AWL _ _ _ (⟨_, .binOp .lss _ _ _ _, _, _, _, _⟩ :: _) _ _ _; refine awl_pw (wt_none rfl) (pv_lss rfl rfl rfl) rfl rfl ?_) | (show AWL _ _ _ (⟨_, .call ⟨.builtin .len, _, _⟩, _, _, _, _⟩ :: _) _ _ _; refine awl_pw (wt_none rfl) (pv_len_t T0 rfl rfl rfl) rfl rfl ?_) | refine awl_nil ?_)
  refine rnd_n _ _ _ ?_ ⟨k + 1, hkt, rfl, rfl, rfl⟩ ssA rcA
  omega
end Go.Proofs.Ytlpknbneilgjkaa.C
end
end
