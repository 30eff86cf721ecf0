/- Joined texts: Eqa, Sd0, Sd, Se. -/
import Derived.ChangeKeysEq
import Derived.Test.YtlpknbneilgjkaaZnRGBf
import Derived.Test.YtlpknbneilgjkaaZnRGMp
import Derived.Test.YtlpknbneilgjkaaZnGTs
import Derived.Test.YtlpknbneilgjkaaZnRGSa
import Derived.Test.YtlpknbneilgjkaaZnRFr
section
namespace Go.Proofs.Ytlpknbneilgjkaa.R
open Go Go.RowKit Go.Tl
set_option linter.unusedVariables false
set_option linter.unusedSimpArgs false
def eq6 (d e : Nat → Int) : Bool := d 0 == e 0 && (d 1 == e 1 && (d 2 == e 2 && (d 3 == e 3 && (d 4 == e 4 && d 5 == e 5))))
theorem eq6_iff {d e : Nat → Int} : eq6 d e = true ↔ ∀ q, q < 6 → d q = e q := by
  unfold eq6
  simp only [Bool.and_eq_true, beq_iff_eq]
  constructor
  · rintro ⟨h0, h1, h2, h3, h4, h5⟩ q hq
    match q, hq with
    | 0, _ => exact h0
    | 1, _ => exact h1
    | 2, _ => exact h2
    | 3, _ => exact h3
    | 4, _ => exact h4
    | 5, _ => exact h5
  · intro h
    exact ⟨h 0 (by omega), h 1 (by omega), h 2 (by omega), h 3 (by omega), h 4 (by omega), h 5 (by omega)⟩
theorem eq_arr (a0 a1 a2 a3 a4 a5 b0 b1 b2 b3 b4 b5 : Int) (w : World) :
    (Op.equal 235 (.agg #[.int .i64 a0, .int .i64 a1, .int .i64 a2, .int .i64 a3, .int .i64 a4, .int .i64 a5]) (.agg #[.int .i64 b0, .int .i64 b1, .int .i64 b2, .int .i64 b3, .int .i64 b4, .int .i64 b5])).run Try.prog w = .ok (a0 == b0 && (a1 == b1 && (a2 == b2 && (a3 == b3 && (a4 == b4 && a5 == b5))))) w := by
  have h1 : Try.prog.cellsOf 3 = 1 := by kernel_rfl
  obtain ⟨i, hi⟩ : ∃ i, Try.prog.info? 3 = some i := Option.isSome_iff_exists.1 (by kernel_rfl)
  unfold Op.equal Op.maxDepth
  rw [run_equalIn_array (w := w) 9999 _ _ Try.underlying235 hi, h1]
  have hr : List.range 6 = [0, 1, 2, 3, 4, 5] := rfl
  rw [hr]
  have p0 : ∀ (x0 x1 x2 x3 x4 x5 : Value) (w : World), (part 3 #[x0, x1, x2, x3, x4, x5] (0 * 1)).run Try.prog w = .ok x0 w := fun _ _ _ _ _ _ w => by kernel_rfl
  have p1 : ∀ (x0 x1 x2 x3 x4 x5 : Value) (w : World), (part 3 #[x0, x1, x2, x3, x4, x5] (1 * 1)).run Try.prog w = .ok x1 w := fun _ _ _ _ _ _ w => by kernel_rfl
  have p2 : ∀ (x0 x1 x2 x3 x4 x5 : Value) (w : World), (part 3 #[x0, x1, x2, x3, x4, x5] (2 * 1)).run Try.prog w = .ok x2 w := fun _ _ _ _ _ _ w => by kernel_rfl
  have p3 : ∀ (x0 x1 x2 x3 x4 x5 : Value) (w : World), (part 3 #[x0, x1, x2, x3, x4, x5] (3 * 1)).run Try.prog w = .ok x3 w := fun _ _ _ _ _ _ w => by kernel_rfl
  have p4 : ∀ (x0 x1 x2 x3 x4 x5 : Value) (w : World), (part 3 #[x0, x1, x2, x3, x4, x5] (4 * 1)).run Try.prog w = .ok x4 w := fun _ _ _ _ _ _ w => by kernel_rfl
  have p5 : ∀ (x0 x1 x2 x3 x4 x5 : Value) (w : World), (part 3 #[x0, x1, x2, x3, x4, x5] (5 * 1)).run Try.prog w = .ok x5 w := fun _ _ _ _ _ _ w => by kernel_rfl
  have q : ∀ (a b : Int) (w : World), (Op.equalIn 9999 3 (.int .i64 a) (.int .i64 b)).run Try.prog w = .ok (a == b) w := fun a b w => run_equalIn_int w 9998 3 .i64 .i64 a b Try.underlying3
  have st : ∀ (xs ys : Array Value) (j : Nat) (js : List Nat) (x y : Int) (r : Bool), (∀ w, (part 3 xs (j * 1)).run Try.prog w = .ok (.int .i64 x) w) → (∀ w, (part 3 ys (j * 1)).run Try.prog w = .ok (.int .i64 y) w) → (Op.eqItems 9999 3 1 xs ys js).run Try.prog w = .ok r w → (Op.eqItems 9999 3 1 xs ys (j :: js)).run Try.prog w = .ok (x == y && r) w := fun xs ys j js x y r h1 h2 h3 => by
    simp only [Op.eqItems, Sem.run_bind, h1, h2, q, Result.andThen_ok]
    cases h : x == y
    · simp
    · simpa using h3
  have hn : ∀ xs ys : Array Value, (Op.eqItems 9999 3 1 xs ys []).run Try.prog w = .ok true w := fun xs ys => by simp [Op.eqItems]
  have := st #[.int .i64 a0, .int .i64 a1, .int .i64 a2, .int .i64 a3, .int .i64 a4, .int .i64 a5] #[.int .i64 b0, .int .i64 b1, .int .i64 b2, .int .i64 b3, .int .i64 b4, .int .i64 b5] 0 [1, 2, 3, 4, 5] a0 b0 _ (p0 _ _ _ _ _ _) (p0 _ _ _ _ _ _)
    (st _ _ 1 [2, 3, 4, 5] a1 b1 _ (p1 _ _ _ _ _ _) (p1 _ _ _ _ _ _) (st _ _ 2 [3, 4, 5] a2 b2 _ (p2 _ _ _ _ _ _) (p2 _ _ _ _ _ _) (st _ _ 3 [4, 5] a3 b3 _ (p3 _ _ _ _ _ _) (p3 _ _ _ _ _ _) (st _ _ 4 [5] a4 b4 _ (p4 _ _ _ _ _ _) (p4 _ _ _ _ _ _) (st _ _ 5 [] a5 b5 _ (p5 _ _ _ _ _ _) (p5 _ _ _ _ _ _) (hn _ _))))))
  rw [this, Bool.and_true]
theorem arr6_inv {w : World} {S : Nat → Prop} {d : Nat → Int} {v : Value} (h : VRel w S (.ag (arrI d 6)) v) : v = .agg #[.int .i64 (d 0), .int .i64 (d 1), .int .i64 (d 2), .int .i64 (d 3), .int .i64 (d 4), .int .i64 (d 5)] := by
  obtain ⟨vs, rfl, hv⟩ := ag_inv h
  have e : arrI d 6 = [intA (d 0), intA (d 1), intA (d 2), intA (d 3), intA (d 4), intA (d 5)] := rfl
  rw [e] at hv
  obtain ⟨v0, us, rfl, k0, hv⟩ := rels1 hv
  obtain ⟨v1, us, rfl, k1, hv⟩ := rels1 hv
  obtain ⟨v2, us, rfl, k2, hv⟩ := rels1 hv
  obtain ⟨v3, us, rfl, k3, hv⟩ := rels1 hv
  obtain ⟨v4, us, rfl, k4, hv⟩ := rels1 hv
  obtain ⟨v5, us, rfl, k5, hv⟩ := rels1 hv
  obtain rfl := rels0 hv
  rw [k0.lit_inv, k1.lit_inv, k2.lit_inv, k3.lit_inv, k4.lit_inv, k5.lit_inv]
theorem pv_eql_arr {o : Oper} {s : Slots} {t' : TypeId} {x z : Operand} {d e : Nat → Int} (ho : o.op = .binOp .eql 235 x z t') (hx : evA s x = some (.ag (arrI d 6))) (hz : evA s z = some (.ag (arrI e 6))) : PV Try.prog o s (boolA (eq6 d e)) := fun w S a hs => by
  have h1 := arr6_inv (hs.eval hx)
  have h2 := arr6_inv (hs.eval hz)
  refine ⟨.bool (eq6 d e), fun w' => ?_, .v _⟩
  have h3 := eq_arr (d 0) (d 1) (d 2) (d 3) (d 4) (d 5) (e 0) (e 1) (e 2) (e 3) (e 4) (e 5) w'
  simp [execOp, ho, h1, h2, eqGuard, binOp, h3, eq6]
end Go.Proofs.Ytlpknbneilgjkaa.R
end
section
namespace Go.Proofs.Ytlpknbneilgjkaa.R
open Go Go.RowKit Go.Tl
set_option linter.unusedVariables false
set_option linter.unusedSimpArgs false
set_option maxRecDepth 100000
set_option maxHeartbeats 4000000
attribute [local irreducible] AWP AWL AOp PV LV AWT AWE
theorem subh_tail (x : Ent) : ∀ l : List Ent, SubH l (x :: l)
  | [] => .nil
  | _ :: l => .cons (.there .here) (subh_tail x l)
def arcR (a : Arc) : List AV := [intA (a.1 : Nat), boolA a.2]
section
variable {b : BookD} {cp : Bool} {g3 g4 g5 g10 g12 gw gm j m : Nat} {nx d : Nat → Int} {F F1 : Arc → Int} {a : Arc} {rest : List Ent} {u0 u3 u6 u9 u7 u74 u75 u76 : AV} {x : Int} {ad : Option Addr} {c : Nat} {rows : List (List AV)}
theorem gn_11 (hj : j < 6) {ops : Array Oper} (h : regG Try.f95 11 = some ops) :
    AWP Try.prog Try.f95.ntmps none (.region 11 ops true) (cutQ (fun s h => s = [(36, boolA (decide (nx j = d j))), (0, u0), (3, u3), (4, .v (ptrV g4)), (5, .v (ptrV g5)), (6, intA j)] ∧ h = .cl g5 235 (arrI nx 6) :: .cl g4 235 (arrI d 6) :: rest))
      [(0, u0), (3, u3), (4, .v (ptrV g4)), (5, .v (ptrV g5)), (6, intA j)] (.cl g5 235 (arrI nx 6) :: .cl g4 235 (arrI d 6) :: rest) := by
  cases h
  have r1 : (arrI nx 6)[j]? = some (intA (nx j)) := arrI_at hj
  have r2 : (arrI d 6)[j]? = some (intA (d j)) := arrI_at hj
  refine awp_tree T0 [(0, 0), (1, 0), (2, 1), (3, 0), (4, 0), (5, 1), (6, 0)] (.op 0 0 (.op 1 0 (.op 2 1 (.op 3 0 (.op 4 0 (.op 5 1 (.op 6 0 .stop))))))) [.cl g5 _ _, .cl g4 _ _] rfl (by kernel_rfl) (by solve | repeat' constructor) ?_
  refine awt_po rfl (wt_none rfl) (pv_move rfl rfl) rfl rfl ?_
  refine awt_po rfl (wt_none rfl) (pv_ix_arr T0 rfl rfl rfl rfl (by omega) (by simp; rfl)) rfl rfl ?_
  refine awt_lo rfl (wt_none rfl) (lv_cl1 T0 rfl rfl rfl (by solve | repeat' constructor) (by first | rfl | assumption)) rfl rfl rfl ?_
  refine awt_po rfl (wt_none rfl) (pv_move rfl rfl) rfl rfl ?_
  refine awt_po rfl (wt_none rfl) (pv_ix_arr T0 rfl rfl rfl rfl (by omega) (by simp; rfl)) rfl rfl ?_
  refine awt_lo rfl (wt_none rfl) (lv_cl1 T0 rfl rfl rfl (by solve | repeat' constructor) (by first | rfl | assumption)) rfl rfl rfl ?_
  refine awt_po rfl (wt_none rfl) (pv_eql rfl rfl rfl) rfl rfl ?_
  refine awt_end ?_
  exact cut_n ⟨rfl, rfl⟩ (by first | ((repeat' (first | exact True.intro | refine ⟨rfl, ?_⟩)); all_goals fail) | fail) (SubH.refl _)
theorem gn_21 (hn : rows.length = m) (hm : m ≤ 1000) {ops : Array Oper} (h : regG Try.f95 21 = some ops) :
    AWP Try.prog Try.f95.ntmps none (.region 21 ops true) (cutQ (fun s h => ∃ ad c, s = [(0, .v (ptrV gw)), (3, u3), (6, u6), (7, .v (.slice ad (m + 1) c)), (8, intA (min x (F a))), (9, u9), (10, .v (ptrV g10))] ∧ h = .rw (.slice ad (m + 1) c) 232 2 (rows ++ [arcR a]) :: .cl g10 232 [intA (a.1 : Nat), boolA a.2] :: workE gw gm b cp :: leftM gm F :: rest))
      [(0, .v (ptrV gw)), (3, u3), (6, u6), (7, .v (.slice ad m c)), (8, intA x), (9, u9), (10, .v (ptrV g10))] (.cl g10 232 [intA (a.1 : Nat), boolA a.2] :: workE gw gm b cp :: leftM gm F :: .rw (.slice ad m c) 232 2 rows :: rest) := by
  cases h
  refine awp_tree T0 [(0, 0), (1, 1), (4, 0), (5, 0), (6, 0), (7, 0), (8, 1), (9, 1), (10, 1), (11, 0), (2, 2), (3, 2), (12, 0), (13, 0)] (.op 0 0 (.op 1 1 (.op 4 0 (.op 5 0 (.op 6 0 (.op 7 0 (.op 8 1 (.op 9 1 (.op 10 1 (.op 11 0 (.op 2 2 (.op 3 2 (.op 12 0 (.op 13 0 .stop)))))))))))))) [.cl g10 _ _, .cl gw _ _, leftM gm F] rfl (by kernel_rfl) (by solve | repeat' constructor) ?_
  refine awt_po rfl (wt_none rfl) (pv_move rfl rfl) rfl rfl ?_
  refine awt_lo rfl (wt_none rfl) (lv_cla T0 rfl rfl rfl (by solve | repeat' constructor) rfl) rfl rfl rfl ?_
  refine awt_po rfl (wt_none rfl) (pv_move rfl rfl) rfl rfl ?_
  refine awt_po rfl (wt_none rfl) (pv_move rfl rfl) rfl rfl ?_
  refine awt_po rfl (wt_none rfl) (pv_nilCheck rfl rfl) rfl rfl ?_
  refine awt_po rfl (wt_none rfl) (pv_fa T0 rfl rfl rfl (by simp; rfl)) rfl rfl ?_
  refine awt_lo rfl (wt_none rfl) (lv_cl1 T0 rfl rfl rfl (by solve | repeat' constructor) (by first | rfl | assumption)) rfl rfl rfl ?_
  refine awt_lo rfl (wt_none rfl) (lv_cla T0 rfl rfl rfl (by solve | repeat' constructor) rfl) rfl rfl rfl ?_
  refine awt_lo rfl (wt_none rfl) (lv_lookupF Ma (k := a) rfl rfl rfl rfl (by solve | repeat' constructor) rfl) rfl rfl rfl ?_
  refine awt_po rfl (wt_none rfl) (pv_min2 rfl rfl rfl) rfl rfl ?_
  refine awt_h (hm := []) rfl (wt_none rfl) (by solve | repeat' constructor) rfl (st_bsl T0 rfl rfl rfl rfl rfl (by solve | repeat' constructor) rfl rfl rfl rfl (by simp only [List.map_cons, List.map_nil, cellsA]; rfl) ?_)
  intro g58
  refine awt_h (hm := _) rfl (wt_none rfl) ?sub rfl (st_app_o T0 rfl rfl rfl rfl rfl rfl rfl rfl rfl (by solve | repeat' constructor) (by solve | repeat' constructor) rfl rfl hn (by omega) ?_)
  case sub => exact (by solve | repeat' constructor)
  intro a59 c59 p59
  refine awt_n2 rfl (wt_none rfl) (pv_assign rfl rfl) rfl rfl ?_
  refine awt_n1 rfl (wt_none rfl) (pv_assign rfl rfl) rfl rfl rfl ?_
  refine awt_end ?_
  exact cut_n ⟨_, _, rfl, rfl⟩ (by first | ((repeat' (first | exact True.intro | refine ⟨rfl, ?_⟩)); all_goals fail) | fail) (.cons .here (subh_tail _ _))
theorem gn_27 (b1 : -1000000 ≤ F a ∧ F a ≤ 1000000) (b2 : -1000000 ≤ x ∧ x ≤ 2000000) (hF : ∀ q, F1 q = if q = a then F a - x else F q) {ops : Array Oper} (h : regG Try.f95 27 = some ops) :
    AWP Try.prog Try.f95.ntmps none (.region 27 ops true) (cutQ (fun s h => s = [(0, .v (ptrV gw)), (8, intA x), (12, .v (ptrV g12)), (74, u74), (75, u75), (76, u76)] ∧ h = [.cl g12 232 [intA (a.1 : Nat), boolA a.2], workE gw gm b cp, leftM gm F1]))
      [(0, .v (ptrV gw)), (8, intA x), (12, .v (ptrV g12)), (74, u74), (75, u75), (76, u76)] [.cl g12 232 [intA (a.1 : Nat), boolA a.2], workE gw gm b cp, leftM gm F] := by
  cases h
  have hup : updF (fun q => intA (F q)) a (intA (F a - x)) = fun q => intA (F1 q) := by
    funext q
    unfold updF
    rw [hF]
    split <;> rfl
  refine awp_tree T0 [(0, 0), (1, 0), (2, 0), (3, 1), (4, 1), (6, 0), (5, 3), (7, 0), (8, 3), (9, 0), (10, 3)] (.op 0 0 (.op 1 0 (.op 2 0 (.op 3 1 (.op 4 1 (.op 6 0 (.fork 5 (.op 7 0 (.op 8 3 (.op 9 0 (.op 10 3 .stop)))) 8 (.op 9 0 (.op 5 3 (.op 7 0 (.op 10 3 .stop))))))))))) [.cl g12 _ _, .cl gw _ _] rfl (by kernel_rfl) (by solve | repeat' constructor) ?_
  refine awt_po rfl (wt_none rfl) (pv_move rfl rfl) rfl rfl ?_
  refine awt_po rfl (wt_none rfl) (pv_nilCheck rfl rfl) rfl rfl ?_
  refine awt_po rfl (wt_none rfl) (pv_fa T0 rfl rfl rfl (by simp; rfl)) rfl rfl ?_
  refine awt_lo rfl (wt_none rfl) (lv_cl1 T0 rfl rfl rfl (by solve | repeat' constructor) (by first | rfl | assumption)) rfl rfl rfl ?_
  refine awt_lo rfl (wt_none rfl) (lv_cla T0 rfl rfl rfl (by solve | repeat' constructor) rfl) rfl rfl rfl ?_
  refine awt_po rfl (wt_none rfl) (pv_move rfl rfl) rfl rfl ?_
  refine awt_fork ?_ ?_
  · skip
    refine awt_h (hm := []) rfl (wt_none rfl) (by solve | repeat' constructor) rfl (aop_lv (lv_lookupF Ma (k := a) rfl rfl rfl rfl (by solve | repeat' constructor) rfl) rfl (blt_lt rfl) ?_)
    refine awt_n1 rfl (wt_none rfl) (pv_sub rfl rfl rfl (by first | assumption | exact wr64 (by omega))) rfl rfl rfl ?_
    refine awt_s (md := fun _ => True) rfl (wt_none rfl) (aop_mapEntryF Ma (k := a) rfl rfl rfl rfl rfl rfl (fun n => (by solve | repeat' constructor)) trivial (fun n => ?_))
    refine awe_p rfl (wt_none rfl) (pv_extract rfl rfl rfl) rfl rfl ?_
    refine awe_s (md := fun _ => True) rfl (wt_none rfl) (aop_entryStoreF Ma rfl rfl rfl rfl rfl (by solve | repeat' constructor) hup trivial ?_)
    refine awe_end ?_
    exact cut_n ⟨rfl, rfl⟩ (by first | ((repeat' (first | exact True.intro | refine ⟨rfl, ?_⟩)); all_goals fail) | fail) (by solve | repeat' constructor)
  · skip
    refine awt_h (hm := [leftM gm F]) rfl (wt_none rfl) (by solve | repeat' constructor) rfl (aop_mapEntryF Ma (k := a) rfl rfl rfl rfl rfl rfl (fun n => (by solve | repeat' constructor)) ⟨_, List.mem_singleton.2 rfl, rfl⟩ (fun n => ?_))
    refine awt_n1 rfl (wt_none rfl) (pv_extract rfl rfl rfl) rfl rfl rfl ?_
    refine awt_s (md := fun _ => True) rfl (wt_none rfl) (aop_lv (lv_lookupF Ma (k := a) rfl rfl rfl rfl (by solve | repeat' constructor) rfl) rfl (blt_lt rfl) ?_)
    refine awe_p rfl (wt_none rfl) (pv_sub rfl rfl rfl (by first | assumption | exact wr64 (by omega))) rfl rfl ?_
    refine awe_s (md := fun _ => True) rfl (wt_none rfl) (aop_entryStoreF Ma rfl rfl rfl rfl rfl (by solve | repeat' constructor) hup trivial ?_)
    refine awe_end ?_
    exact cut_n ⟨rfl, rfl⟩ (by first | ((repeat' (first | exact True.intro | refine ⟨rfl, ?_⟩)); all_goals fail) | fail) (by solve | repeat' constructor)
theorem gn_28 (b1 : -1000000 ≤ F (a.1, !a.2) ∧ F (a.1, !a.2) ≤ 1000000) (b2 : -1000000 ≤ x ∧ x ≤ 2000000) (hF : ∀ q, F1 q = if q = (a.1, !a.2) then F (a.1, !a.2) + x else F q) {ops : Array Oper} (h : regG Try.f95 28 = some ops) :
    AWP Try.prog Try.f95.ntmps none (.region 28 ops true) (cutQ (fun s h => s = [(0, .v (ptrV gw)), (8, intA x), (74, u74), (75, u75), (76, u76)] ∧ h = [workE gw gm b cp, leftM gm F1]))
      [(0, .v (ptrV gw)), (8, intA x), (12, .v (ptrV g12)), (74, u74), (75, u75), (76, u76)] [.cl g12 232 [intA (a.1 : Nat), boolA a.2], workE gw gm b cp, leftM gm F] := by
  cases h
  have hup : updF (fun q => intA (F q)) (a.1, !a.2) (intA (F (a.1, !a.2) + x)) = fun q => intA (F1 q) := by
    funext q
    unfold updF
    rw [hF]
    split <;> rfl
  refine awp_tree T0 [(0, 0), (1, 0), (2, 0), (3, 1), (4, 0), (5, 1), (6, 0), (7, 1), (8, 0), (9, 0), (11, 0), (10, 3), (12, 0), (13, 3), (14, 0), (15, 3)] (.op 0 0 (.op 1 0 (.op 2 0 (.op 3 1 (.op 4 0 (.op 5 1 (.op 6 0 (.op 7 1 (.op 8 0 (.op 9 0 (.op 11 0 (.fork 10 (.op 12 0 (.op 13 3 (.op 14 0 (.op 15 3 .stop)))) 13 (.op 14 0 (.op 10 3 (.op 12 0 (.op 15 3 .stop)))))))))))))))) [.cl g12 _ _, .cl gw _ _] rfl (by kernel_rfl) (by solve | repeat' constructor) ?_
  refine awt_po rfl (wt_none rfl) (pv_move rfl rfl) rfl rfl ?_
  refine awt_po rfl (wt_none rfl) (pv_nilCheck rfl rfl) rfl rfl ?_
  refine awt_po rfl (wt_none rfl) (pv_fa T0 rfl rfl rfl (by simp; rfl)) rfl rfl ?_
  refine awt_lo rfl (wt_none rfl) (lv_cl1 T0 rfl rfl rfl (by solve | repeat' constructor) (by first | rfl | assumption)) rfl rfl rfl ?_
  refine awt_po rfl (wt_none rfl) (pv_fa T0 rfl rfl rfl (by simp; rfl)) rfl rfl ?_
  refine awt_lo rfl (wt_none rfl) (lv_cl1 T0 rfl rfl rfl (by solve | repeat' constructor) (by first | rfl | assumption)) rfl rfl rfl ?_
  refine awt_po rfl (wt_none rfl) (pv_fa T0 rfl rfl rfl (by simp; rfl)) rfl rfl ?_
  refine awt_lo rfl (wt_none rfl) (lv_cl1 T0 rfl rfl rfl (by solve | repeat' constructor) (by first | rfl | assumption)) rfl rfl rfl ?_
  refine awt_po rfl (wt_none rfl) (pv_not rfl rfl) rfl rfl ?_
  refine awt_po rfl (wt_none rfl) (pv_build T0 rfl rfl rfl (by simp only [Value.cells, List.toList_toArray, List.map_cons, List.map_nil]; rfl) (by first | ((repeat' (first | exact BParts.nil | apply BParts.cons | rfl)); all_goals fail) | fail) (by first | ((repeat' (first | exact FillA.nil | exact Sp.done | apply FillA.cons | apply Sp.put | apply Sp.skip | (simp only [cellsA]; rfl) | rfl)); all_goals fail) | fail)) rfl rfl ?_
  refine awt_po rfl (wt_none rfl) (pv_move rfl rfl) rfl rfl ?_
  refine awt_fork ?_ ?_
  · skip
    refine awt_h (hm := []) rfl (wt_none rfl) (by solve | repeat' constructor) rfl (aop_lv (lv_lookupF Ma (k := (a.1, !a.2)) rfl rfl rfl rfl (by solve | repeat' constructor) rfl) rfl (blt_lt rfl) ?_)
    refine awt_n1 rfl (wt_none rfl) (pv_add rfl rfl rfl (by first | assumption | exact wr64 (by omega))) rfl rfl rfl ?_
    refine awt_s (md := fun _ => True) rfl (wt_none rfl) (aop_mapEntryF Ma (k := (a.1, !a.2)) rfl rfl rfl rfl rfl rfl (fun n => (by solve | repeat' constructor)) trivial (fun n => ?_))
    refine awe_p rfl (wt_none rfl) (pv_extract rfl rfl rfl) rfl rfl ?_
    refine awe_s (md := fun _ => True) rfl (wt_none rfl) (aop_entryStoreF Ma rfl rfl rfl rfl rfl (by solve | repeat' constructor) hup trivial ?_)
    refine awe_end ?_
    exact cut_n ⟨rfl, rfl⟩ (by first | ((repeat' (first | exact True.intro | refine ⟨rfl, ?_⟩)); all_goals fail) | fail) (by solve | repeat' constructor)
  · skip
    refine awt_h (hm := [leftM gm F]) rfl (wt_none rfl) (by solve | repeat' constructor) rfl (aop_mapEntryF Ma (k := (a.1, !a.2)) rfl rfl rfl rfl rfl rfl (fun n => (by solve | repeat' constructor)) ⟨_, List.mem_singleton.2 rfl, rfl⟩ (fun n => ?_))
    refine awt_n1 rfl (wt_none rfl) (pv_extract rfl rfl rfl) rfl rfl rfl ?_
    refine awt_s (md := fun _ => True) rfl (wt_none rfl) (aop_lv (lv_lookupF Ma (k := (a.1, !a.2)) rfl rfl rfl rfl (by solve | repeat' constructor) rfl) rfl (blt_lt rfl) ?_)
    refine awe_p rfl (wt_none rfl) (pv_add rfl rfl rfl (by first | assumption | exact wr64 (by omega))) rfl rfl ?_
    refine awe_s (md := fun _ => True) rfl (wt_none rfl) (aop_entryStoreF Ma rfl rfl rfl rfl rfl (by solve | repeat' constructor) hup trivial ?_)
    refine awe_end ?_
    exact cut_n ⟨rfl, rfl⟩ (by first | ((repeat' (first | exact True.intro | refine ⟨rfl, ?_⟩)); all_goals fail) | fail) (by solve | repeat' constructor)
end
end Go.Proofs.Ytlpknbneilgjkaa.R
end
section
namespace Go.Proofs.Ytlpknbneilgjkaa.R
open Go Go.RowKit Go.Tl
set_option linter.unusedVariables false
set_option linter.unusedSimpArgs false
set_option maxRecDepth 100000
set_option maxHeartbeats 4000000
def StuckA (b : BookD) (off : Nat → Int) : Prop := ∀ a ∈ arcsL (fL (numF b) off) b.cons.length,
  (bfR b (arcsL (fL (numF b) off) b.cons.length) b.houses.toNat).1 (aT b a) ≤ (bfR b (arcsL (fL (numF b) off) b.cons.length) b.houses.toNat).1 (aF b a) + aC a
def mnA (F : Arc → Int) (arc : Nat → Arc) : Nat → Int
  | 0 => 1048576
  | m + 1 => min (mnA F arc m) (F (arc m))
theorem mnA_le {F : Arc → Int} {arc : Nat → Arc} : ∀ {m j : Nat}, j < m → mnA F arc m ≤ F (arc j)
  | 0, _, h => absurd h (Nat.not_lt_zero _)
  | m + 1, j, h => by
    simp only [mnA]
    by_cases e : j = m
    · subst e; omega
    · have := mnA_le (F := F) (arc := arc) (show j < m by omega); omega
theorem mnA_pos {F : Arc → Int} {arc : Nat → Arc} : ∀ {m : Nat}, (∀ j, j < m → 1 ≤ F (arc j)) → 1 ≤ mnA F arc m ∧ mnA F arc m ≤ 1048576
  | 0, _ => by simp [mnA]
  | m + 1, h => by
    have ih := mnA_pos (F := F) (arc := arc) (m := m) (fun j hj => h j (by omega))
    have := h m (Nat.lt_succ_self _)
    simp only [mnA]
    omega
theorem fL_push {cap off : Nat → Int} {a : Arc} {x : Int} {F1 : Arc → Int} (h1 : ∀ q, F1 q = if q = a then fL cap off a - x else fL cap off q) (q : Arc) : fL cap (psh off a x) q = if q = (a.1, !a.2) then F1 (a.1, !a.2) + x else F1 q := by
  obtain ⟨i, t⟩ := a
  obtain ⟨j, u⟩ := q
  rw [h1, h1]
  unfold fL psh
  by_cases c : j = i
  · subst c
    cases t <;> cases u <;> simp <;> omega
  · have e1 : ¬ ((j, u) : Arc) = (i, !t) := fun h => c (by cases h; rfl)
    have e2 : ¬ ((j, u) : Arc) = (i, t) := fun h => c (by cases h; rfl)
    rw [if_neg e1, if_neg e2]
    simp [c]
theorem fL_bd {b : BookD} (hv : VBook b) {off : Nat → Int} (h : ∀ i, i < b.cons.length → 0 ≤ off i ∧ off i ≤ numF b i) {a : Arc} (ha : a.1 < b.cons.length) : 0 ≤ fL (numF b) off a ∧ fL (numF b) off a ≤ 100 := by
  have h1 := h a.1 ha
  have h2 : numF b a.1 ≤ 100 := (hv.num a.1 ha).2
  unfold fL
  split <;> omega
def ringT (arc : Nat → Arc) (q : Nat) : Tr := .sl true 2 q (fun j => [.sc (.int .i64 ((arc j).1 : Nat)), .sc (.bool (arc j).2)])
theorem ring_tree (arc : Nat → Arc) (q : Nat) : ∀ k, k < q → (((List.range q).map fun j => arcR (arc j)).getD k []) = ((fun j => [Tr.sc (.int .i64 ((arc j).1 : Nat)), .sc (.bool (arc j).2)]) k).map AV.ofTr := fun k hk => by
  simp [List.getD_eq_getElem?_getD, hk, arcR, AV.ofTr]
attribute [local irreducible] AWP AWL AOp PV LV AWT AWE
theorem gain_p (cp : Bool) (b : BookD) (gw gm : Nat) (off : Nat → Int) (hv : VBook b) (ho : OffF b (numF b) off) :
    ACall Try.prog 95 [.v (ptrV gw)] [workE gw gm b cp, leftM gm (fL (numF b) off)]
      (fun r h' => (r = boolA false ∧ StuckA b off ∧ h' = [workE gw gm b cp, leftM gm (fL (numF b) off)]) ∨ ∃ off', r = boolA true ∧ OffF b (numF b) off' ∧ sumR b.cons.length off + 1 ≤ sumR b.cons.length off' ∧ h' = [workE gw gm b cp, leftM gm (fL (numF b) off')]) := by
  have hh := hv.houses
  have hlen := hv.len
  refine acall_of_awp T0 Try.func95 rfl rfl rfl ?_
  have hst : StuckA b off ↔ StuckA b off := Iff.rfl
  unfold StuckA at hst ⊢
  generalize hL : arcsL (fL (numF b) off) b.cons.length = L at *
  have hends : ∀ a ∈ L, aF b a < b.houses.toNat ∧ aT b a < b.houses.toNat := fun a ha => arc_ends hv (by rw [hL]; exact ha)
  have hidx : ∀ a ∈ L, a.1 < b.cons.length ∧ 0 < fL (numF b) off a := fun a ha => mem_arcs.1 (by rw [hL]; exact ha)
  have hbd : ∀ k, k ≤ 7 → ∀ q, q < 6 → -1000 ≤ (bfR b L k).1 q ∧ (bfR b L k).1 q ≤ 1000 := fun k hk q _ => by
    have h1 := bf_low (b := b) (L := L) k q
    have h2 := bf_neg (b := b) (L := L) k q
    omega
  have hsh : ∀ k g, k ≤ 7 → ACall Try.prog 96 [.v (ptrV gw), .ag (arrI (bfR b L k).1 6), .v (ptrV g)] [workE gw gm b cp, leftM gm (fL (numF b) off), .cl g 233 (arrA (bfR b L k).2 6)] (fun r h' => r = .ag (arrI (bfR b L (k + 1)).1 6) ∧ h' = [workE gw gm b cp, leftM gm (fL (numF b) off), .cl g 233 (arrA (bfR b L (k + 1)).2 6)]) := fun k g hk => by
    have := shorten_p cp b gw gm g (fL (numF b) off) (bfR b L k).1 (bfR b L k).2 hv (hbd k hk)
    rw [hL] at this
    exact this
  repeat (first | refine awp_seq ?_ | refine awp_region_lit rfl ?_ | (show AWL _ _ _ (⟨_, .assign _, _, _, _, _⟩ :: _) _ _ _; refine awl_pw (wt_none rfl) (pv_assign rfl rfl) rfl rfl ?_) | refine awl_nil ?_)
  refine awl_hw (wt_none rfl) (st_alloc T0 rfl rfl rfl rfl (by simp only [Value.cells, List.toList_toArray, List.map_cons, List.map_nil]; rfl) ?_)
  intro g3
  repeat (first | refine awp_seq ?_ | refine awp_region_lit rfl ?_ | refine awl_nil ?_)
  refine awl_hw (wt_none rfl) (st_alloc T0 rfl rfl rfl rfl (by simp only [Value.cells, List.toList_toArray, List.map_cons, List.map_nil]; rfl) ?_)
  intro g4
  repeat (first | refine awp_seq ?_ | refine awp_block ?_ | refine awp_region_lit rfl ?_ | (show AWL _ _ _ (⟨_, .move _, _, _, _, _⟩ :: _) _ _ _; refine awl_pw (wt_none rfl) (pv_move rfl rfl) rfl rfl ?_) | (show AWL _ _ _ (⟨_, .load _ _, _, _, _, _⟩ :: _) _ _ _; refine awl_lw (wt_none rfl) (lv_cl1 T0 rfl rfl rfl (by solve | repeat' constructor) (by first | rfl | assumption)) rfl rfl rfl ?_) | (show AWL _ _ _ (⟨_, .fieldAddr _ _ _, _, _, _, _⟩ :: _) _ _ _; refine awl_pw (wt_none rfl) (pv_fa T0 rfl rfl rfl (by simp; rfl)) rfl rfl ?_) | (show AWL _ _ _ (⟨_, .nilCheck _, _, _, _, _⟩ :: _) _ _ _; refine awl_pw (wt_none rfl) (pv_nilCheck rfl rfl) rfl rfl ?_) | refine awl_nil ?_)
  refine awp_loop (fun m s h => ∃ (k : Nat), (k : Int) ≤ b.houses ∧ m = b.houses.toNat - k ∧ s = [(0, .v (ptrV gw)), (3, .v (ptrV g3)), (4, .v (ptrV g4)), (17, intA b.houses), (18, intA k)] ∧ h = [workE gw gm b cp, leftM gm (fL (numF b) off), .cl g4 235 (arrI (bfR b L k).1 6), .cl g3 233 (arrA (bfR b L k).2 6)]) ?_ ⟨0, by omega, rfl, rfl, rfl⟩ (by first | ((repeat' (first | exact True.intro | refine ⟨rfl, ?_⟩)); all_goals fail) | fail) (by solve | repeat' constructor)
  rintro m s h ⟨k, hk, rfl, rfl, rfl⟩
  by_cases hlt : (k : Int) < b.houses
  · repeat (first | refine awp_seq ?_ | refine awp_block ?_ | refine awp_region_lit rfl ?_ | refine awp_skip ?_ | refine awp_cond_t rfl (by first | rfl | assumption | exact dT (by omega)) ?_ | (show AWL _ _ _ (⟨_, .move _, _, _, _, _⟩ :: _) _ _ _; refine awl_pw (wt_none rfl) (pv_move rfl rfl) rfl rfl ?_) | (show AWL _ _ _ (⟨_, .load _ _, _, _, _, _⟩ :: _) _ _ _; refine awl_lw (wt_none rfl) (lv_cla T0 rfl rfl rfl (by solve | repeat' constructor) rfl) rfl rfl rfl ?_) | (show AWL _ _ _ (⟨_, .binOp .lss _ _ _ _, _, _, _, _⟩ :: _) _ _ _; refine awl_pw (wt_none rfl) (pv_lss rfl rfl rfl) rfl rfl ?_) | refine awl_nil ?_)
    refine awl_hw (wt_none rfl) (st_acall T0 (hsh k g3 (by omega)) rfl rfl rfl rfl (by first | exact callee_lit | exact callee_v | exact callee_fn | assumption) (by solve | repeat' constructor) (by first | rfl | assumption) rfl (by first | ((repeat' (first | exact SubH.refl _ | apply SubH.cons | exact Pick.here | apply Pick.there)); all_goals fail) | fail) (fun _ _ => trivial) ?_)
    rintro r h ⟨rfl, rfl⟩
    simp only [List.cons_append, List.nil_append]
    repeat (first | refine awp_region_lit rfl ?_ | (show AWL _ _ _ (⟨_, .move _, _, _, _, _⟩ :: _) _ _ _; refine awl_pw (wt_none rfl) (pv_move rfl rfl) rfl rfl ?_) | (show AWL _ _ _ (⟨_, .binOp .add _ _ _ _, _, _, _, _⟩ :: _) _ _ _; refine awl_pw (wt_none rfl) (pv_add rfl rfl rfl (by first | assumption | exact wr64 (by omega))) rfl rfl ?_) | (show AWL _ _ _ (⟨_, .store _ _ _, _, _, _, _⟩ :: _) _ _ _; refine awl_hw (wt_none rfl) (st_store T0 rfl rfl rfl rfl rfl (by first | assumption | (simp only [cellsA]; rfl)) rfl rfl rfl (by solve | repeat' constructor) (by solve | repeat' constructor) trivial ?_)) | refine awl_nil ?_)
    refine rnd_n _ _ _ ?_ ⟨k + 1, by omega, rfl, rfl, rfl⟩ (by first | ((repeat' (first | exact True.intro | refine ⟨rfl, ?_⟩)); all_goals fail) | fail) (by solve | repeat' constructor)
    omega
  as_aux_lemma =>
    obtain rfl : k = b.houses.toNat := by omega
    clear hlt hk
    generalize hH : b.houses.toNat = H at *
    have hH6 : H ≤ 6 := by omega
    have step := bf_step (b := b) (L := L) H
    repeat (first | refine awp_seq ?_ | refine awp_region_lit rfl ?_ | refine awp_exit ?_ | refine awp_cond_f rfl (by first | rfl | assumption | exact dF (by omega)) ?_ | (show AWL _ _ _ (⟨_, .move _, _, _, _, _⟩ :: _) _ _ _; refine awl_pw (wt_none rfl) (pv_move rfl rfl) rfl rfl ?_) | (show AWL _ _ _ (⟨_, .load _ _, _, _, _, _⟩ :: _) _ _ _; refine awl_lw (wt_none rfl) (lv_cla T0 rfl rfl rfl (by solve | repeat' constructor) rfl) rfl rfl rfl ?_) | (show AWL _ _ _ (⟨_, .binOp .lss _ _ _ _, _, _, _, _⟩ :: _) _ _ _; refine awl_pw (wt_none rfl) (pv_lss rfl rfl rfl) rfl rfl ?_) | refine awl_nil ?_)
    refine awl_hw (wt_none rfl) (st_acall T0 (hsh H g3 (by omega)) rfl rfl rfl rfl (by first | exact callee_lit | exact callee_v | exact callee_fn | assumption) (by solve | repeat' constructor) (by first | rfl | assumption) rfl (by first | ((repeat' (first | exact SubH.refl _ | apply SubH.cons | exact Pick.here | apply Pick.there)); all_goals fail) | fail) (fun _ _ => trivial) ?_)
    rintro r h ⟨rfl, rfl⟩
    simp only [List.cons_append, List.nil_append]
    skip
    refine awl_hw (wt_none rfl) (st_alloc T0 rfl rfl rfl rfl (by simp only [Value.cells, List.toList_toArray, List.map_cons, List.map_nil]; rfl) ?_)
    intro g5
    repeat (first | refine awp_seq ?_ | refine awp_region_lit rfl ?_ | (show AWL _ _ _ (⟨_, .load _ _, _, _, _, _⟩ :: _) _ _ _; refine awl_lw (wt_none rfl) (lv_cla T0 rfl rfl rfl (by solve | repeat' constructor) rfl) rfl rfl rfl ?_) | (show AWL _ _ _ (⟨_, .store _ _ _, _, _, _, _⟩ :: _) _ _ _; refine awl_hw (wt_none rfl) (st_store T0 rfl rfl rfl rfl rfl (by first | assumption | (simp only [cellsA]; rfl)) rfl rfl rfl (by solve | repeat' constructor) (by solve | repeat' constructor) trivial ?_)) | refine awl_nil ?_)
    refine awl_pw (wt_none rfl) (pv_eql_arr (d := (bfR b L (H + 1)).1) (e := (bfR b L H).1) rfl rfl rfl) rfl rfl ?_
    cases heq : eq6 (bfR b L (H + 1)).1 (bfR b L H).1
    case true =>
      have hall := eq6_iff.1 heq
      repeat (first | refine awp_seq ?_ | refine awp_region_lit rfl ?_ | refine awp_ret ?_ | with_reducible refine then_n ?_ | with_reducible refine then_r ?_ | refine awp_cond_t rfl (by first | rfl | assumption | exact dT (by omega)) ?_ | (show AWL _ _ _ (⟨_, .assign _, _, _, _, _⟩ :: _) _ _ _; refine awl_pw (wt_none rfl) (pv_assign rfl rfl) rfl rfl ?_) | refine awl_nil ?_)
      refine body_r (h' := [workE gw gm b cp, leftM gm (fL (numF b) off)]) (.cons rfl .nil) (by solve | repeat' constructor) (.inl ⟨rfl, fun a ha => ?_, rfl⟩)
      have h1 := step.ok a ha
      rw [hall _ (by have := (hends a ha).2; omega)] at h1
      exact h1
    as_aux_lemma =>
      have hex : ∃ q, q < 6 ∧ (bfR b L (H + 1)).1 q ≠ (bfR b L H).1 q := by
        refine Classical.byContradiction fun hno => ?_
        have : eq6 (bfR b L (H + 1)).1 (bfR b L H).1 = true := eq6_iff.2 fun q hq => Classical.byContradiction fun hne => hno ⟨q, hq, hne⟩
        rw [heq] at this; cases this
      repeat (first | refine awp_seq ?_ | refine awp_block ?_ | refine awp_region_lit rfl ?_ | refine awp_skip ?_ | with_reducible refine then_n ?_ | refine awp_cond_f rfl (by first | rfl | assumption | exact dF (by omega)) ?_ | (show AWL _ _ _ (⟨_, .assign _, _, _, _, _⟩ :: _) _ _ _; refine awl_pw (wt_none rfl) (pv_assign rfl rfl) rfl rfl ?_) | refine awl_nil ?_)
      refine awp_loop (fun m s h => ∃ (j : Nat), j < 6 ∧ m = 6 - j ∧ (∀ q, q < j → (bfR b L (H + 1)).1 q = (bfR b L H).1 q) ∧ s = [(0, .v (ptrV gw)), (3, .v (ptrV g3)), (4, .v (ptrV g4)), (5, .v (ptrV g5)), (6, intA j)] ∧ h = [.cl g5 235 (arrI (bfR b L (H + 1)).1 6), .cl g4 235 (arrI (bfR b L H).1 6), workE gw gm b cp, leftM gm (fL (numF b) off), .cl g3 233 (arrA (bfR b L (H + 1)).2 6)]) ?_ ⟨0, by omega, rfl, (fun q hq => absurd hq (Nat.not_lt_zero _)), rfl, rfl⟩ (by first | ((repeat' (first | exact True.intro | refine ⟨rfl, ?_⟩)); all_goals fail) | fail) (by solve | repeat' constructor)
      rintro m s h ⟨j, hj, rfl, heqs, rfl, rfl⟩
      repeat (first | refine awp_seq ?_)
      refine awp_cut _ (awp_weak (by first | ((repeat' (first | exact True.intro | refine ⟨rfl, ?_⟩)); all_goals fail) | fail) (by solve | repeat' constructor) (gn_11 (g4 := g4) (g5 := g5) (nx := (bfR b L (H + 1)).1) (d := (bfR b L H).1) (u0 := .v (ptrV gw)) (u3 := .v (ptrV g3)) (rest := [workE gw gm b cp, leftM gm (fL (numF b) off), .cl g3 233 (arrA (bfR b L (H + 1)).2 6)]) hj rfl)) ?_
      rintro s h ⟨rfl, rfl⟩
      by_cases hej : (bfR b L (H + 1)).1 j = (bfR b L H).1 j
      · have dj := decide_eq_true hej
        have hj5 : j + 1 < 6 := by
          refine Classical.byContradiction fun hno => ?_
          obtain ⟨q, hq, hne⟩ := hex
          by_cases e : q = j
          · exact hne (e ▸ hej)
          · exact hne (heqs q (by omega))
        repeat (first | refine awp_block ?_ | refine awp_region_lit rfl ?_ | refine awp_skip ?_ | with_reducible refine blk_n ?_ | refine awp_cond_t rfl (by first | rfl | assumption | exact dT (by omega)) ?_ | (show AWL _ _ _ (⟨_, .move _, _, _, _, _⟩ :: _) _ _ _; refine awl_pw (wt_none rfl) (pv_move rfl rfl) rfl rfl ?_) | (show AWL _ _ _ (⟨_, .assign _, _, _, _, _⟩ :: _) _ _ _; refine awl_pw (wt_none rfl) (pv_assign rfl rfl) rfl rfl ?_) | (show AWL _ _ _ (⟨_, .binOp .add _ _ _ _, _, _, _, _⟩ :: _) _ _ _; refine awl_pw (wt_none rfl) (pv_add rfl rfl rfl (by first | assumption | exact wr64 (by omega))) rfl rfl ?_) | refine awl_nil ?_)
        refine rnd_n _ _ _ ?_ ⟨j + 1, hj5, rfl, fun q hq => ?_, rfl, rfl⟩ (by first | ((repeat' (first | exact True.intro | refine ⟨rfl, ?_⟩)); all_goals fail) | fail) (by solve | repeat' constructor)
        · omega
        · by_cases e : q = j
          · rw [e]; exact hej
          · exact heqs q (by omega)
      as_aux_lemma =>
        have dj := decide_eq_false hej
        have hless : (bfR b L (H + 1)).1 j < (bfR b L H).1 j := by have := step.le j; omega
        obtain ⟨hpos, q, hqH, hcyc⟩ := bf_ring hends hless
        have hinv := bf_inv (b := b) (L := L) (H + 1)
        have harc : ∀ t, (bfR b L (H + 1)).2 (itN (fun v => aF b ((bfR b L (H + 1)).2 v)) j t) ∈ L ∧ itN (fun v => aF b ((bfR b L (H + 1)).2 v)) j t < 6 := fun t => by
          obtain ⟨k1, k2, _⟩ := hinv.arc _ (hpos t)
          have := (hends _ k1).2
          rw [k2] at this
          exact ⟨k1, by omega⟩
        clear hex heq heqs hpos hinv dj hless hsh hbd
        generalize hB : (bfR b L (H + 1)).2 = B at *
        generalize hpp : (fun v => aF b (B v)) = p at *
        have hpv : ∀ v, aF b ((B v).1, (B v).2) = p v := fun v => by rw [← hpp]
        repeat (first | refine awp_seq ?_ | refine awp_block ?_ | refine awp_region_lit rfl ?_ | refine awp_exit ?_ | refine awp_cond_f rfl (by first | rfl | assumption | exact dF (by omega)) ?_ | (show AWL _ _ _ (⟨_, .move _, _, _, _, _⟩ :: _) _ _ _; refine awl_pw (wt_none rfl) (pv_move rfl rfl) rfl rfl ?_) | (show AWL _ _ _ (⟨_, .load _ _, _, _, _, _⟩ :: _) _ _ _; refine awl_lw (wt_none rfl) (lv_cl1 T0 rfl rfl rfl (by solve | repeat' constructor) (by first | rfl | assumption)) rfl rfl rfl ?_) | (show AWL _ _ _ (⟨_, .fieldAddr _ _ _, _, _, _, _⟩ :: _) _ _ _; refine awl_pw (wt_none rfl) (pv_fa T0 rfl rfl rfl (by simp; rfl)) rfl rfl ?_) | (show AWL _ _ _ (⟨_, .nilCheck _, _, _, _, _⟩ :: _) _ _ _; refine awl_pw (wt_none rfl) (pv_nilCheck rfl rfl) rfl rfl ?_) | refine awl_nil ?_)
        refine awp_loop (fun m s h => ∃ (k : Nat), (k : Int) ≤ b.houses ∧ m = H - k ∧ s = [(0, .v (ptrV gw)), (3, .v (ptrV g3)), (6, intA (itN p j k : Nat)), (43, intA b.houses), (44, intA k)] ∧ h = [workE gw gm b cp, leftM gm (fL (numF b) off), .cl g3 233 (arrA B 6)]) ?_ ⟨0, by omega, rfl, rfl, rfl⟩ (by first | ((repeat' (first | exact True.intro | refine ⟨rfl, ?_⟩)); all_goals fail) | fail) (by solve | repeat' constructor)
        rintro m s h ⟨k, hk, rfl, rfl, rfl⟩
        by_cases hlt : (k : Int) < b.houses
        · obtain ⟨k1, k2⟩ := harc k
          have hst1 : itN p j (k + 1) = p (itN p j k) := rfl
          rw [← hpv] at hst1
          generalize itN p j k = v at *
          repeat (first | refine awp_seq ?_ | refine awp_block ?_ | refine awp_region_lit rfl ?_ | refine awp_skip ?_ | refine awp_cond_t rfl (by first | rfl | assumption | exact dT (by omega)) ?_ | (show AWL _ _ _ (⟨_, .move _, _, _, _, _⟩ :: _) _ _ _; refine awl_pw (wt_none rfl) (pv_move rfl rfl) rfl rfl ?_) | (show AWL _ _ _ (⟨_, .indexAddr _ _ _, _, _, _, _⟩ :: _) _ _ _; refine awl_pw (wt_none rfl) (pv_ix_arr T0 rfl rfl rfl rfl (by omega) (by simp; rfl)) rfl rfl ?_) | (show AWL _ _ _ (⟨_, .binOp .lss _ _ _ _, _, _, _, _⟩ :: _) _ _ _; refine awl_pw (wt_none rfl) (pv_lss rfl rfl rfl) rfl rfl ?_) | refine awl_nil ?_)
          refine awl_lw (wt_none rfl) (lv_arrA T0 rfl rfl rfl (by solve | repeat' constructor) k2) rfl rfl rfl ?_
          refine awl_hw (wt_none rfl) (st_acall T0 (from_p cp b gw gm (B v).1 (B v).2 hv (hidx _ k1).1) rfl rfl rfl rfl (by first | exact callee_lit | exact callee_v | exact callee_fn | assumption) (by solve | repeat' constructor) (by first | rfl | assumption) rfl (by first | ((repeat' (first | exact SubH.refl _ | apply SubH.cons | exact Pick.here | apply Pick.there)); all_goals fail) | fail) (fun _ _ => trivial) ?_)
          rintro r h ⟨rfl, rfl⟩
          simp only [List.cons_append, List.nil_append]
          repeat (first | refine awp_region_lit rfl ?_ | (show AWL _ _ _ (⟨_, .move _, _, _, _, _⟩ :: _) _ _ _; refine awl_pw (wt_none rfl) (pv_move rfl rfl) rfl rfl ?_) | (show AWL _ _ _ (⟨_, .assign _, _, _, _, _⟩ :: _) _ _ _; refine awl_pw (wt_none rfl) (pv_assign rfl rfl) rfl rfl ?_) | (show AWL _ _ _ (⟨_, .binOp .add _ _ _ _, _, _, _, _⟩ :: _) _ _ _; refine awl_pw (wt_none rfl) (pv_add rfl rfl rfl (by first | assumption | exact wr64 (by omega))) rfl rfl ?_) | refine awl_nil ?_)
          refine rnd_n _ _ _ ?_ ⟨k + 1, by omega, rfl, by rw [hst1], rfl⟩ (by first | ((repeat' (first | exact True.intro | refine ⟨rfl, ?_⟩)); all_goals fail) | fail) (by solve | repeat' constructor)
          omega
        as_aux_lemma =>
          obtain rfl : H = k := by omega
          clear hlt hk
          have hc0 : itN p j H = (fun m => itN p j (H + m)) 0 := rfl
          have hcs : ∀ m, itN p j (H + (m + 1)) = p (itN p j (H + m)) := fun m => rfl
          have harc' : ∀ m, B (itN p j (H + m)) ∈ L ∧ itN p j (H + m) < 6 := fun m => harc (H + m)
          obtain ⟨arc, harcd⟩ : ∃ arc : Nat → Arc, arc = fun m => B (itN p j (H + m)) := ⟨_, rfl⟩
          obtain ⟨c, hcd⟩ : ∃ c : Nat → Nat, c = fun m => itN p j (H + m) := ⟨_, rfl⟩
          rw [← harcd, ← hcd] at hcyc
          have hBc : ∀ m, B (c m) = arc m := fun m => by rw [harcd, hcd]
          have hc6 : ∀ m, c m < 6 := fun m => by rw [hcd]; exact (harc' m).2
          have hmem : ∀ m, arc m ∈ L := fun m => by rw [harcd]; exact (harc' m).1
          have hcp : ∀ m, aF b (arc m) = c (m + 1) := fun m => by
            rw [harcd, hcd]
            show aF b (B (itN p j (H + m))) = p (itN p j (H + m))
            rw [← hpv]
          have hc00 : itN p j H = c 0 := by rw [hcd]; rfl
          rw [hc00]
          have hFa : ∀ m, 0 ≤ fL (numF b) off (arc m) ∧ fL (numF b) off (arc m) ≤ 100 := fun m => fL_bd hv ho.bd (hidx _ (hmem m)).1
          have hF1 : ∀ m, 1 ≤ fL (numF b) off (arc m) := fun m => (hidx _ (hmem m)).2
          clear hc00 hc0 hcs harc' harcd hcd harc hpv hpp
          have hqp := hcyc.pos
          repeat (first | refine awp_seq ?_ | refine awp_block ?_ | refine awp_region_lit rfl ?_ | refine awp_exit ?_ | refine awp_cond_f rfl (by first | rfl | assumption | exact dF (by omega)) ?_ | (show AWL _ _ _ (⟨_, .move _, _, _, _, _⟩ :: _) _ _ _; refine awl_pw (wt_none rfl) (pv_move rfl rfl) rfl rfl ?_) | (show AWL _ _ _ (⟨_, .assign _, _, _, _, _⟩ :: _) _ _ _; refine awl_pw (wt_none rfl) (pv_assign rfl rfl) rfl rfl ?_) | (show AWL _ _ _ (⟨_, .binOp .lss _ _ _ _, _, _, _, _⟩ :: _) _ _ _; refine awl_pw (wt_none rfl) (pv_lss rfl rfl rfl) rfl rfl ?_) | refine awl_nil ?_)
          refine awp_ghost (ghost_nilrow 232 2) ?_
          refine awp_loop (fun k s h => ∃ (m : Nat) (ad : Option Addr) (c' : Nat) (rows : List (List AV)), m < q ∧ k = q - m ∧ rows.length = m ∧ rows = (List.range m).map (fun j => arcR (arc j)) ∧ s = [(0, .v (ptrV gw)), (3, .v (ptrV g3)), (6, intA (c 0 : Nat)), (7, .v (.slice ad m c')), (8, intA (mnA (fL (numF b) off) arc m)), (9, intA (c m : Nat))] ∧ h = [workE gw gm b cp, leftM gm (fL (numF b) off), .rw (.slice ad m c') 232 2 rows, .cl g3 233 (arrA B 6)]) ?_ ⟨0, _, _, _, hqp, rfl, rfl, rfl, rfl, rfl⟩ (by first | ((repeat' (first | exact True.intro | refine ⟨rfl, ?_⟩)); all_goals fail) | fail) (by solve | repeat' constructor)
          rintro k s h ⟨m, ad, c', rows, hm, rfl, hn, hrows, rfl, rfl⟩
          have hcm := hc6 m
          repeat (first | refine awp_seq ?_ | refine awp_block ?_ | refine awp_region_lit rfl ?_ | (show AWL _ _ _ (⟨_, .move _, _, _, _, _⟩ :: _) _ _ _; refine awl_pw (wt_none rfl) (pv_move rfl rfl) rfl rfl ?_) | (show AWL _ _ _ (⟨_, .indexAddr _ _ _, _, _, _, _⟩ :: _) _ _ _; refine awl_pw (wt_none rfl) (pv_ix_arr T0 rfl rfl rfl rfl (by omega) (by simp; rfl)) rfl rfl ?_))
          refine awl_lw (wt_none rfl) (lv_arrA T0 rfl rfl rfl (by solve | repeat' constructor) hcm) rfl rfl rfl ?_
          rw [hBc]
          skip
          refine awl_hw (wt_none rfl) (st_alloc T0 rfl rfl rfl rfl (by simp only [Value.cells, List.toList_toArray, List.map_cons, List.map_nil]; rfl) ?_)
          intro g10
          repeat (first | refine awp_seq ?_ | (show AWL _ _ _ (⟨_, .store _ _ _, _, _, _, _⟩ :: _) _ _ _; refine awl_hw (wt_none rfl) (st_store T0 rfl rfl rfl rfl rfl (by first | assumption | (simp only [cellsA]; rfl)) rfl rfl rfl (by solve | repeat' constructor) (by solve | repeat' constructor) trivial ?_)) | refine awl_nil ?_)
          refine awp_cut _ (awp_weak (by first | ((repeat' (first | exact True.intro | refine ⟨rfl, ?_⟩)); all_goals fail) | fail) (by solve | repeat' constructor) (gn_21 (b := b) (cp := cp) (g10 := g10) (gw := gw) (gm := gm) (m := m) (F := fL (numF b) off) (a := arc m) (x := mnA (fL (numF b) off) arc m) (ad := ad) (c := c') (rows := rows) (u3 := .v (ptrV g3)) (u6 := intA (c 0 : Nat)) (u9 := intA (c m : Nat)) (rest := [.cl g3 233 (arrA B 6)]) hn (by omega) rfl)) ?_
          rintro s h ⟨ad2, c2, rfl, rfl⟩
          repeat (first | refine awp_seq ?_ | refine awp_region_lit rfl ?_ | (show AWL _ _ _ (⟨_, .move _, _, _, _, _⟩ :: _) _ _ _; refine awl_pw (wt_none rfl) (pv_move rfl rfl) rfl rfl ?_) | (show AWL _ _ _ (⟨_, .load _ _, _, _, _, _⟩ :: _) _ _ _; refine awl_lw (wt_none rfl) (lv_cla T0 rfl rfl rfl (by solve | repeat' constructor) rfl) rfl rfl rfl ?_))
          refine awl_hw (wt_none rfl) (st_acall T0 (from_p cp b gw gm (arc m).1 (arc m).2 hv (hidx _ (hmem m)).1) rfl rfl rfl rfl (by first | exact callee_lit | exact callee_v | exact callee_fn | assumption) (by solve | repeat' constructor) (by first | rfl | assumption) rfl (by first | ((repeat' (first | exact SubH.refl _ | apply SubH.cons | exact Pick.here | apply Pick.there)); all_goals fail) | fail) (fun _ _ => trivial) ?_)
          rintro r h ⟨rfl, rfl⟩
          rw [show aF b ((arc m).1, (arc m).2) = c (m + 1) from hcp m]
          simp only [List.cons_append, List.nil_append]
          have hrows2 : rows ++ [arcR (arc m)] = (List.range (m + 1)).map (fun j => arcR (arc j)) := by rw [hrows, List.range_succ, List.map_append]; rfl
          have hlen2 : (rows ++ [arcR (arc m)]).length = m + 1 := by simp; omega
          by_cases hlast : m + 1 = q
          case neg =>
            have dne : decide (((c (m + 1) : Nat) : Int) = ((c 0 : Nat) : Int)) = false := decide_eq_false (fun h => hcyc.ne (m + 1) 0 (by omega) (by omega) (Int.ofNat.inj h).symm)
            repeat (first | refine awp_seq ?_ | refine awp_region_lit rfl ?_ | refine awp_skip ?_ | with_reducible refine then_n ?_ | with_reducible refine blk_n ?_ | refine awp_cond_f rfl (by first | rfl | assumption | exact dF (by omega)) ?_ | (show AWL _ _ _ (⟨_, .move _, _, _, _, _⟩ :: _) _ _ _; refine awl_pw (wt_none rfl) (pv_move rfl rfl) rfl rfl ?_) | (show AWL _ _ _ (⟨_, .assign _, _, _, _, _⟩ :: _) _ _ _; refine awl_pw (wt_none rfl) (pv_assign rfl rfl) rfl rfl ?_) | (show AWL _ _ _ (⟨_, .binOp .eql _ _ _ _, _, _, _, _⟩ :: _) _ _ _; refine awl_pw (wt_none rfl) (pv_eql rfl rfl rfl) rfl rfl ?_) | refine awl_nil ?_)
            refine rnd_n _ _ _ ?_ ⟨m + 1, _, _, _, by omega, rfl, hlen2, hrows2, rfl, rfl⟩ (by first | ((repeat' (first | exact True.intro | refine ⟨rfl, ?_⟩)); all_goals fail) | fail) (by solve | repeat' constructor)
            omega
          as_aux_lemma =>
            have deq : decide (((c (m + 1) : Nat) : Int) = ((c 0 : Nat) : Int)) = true := decide_eq_true (by rw [hlast, hcyc.back])
            have hq7 : q ≤ 1000 := by omega
            have hmn : mnA (fL (numF b) off) arc (m + 1) = min (mnA (fL (numF b) off) arc m) (fL (numF b) off (arc m)) := rfl
            rw [← hmn]
            subst hlast
            have hx1 := mnA_pos (F := fL (numF b) off) (arc := arc) (m := m + 1) (fun j _ => hF1 j)
            have hxle : ∀ j, j < m + 1 → mnA (fL (numF b) off) arc (m + 1) ≤ fL (numF b) off (arc j) := fun j hj => mnA_le hj
            have hx2 := hxle 0 (by omega)
            have hFa0 := hFa 0
            have hcyc2 := hcyc
            rw [← hL] at hcyc2
            obtain ⟨hOff, hSum⟩ := cyc_off hv ho hcyc2 hx1.1 hxle
            generalize hxd : mnA (fL (numF b) off) arc (m + 1) = x at *
            have hdist : ∀ j k, j < m + 1 → k < j → arc k ≠ arc j := fun j k hj hk e => hcyc.ne j k hj hk (by rw [← hcyc.to j hj, ← hcyc.to k (by omega), e])
            have hmid : ∀ k i, k ≤ m + 1 → i < b.cons.length → 0 ≤ pshR off arc x k i ∧ pshR off arc x k i ≤ numF b i := fun k i hk hi => pshR_bd ho.bd (by omega) (fun j k' hj hk' => hdist j k' (by omega) hk') (fun j hj => hxle j (by omega)) i hi
            refine awl_ghost (ghost_freeze (E := 232) (sz := 2) (n := m + 1) (rows := rows ++ [arcR (arc m)]) (d := 7) (fun j => [.sc (.int .i64 ((arc j).1 : Nat)), .sc (.bool (arc j).2)]) (by solve | repeat' constructor) rfl hlen2 (by rw [hrows2]; exact ring_tree arc (m + 1))) ?_
            repeat (first | refine awp_seq ?_ | refine awp_block ?_ | refine awp_region_lit rfl ?_ | refine awp_exit ?_ | with_reducible refine then_n ?_ | refine awp_cond_t rfl (by first | rfl | assumption | exact dT (by omega)) ?_ | (show AWL _ _ _ (⟨_, .move _, _, _, _, _⟩ :: _) _ _ _; refine awl_pw (wt_none rfl) (pv_move rfl rfl) rfl rfl ?_) | (show AWL _ _ _ (⟨_, .assign _, _, _, _, _⟩ :: _) _ _ _; refine awl_pw (wt_none rfl) (pv_assign rfl rfl) rfl rfl ?_) | (show AWL _ _ _ (⟨_, .binOp .eql _ _ _ _, _, _, _, _⟩ :: _) _ _ _; refine awl_pw (wt_none rfl) (pv_eql rfl rfl rfl) rfl rfl ?_) | (show AWL _ _ _ (⟨_, .call ⟨.builtin .len, _, _⟩, _, _, _, _⟩ :: _) _ _ _; refine awl_pw (wt_none rfl) (pv_len_t T0 rfl rfl rfl) rfl rfl ?_) | refine awl_nil ?_)
            refine awp_loop (fun k s h => ∃ (i : Nat), i ≤ m + 1 ∧ k = m + 1 - i ∧ s = [(0, .v (ptrV gw)), (8, intA x), (74, .t (ringT arc (m + 1))), (75, intA (m + 1 : Nat)), (76, intA i)] ∧ h = [workE gw gm b cp, leftM gm (fL (numF b) (pshR off arc x i))]) ?_ ⟨0, Nat.zero_le _, rfl, rfl, rfl⟩ (by first | ((repeat' (first | exact True.intro | refine ⟨rfl, ?_⟩)); all_goals fail) | fail) (by solve | repeat' constructor)
            rintro k s h ⟨i, hi, rfl, rfl, rfl⟩
            by_cases hlt : i < m + 1
            · have hb1 := fL_bd hv (hmid i · (by omega)) (hidx _ (hmem i)).1
              have hb2 : 0 ≤ fL (numF b) (pshR off arc x i) ((arc i).1, !(arc i).2) ∧ fL (numF b) (pshR off arc x i) ((arc i).1, !(arc i).2) ≤ 100 := fL_bd hv (hmid i · (by omega)) (hidx _ (hmem i)).1
              have hpu := fL_push (cap := numF b) (off := pshR off arc x i) (a := arc i) (x := x) (F1 := fun q => if q = arc i then fL (numF b) (pshR off arc x i) (arc i) - x else fL (numF b) (pshR off arc x i) q) (fun q => rfl)
              have hne : ((arc i).1, !(arc i).2) ≠ arc i := fun h => by
                have := congrArg Prod.snd h
                simp at this
              repeat (first | refine awp_seq ?_ | refine awp_block ?_ | refine awp_region_lit rfl ?_ | refine awp_skip ?_ | refine awp_cond_t rfl (by first | rfl | assumption | exact dT (by omega)) ?_ | (show AWL _ _ _ (⟨_, .load _ _, _, _, _, _⟩ :: _) _ _ _; refine awl_lw (wt_none rfl) (lv_elt_ag T0 rfl rfl rfl rfl (by solve | repeat' constructor)) rfl rfl rfl ?_) | (show AWL _ _ _ (⟨_, .indexAddr _ _ _, _, _, _, _⟩ :: _) _ _ _; refine awl_pw (wt_none rfl) (pv_ix_t T0 rfl rfl rfl rfl (by omega) (by first | exact Int.toNat_natCast _ | rfl)) rfl rfl ?_) | (show AWL _ _ _ (⟨_, .binOp .lss _ _ _ _, _, _, _, _⟩ :: _) _ _ _; refine awl_pw (wt_none rfl) (pv_lss rfl rfl rfl) rfl rfl ?_) | refine awl_nil ?_)
              refine awl_hw (wt_none rfl) (st_alloc T0 rfl rfl rfl rfl (by simp only [Value.cells, List.toList_toArray, List.map_cons, List.map_nil]; rfl) ?_)
              intro g12
              repeat (first | refine awp_seq ?_ | (show AWL _ _ _ (⟨_, .store _ _ _, _, _, _, _⟩ :: _) _ _ _; refine awl_hw (wt_none rfl) (st_store T0 rfl rfl rfl rfl rfl (by first | assumption | (simp only [cellsA]; rfl)) rfl rfl rfl (by solve | repeat' constructor) (by solve | repeat' constructor) trivial ?_)) | refine awl_nil ?_)
              refine awp_cut _ (awp_weak (by first | ((repeat' (first | exact True.intro | refine ⟨rfl, ?_⟩)); all_goals fail) | fail) (by solve | repeat' constructor) (gn_27 (b := b) (cp := cp) (g12 := g12) (gw := gw) (gm := gm) (F := fL (numF b) (pshR off arc x i)) (F1 := fun q => if q = arc i then fL (numF b) (pshR off arc x i) (arc i) - x else fL (numF b) (pshR off arc x i) q) (a := arc i) (x := x) (u74 := .t (ringT arc (m + 1))) (u75 := intA (m + 1 : Nat)) (u76 := intA i) (by omega) (by omega) (fun q => rfl) rfl)) ?_
              rintro s h ⟨rfl, rfl⟩
              skip
              refine awp_cutB _ (awp_weak (by first | ((repeat' (first | exact True.intro | refine ⟨rfl, ?_⟩)); all_goals fail) | fail) (by solve | repeat' constructor) (gn_28 (b := b) (cp := cp) (g12 := g12) (gw := gw) (gm := gm) (F := fun q => if q = arc i then fL (numF b) (pshR off arc x i) (arc i) - x else fL (numF b) (pshR off arc x i) q) (F1 := fL (numF b) (pshR off arc x (i + 1))) (a := arc i) (x := x) (u74 := .t (ringT arc (m + 1))) (u75 := intA (m + 1 : Nat)) (u76 := intA i) (by simp only [if_neg hne]; omega) (by omega) hpu rfl)) ?_
              rintro s h ⟨rfl, rfl⟩
              repeat (first | refine awp_region_lit rfl ?_ | (show AWL _ _ _ (⟨_, .move _, _, _, _, _⟩ :: _) _ _ _; refine awl_pw (wt_none rfl) (pv_move rfl rfl) rfl rfl ?_) | (show AWL _ _ _ (⟨_, .binOp .add _ _ _ _, _, _, _, _⟩ :: _) _ _ _; refine awl_pw (wt_none rfl) (pv_add rfl rfl rfl (by first | assumption | exact wr64 (by omega))) rfl rfl ?_) | refine awl_nil ?_)
              refine rnd_n _ _ _ ?_ ⟨i + 1, hlt, rfl, rfl, rfl⟩ (by first | ((repeat' (first | exact True.intro | refine ⟨rfl, ?_⟩)); all_goals fail) | fail) (by solve | repeat' constructor)
              omega
            obtain rfl : i = m + 1 := by omega
            repeat (first | refine awp_seq ?_ | refine awp_region_lit rfl ?_ | refine awp_exit ?_ | refine awp_ret ?_ | refine awp_cond_f rfl (by first | rfl | assumption | exact dF (by omega)) ?_ | (show AWL _ _ _ (⟨_, .assign _, _, _, _, _⟩ :: _) _ _ _; refine awl_pw (wt_none rfl) (pv_assign rfl rfl) rfl rfl ?_) | (show AWL _ _ _ (⟨_, .binOp .lss _ _ _ _, _, _, _, _⟩ :: _) _ _ _; refine awl_pw (wt_none rfl) (pv_lss rfl rfl rfl) rfl rfl ?_) | refine awl_nil ?_)
            exact body_r (h' := [workE gw gm b cp, leftM gm (fL (numF b) (pshR off arc x (m + 1)))]) (.cons rfl .nil) (by solve | repeat' constructor) (.inr ⟨_, rfl, hOff, hSum, rfl⟩)
end Go.Proofs.Ytlpknbneilgjkaa.R
end
section
namespace Go.Proofs.Ytlpknbneilgjkaa.R
open Go Go.RowKit Go.Tl
set_option linter.unusedVariables false
set_option linter.unusedSimpArgs false
set_option maxRecDepth 100000
set_option maxHeartbeats 4000000
attribute [local irreducible] AWP AWL AOp PV LV AWT AWE
theorem off_tot {b : BookD} (hv : VBook b) {off : Nat → Int} (ho : OffF b (numF b) off) : 0 ≤ sumR b.cons.length off ∧ sumR b.cons.length off ≤ 800 := by
  have hlen := hv.len
  have : ∀ k, k ≤ b.cons.length → 0 ≤ sumR k off ∧ sumR k off ≤ 100 * k := fun k => by
    induction k with
    | zero => intro _; simp [sumR, sumI]
    | succ k ih =>
      intro hk
      have h1 := ih (by omega)
      have h2 := ho.bd k (by omega)
      have h3 : numF b k ≤ 100 := (hv.num k (by omega)).2
      rw [sumR_succ]
      omega
  have := this _ (Nat.le_refl _)
  omega
theorem most_p (cp : Bool) (b : BookD) (gw gm : Nat) (off : Nat → Int) (hv : VBook b) (ho : OffF b (numF b) off) :
    ACall Try.prog 56 [.v (ptrV gw)] [workE gw gm b cp, leftM gm (fL (numF b) off)] (fun r h' => ∃ off', OffF b (numF b) off' ∧ StuckA b off' ∧ h' = [workE gw gm b cp, leftM gm (fL (numF b) off')]) := by
  refine acall_of_awp T0 Try.func56 rfl rfl rfl ?_
  repeat (first | refine awp_block ?_)
  refine awp_loop (fun m s h => ∃ off', OffF b (numF b) off' ∧ m = 800 - (sumR b.cons.length off').toNat ∧ s = [(0, .v (ptrV gw))] ∧ h = [workE gw gm b cp, leftM gm (fL (numF b) off')]) ?_ ⟨off, ho, rfl, rfl, rfl⟩ (by first | ((repeat' (first | exact True.intro | refine ⟨rfl, ?_⟩)); all_goals fail) | fail) (by solve | repeat' constructor)
  rintro m s h ⟨off', ho', rfl, rfl, rfl⟩
  have ht := off_tot hv ho'
  repeat (first | refine awp_seq ?_ | refine awp_region_lit rfl ?_ | (show AWL _ _ _ (⟨_, .move _, _, _, _, _⟩ :: _) _ _ _; refine awl_pw (wt_none rfl) (pv_move rfl rfl) rfl rfl ?_))
  refine awl_hw (wt_none rfl) (st_acall T0 (gain_p cp b gw gm off' hv ho') rfl rfl rfl rfl (by first | exact callee_lit | exact callee_v | exact callee_fn | assumption) (by solve | repeat' constructor) (by first | rfl | assumption) rfl (by first | ((repeat' (first | exact SubH.refl _ | apply SubH.cons | exact Pick.here | apply Pick.there)); all_goals fail) | fail) (fun _ _ => trivial) ?_)
  rintro r h (⟨rfl, hst, rfl⟩ | ⟨off2, rfl, ho2, hs2, rfl⟩)
  · simp only [List.cons_append, List.nil_append]
    repeat (first | refine awp_exit ?_ | with_reducible refine then_n ?_ | with_reducible refine then_x ?_ | with_reducible refine blk_x ?_ | refine rnd_x ?_ | refine awp_cond_f rfl (by first | rfl | assumption | exact dF (by omega)) ?_ | refine awl_nil ?_)
    exact body_n .nil (by solve | repeat' constructor) ⟨off', ho', hst, rfl⟩
  · have ht2 := off_tot hv ho2
    simp only [List.cons_append, List.nil_append]
    repeat (first | refine awp_block ?_ | refine awp_skip ?_ | with_reducible refine then_n ?_ | with_reducible refine blk_n ?_ | refine awp_cond_t rfl (by first | rfl | assumption | exact dT (by omega)) ?_ | refine awl_nil ?_)
    refine rnd_n _ _ _ ?_ ⟨off2, ho2, rfl, rfl, rfl⟩ (by first | ((repeat' (first | exact True.intro | refine ⟨rfl, ?_⟩)); all_goals fail) | fail) (by solve | repeat' constructor)
    omega
def hgtL (b : BookD) (off : Nat → Int) : List Int := (List.range b.houses.toNat).map fun v => -((bfR b (arcsL (fL (numF b) off) b.cons.length) b.houses.toNat).1 v)
theorem heights_p (cp : Bool) (b : BookD) (gw gm : Nat) (off : Nat → Int) (hv : VBook b) :
    ACall Try.prog 58 [.v (ptrV gw)] [workE gw gm b cp, leftM gm (fL (numF b) off)] (fun r h' => r = .t (intsT true (hgtL b off)) ∧ h' = [workE gw gm b cp, leftM gm (fL (numF b) off)]) := by
  have hh := hv.houses
  have hlen := hv.len
  refine acall_of_awp T0 Try.func58 rfl rfl rfl ?_
  unfold hgtL
  obtain ⟨H, hH⟩ : ∃ H : Nat, b.houses = H := ⟨b.houses.toNat, by omega⟩
  have hHt : b.houses.toNat = H := by omega
  rw [hHt]
  generalize hL : arcsL (fL (numF b) off) b.cons.length = L at *
  have hbd : ∀ k, k ≤ 7 → ∀ q, q < 6 → -1000 ≤ (bfR b L k).1 q ∧ (bfR b L k).1 q ≤ 1000 := fun k hk q _ => by
    have h1 := bf_low (b := b) (L := L) k q
    have h2 := bf_neg (b := b) (L := L) k q
    omega
  have hsh : ∀ k g, k ≤ 7 → ACall Try.prog 96 [.v (ptrV gw), .ag (arrI (bfR b L k).1 6), .v (ptrV g)] [workE gw gm b cp, leftM gm (fL (numF b) off), .cl g 233 (arrA (bfR b L k).2 6)] (fun r h' => r = .ag (arrI (bfR b L (k + 1)).1 6) ∧ h' = [workE gw gm b cp, leftM gm (fL (numF b) off), .cl g 233 (arrA (bfR b L (k + 1)).2 6)]) := fun k g hk => by
    have := shorten_p cp b gw gm g (fL (numF b) off) (bfR b L k).1 (bfR b L k).2 hv (hbd k hk)
    rw [hL] at this
    exact this
  repeat (first | refine awp_seq ?_ | refine awp_region_lit rfl ?_ | (show AWL _ _ _ (⟨_, .assign _, _, _, _, _⟩ :: _) _ _ _; refine awl_pw (wt_none rfl) (pv_assign rfl rfl) rfl rfl ?_) | refine awl_nil ?_)
  refine awl_hw (wt_none rfl) (st_alloc T0 rfl rfl rfl rfl (by simp only [Value.cells, List.toList_toArray, List.map_cons, List.map_nil]; rfl) ?_)
  intro g3
  repeat (first | refine awp_seq ?_ | refine awp_region_lit rfl ?_ | refine awl_nil ?_)
  refine awl_hw (wt_none rfl) (st_alloc T0 rfl rfl rfl rfl (by simp only [Value.cells, List.toList_toArray, List.map_cons, List.map_nil]; rfl) ?_)
  intro g4
  repeat (first | refine awp_seq ?_ | refine awp_block ?_ | refine awp_region_lit rfl ?_ | (show AWL _ _ _ (⟨_, .move _, _, _, _, _⟩ :: _) _ _ _; refine awl_pw (wt_none rfl) (pv_move rfl rfl) rfl rfl ?_) | (show AWL _ _ _ (⟨_, .load _ _, _, _, _, _⟩ :: _) _ _ _; refine awl_lw (wt_none rfl) (lv_cl1 T0 rfl rfl rfl (by solve | repeat' constructor) (by first | rfl | assumption)) rfl rfl rfl ?_) | (show AWL _ _ _ (⟨_, .fieldAddr _ _ _, _, _, _, _⟩ :: _) _ _ _; refine awl_pw (wt_none rfl) (pv_fa T0 rfl rfl rfl (by simp; rfl)) rfl rfl ?_) | (show AWL _ _ _ (⟨_, .nilCheck _, _, _, _, _⟩ :: _) _ _ _; refine awl_pw (wt_none rfl) (pv_nilCheck rfl rfl) rfl rfl ?_) | refine awl_nil ?_)
  refine awp_loop (fun m s h => ∃ (k : Nat), (k : Int) ≤ b.houses ∧ m = b.houses.toNat - k ∧ s = [(0, .v (ptrV gw)), (3, .v (ptrV g3)), (4, .v (ptrV g4)), (11, intA b.houses), (12, intA k)] ∧ h = [workE gw gm b cp, leftM gm (fL (numF b) off), .cl g4 235 (arrI (bfR b L k).1 6), .cl g3 233 (arrA (bfR b L k).2 6)]) ?_ ⟨0, by omega, rfl, rfl, rfl⟩ (by first | ((repeat' (first | exact True.intro | refine ⟨rfl, ?_⟩)); all_goals fail) | fail) (by solve | repeat' constructor)
  rintro m s h ⟨k, hk, rfl, rfl, rfl⟩
  by_cases hlt : (k : Int) < b.houses
  · repeat (first | refine awp_seq ?_ | refine awp_block ?_ | refine awp_region_lit rfl ?_ | refine awp_skip ?_ | refine awp_cond_t rfl (by first | rfl | assumption | exact dT (by omega)) ?_ | (show AWL _ _ _ (⟨_, .move _, _, _, _, _⟩ :: _) _ _ _; refine awl_pw (wt_none rfl) (pv_move rfl rfl) rfl rfl ?_) | (show AWL _ _ _ (⟨_, .load _ _, _, _, _, _⟩ :: _) _ _ _; refine awl_lw (wt_none rfl) (lv_cla T0 rfl rfl rfl (by solve | repeat' constructor) rfl) rfl rfl rfl ?_) | (show AWL _ _ _ (⟨_, .binOp .lss _ _ _ _, _, _, _, _⟩ :: _) _ _ _; refine awl_pw (wt_none rfl) (pv_lss rfl rfl rfl) rfl rfl ?_) | refine awl_nil ?_)
    refine awl_hw (wt_none rfl) (st_acall T0 (hsh k g3 (by omega)) rfl rfl rfl rfl (by first | exact callee_lit | exact callee_v | exact callee_fn | assumption) (by solve | repeat' constructor) (by first | rfl | assumption) rfl (by first | ((repeat' (first | exact SubH.refl _ | apply SubH.cons | exact Pick.here | apply Pick.there)); all_goals fail) | fail) (fun _ _ => trivial) ?_)
    rintro r h ⟨rfl, rfl⟩
    simp only [List.cons_append, List.nil_append]
    repeat (first | refine awp_region_lit rfl ?_ | (show AWL _ _ _ (⟨_, .move _, _, _, _, _⟩ :: _) _ _ _; refine awl_pw (wt_none rfl) (pv_move rfl rfl) rfl rfl ?_) | (show AWL _ _ _ (⟨_, .binOp .add _ _ _ _, _, _, _, _⟩ :: _) _ _ _; refine awl_pw (wt_none rfl) (pv_add rfl rfl rfl (by first | assumption | exact wr64 (by omega))) rfl rfl ?_) | (show AWL _ _ _ (⟨_, .store _ _ _, _, _, _, _⟩ :: _) _ _ _; refine awl_hw (wt_none rfl) (st_store T0 rfl rfl rfl rfl rfl (by first | assumption | (simp only [cellsA]; rfl)) rfl rfl rfl (by solve | repeat' constructor) (by solve | repeat' constructor) trivial ?_)) | refine awl_nil ?_)
    refine rnd_n _ _ _ ?_ ⟨k + 1, by omega, rfl, rfl, rfl⟩ (by first | ((repeat' (first | exact True.intro | refine ⟨rfl, ?_⟩)); all_goals fail) | fail) (by solve | repeat' constructor)
    omega
  as_aux_lemma =>
    obtain rfl : H = k := by omega
    clear hlt hk
    repeat (first | refine awp_seq ?_ | refine awp_region_lit rfl ?_ | refine awp_exit ?_ | refine awp_cond_f rfl (by first | rfl | assumption | exact dF (by omega)) ?_ | (show AWL _ _ _ (⟨_, .move _, _, _, _, _⟩ :: _) _ _ _; refine awl_pw (wt_none rfl) (pv_move rfl rfl) rfl rfl ?_) | (show AWL _ _ _ (⟨_, .load _ _, _, _, _, _⟩ :: _) _ _ _; refine awl_lw (wt_none rfl) (lv_cl1 T0 rfl rfl rfl (by solve | repeat' constructor) (by first | rfl | assumption)) rfl rfl rfl ?_) | (show AWL _ _ _ (⟨_, .fieldAddr _ _ _, _, _, _, _⟩ :: _) _ _ _; refine awl_pw (wt_none rfl) (pv_fa T0 rfl rfl rfl (by simp; rfl)) rfl rfl ?_) | (show AWL _ _ _ (⟨_, .binOp .lss _ _ _ _, _, _, _, _⟩ :: _) _ _ _; refine awl_pw (wt_none rfl) (pv_lss rfl rfl rfl) rfl rfl ?_) | (show AWL _ _ _ (⟨_, .nilCheck _, _, _, _, _⟩ :: _) _ _ _; refine awl_pw (wt_none rfl) (pv_nilCheck rfl rfl) rfl rfl ?_) | refine awl_nil ?_)
    rw [hH]
    refine awl_hw (wt_none rfl) (aop_make T0 rfl rfl rfl rfl rfl rfl rfl rfl (by omega) rfl ?_)
    intro ga
    repeat (first | refine awp_seq ?_ | refine awp_region_lit rfl ?_ | (show AWL _ _ _ (⟨_, .move _, _, _, _, _⟩ :: _) _ _ _; refine awl_pw (wt_none rfl) (pv_move rfl rfl) rfl rfl ?_) | (show AWL _ _ _ (⟨_, .assign _, _, _, _, _⟩ :: _) _ _ _; refine awl_pw (wt_none rfl) (pv_assign rfl rfl) rfl rfl ?_) | (show AWL _ _ _ (⟨_, .slice _ _ _ _ _, _, _, _, _⟩ :: _) _ _ _; refine awl_pw (wt_none rfl) (pv_slice_arr T0 rfl rfl rfl) rfl rfl ?_) | refine awl_nil ?_)
    refine awl_hw (wt_none rfl) (aop_copy_ca T0 (cs2 := arrI (bfR b L H).1 6) rfl rfl rfl rfl rfl rfl (by solve | repeat' constructor) (by solve | repeat' constructor) (by simp) rfl (by omega) rfl trivial ?_)
    have hz : ((arrI (bfR b L H).1 6).take H).map (fun x => [x]) = fRows (fun i => if i < 0 then -((bfR b L H).1 i) else (bfR b L H).1 i) H := by
      refine List.ext_getElem? fun q => ?_
      simp only [fRows, List.getElem?_map]
      by_cases hq : q < H
      · rw [List.getElem?_take_of_lt hq, arrI_at (by omega), List.getElem?_range hq]
        simp [intRow]
      · rw [List.getElem?_eq_none (by rw [List.length_take]; omega), List.getElem?_eq_none (l := List.range H) (by simp; omega)]
        rfl
    rw [hz]
    repeat (first | refine awp_seq ?_ | refine awp_block ?_ | refine awp_region_lit rfl ?_ | (show AWL _ _ _ (⟨_, .move _, _, _, _, _⟩ :: _) _ _ _; refine awl_pw (wt_none rfl) (pv_move rfl rfl) rfl rfl ?_) | (show AWL _ _ _ (⟨_, .call ⟨.builtin .len, _, _⟩, _, _, _, _⟩ :: _) _ _ _; refine awl_pw (wt_none rfl) (pv_len_v T0 rfl rfl rfl) rfl rfl ?_) | refine awl_nil ?_)
    refine awp_loop (fun m s h => ∃ (k : Nat), k ≤ H ∧ m = H - k ∧ s = [(5, .v (.slice (some ⟨ga, 0, none⟩) H H)), (28, intA H), (29, intA k)] ∧ h = [workE gw gm b cp, leftM gm (fL (numF b) off), .rw (.slice (some ⟨ga, 0, none⟩) H H) 3 1 (fRows (fun i => if i < k then -((bfR b L H).1 i) else (bfR b L H).1 i) H)]) ?_ ⟨0, by omega, rfl, rfl, rfl⟩ (by first | ((repeat' (first | exact True.intro | refine ⟨rfl, ?_⟩)); all_goals fail) | fail) (by solve | repeat' constructor)
    rintro m s h ⟨k, hk, rfl, rfl, rfl⟩
    by_cases hlt : k < H
    · have r1 : ((fRows (fun i => if i < k then -((bfR b L H).1 i) else (bfR b L H).1 i) H).getD k [])[0]? = some (intA ((bfR b L H).1 k)) := by
        have := fRows_at (f := fun i => if i < k then -((bfR b L H).1 i) else (bfR b L H).1 i) hlt
        rw [this]
        simp
      have r2 := fRows_len (fun i => if i < k then -((bfR b L H).1 i) else (bfR b L H).1 i) H
      have hb := hbd H (by omega) k (by omega)
      have hset := fRows_set (f := fun i => if i < k then -((bfR b L H).1 i) else (bfR b L H).1 i) (g := fun i => if i < k + 1 then -((bfR b L H).1 i) else (bfR b L H).1 i) (m := H) (j := k) (v := 0 - (bfR b L H).1 k) hlt (fun q hq => by
        by_cases e : q = k
        · subst e; rw [if_pos (Nat.lt_succ_self _), if_pos rfl]; omega
        · rw [if_neg e]
          by_cases c : q < k
          · rw [if_pos c, if_pos (by omega)]
          · rw [if_neg c, if_neg (by omega)])
      repeat (first | refine awp_seq ?_ | refine awp_block ?_ | refine awp_region_lit rfl ?_ | refine awp_skip ?_ | refine awp_cond_t rfl (by first | rfl | assumption | exact dT (by omega)) ?_ | (show AWL _ _ _ (⟨_, .move _, _, _, _, _⟩ :: _) _ _ _; refine awl_pw (wt_none rfl) (pv_move rfl rfl) rfl rfl ?_) | (show AWL _ _ _ (⟨_, .assign _, _, _, _, _⟩ :: _) _ _ _; refine awl_pw (wt_none rfl) (pv_assign rfl rfl) rfl rfl ?_) | (show AWL _ _ _ (⟨_, .load _ _, _, _, _, _⟩ :: _) _ _ _; refine awl_lw (wt_none rfl) (lv_rp T0 rfl rfl rfl (by solve | repeat' constructor) (by first | omega | (simp; omega)) (by omega) (by first | assumption | rfl)) rfl rfl rfl ?_) | (show AWL _ _ _ (⟨_, .indexAddr _ _ _, _, _, _, _⟩ :: _) _ _ _; refine awl_pw (wt_none rfl) (pv_ix_own T0 rfl rfl rfl rfl (by omega) (by first | exact Int.toNat_natCast _ | rfl)) rfl rfl ?_) | (show AWL _ _ _ (⟨_, .binOp .lss _ _ _ _, _, _, _, _⟩ :: _) _ _ _; refine awl_pw (wt_none rfl) (pv_lss rfl rfl rfl) rfl rfl ?_) | refine awl_nil ?_)
      refine awl_pw (wt_none rfl) (pv_neg rfl rfl (wr64 (by omega))) rfl rfl ?_
      repeat (first | (show AWL _ _ _ (⟨_, .indexAddr _ _ _, _, _, _, _⟩ :: _) _ _ _; refine awl_pw (wt_none rfl) (pv_ix_own T0 rfl rfl rfl rfl (by omega) (by first | exact Int.toNat_natCast _ | rfl)) rfl rfl ?_))
      refine awl_hw (wt_none rfl) (aop_store_rp T0 rfl rfl rfl rfl rfl rfl rfl rfl (by solve | repeat' constructor) (by first | omega | (simp; omega)) (by omega) rfl trivial ?_)
      simp only [cellsA]
      rw [hset]
      repeat (first | refine awp_region_lit rfl ?_ | (show AWL _ _ _ (⟨_, .move _, _, _, _, _⟩ :: _) _ _ _; refine awl_pw (wt_none rfl) (pv_move rfl rfl) rfl rfl ?_) | (show AWL _ _ _ (⟨_, .binOp .add _ _ _ _, _, _, _, _⟩ :: _) _ _ _; refine awl_pw (wt_none rfl) (pv_add rfl rfl rfl (by first | assumption | exact wr64 (by omega))) rfl rfl ?_) | refine awl_nil ?_)
      refine rnd_n _ _ _ ?_ ⟨k + 1, hlt, rfl, rfl, rfl⟩ (by first | ((repeat' (first | exact True.intro | refine ⟨rfl, ?_⟩)); all_goals fail) | fail) (by solve | repeat' constructor)
      omega
    obtain rfl : H = k := by omega
    generalize hX : (List.range H).map (fun v => -((bfR b L H).1 v)) = X
    have hXl : X.length = H := by rw [← hX]; simp
    have hXr : X = (List.range H).map (fun i => if i < H then -((bfR b L H).1 i) else (bfR b L H).1 i) := by
      rw [← hX]; exact List.map_congr_left fun i hi => by rw [if_pos (List.mem_range.1 hi)]
    refine awp_ghost (ghost_freeze (E := 3) (sz := 1) (n := H) (rows := fRows (fun i => if i < H then -((bfR b L H).1 i) else (bfR b L H).1 i) H) (d := 5) (fun q => [.sc (.int .i64 (X.getD q 0))]) (by solve | repeat' constructor) rfl (by rw [fRows_len]) (fRows_tree hXr)) ?_
    have hXt : intsT true X = .sl true 1 H (fun q => [.sc (.int .i64 (X.getD q 0))]) := by unfold intsT; rw [hXl]
    rw [← hXt]
    repeat (first | refine awp_seq ?_ | refine awp_region_lit rfl ?_ | refine awp_exit ?_ | refine awp_ret ?_ | refine awp_cond_f rfl (by first | rfl | assumption | exact dF (by omega)) ?_ | (show AWL _ _ _ (⟨_, .move _, _, _, _, _⟩ :: _) _ _ _; refine awl_pw (wt_none rfl) (pv_move rfl rfl) rfl rfl ?_) | (show AWL _ _ _ (⟨_, .assign _, _, _, _, _⟩ :: _) _ _ _; refine awl_pw (wt_none rfl) (pv_assign rfl rfl) rfl rfl ?_) | (show AWL _ _ _ (⟨_, .binOp .lss _ _ _ _, _, _, _, _⟩ :: _) _ _ _; refine awl_pw (wt_none rfl) (pv_lss rfl rfl rfl) rfl rfl ?_) | refine awl_nil ?_)
    exact body_r (h' := [workE gw gm b cp, leftM gm (fL (numF b) off)]) (.cons rfl .nil) (by solve | repeat' constructor) ⟨rfl, rfl⟩
def isGr (b : BookD) (off hs : List Int) : Prop := ∃ f, OffF b (numF b) f ∧ StuckA b f ∧ off = (List.range b.cons.length).map f ∧ hs = hgtL b f
theorem off_zero {b : BookD} (hv : VBook b) : OffF b (numF b) (fun _ => 0) := ⟨fun i hi => ⟨Int.le_refl _, by have := (hv.num i hi).1; unfold numF; omega⟩, fun h => acc_zero h _⟩
theorem greatest_p (cp : Bool) (b : BookD) (hl : b.cons.length ≤ 1000) : PCall Try.prog 23 [bookA cp b] (fun r => if faultN b = 0 then ∃ off hs, r = .tup [.t (intsT true off), .t (intsT true hs), intA 0] ∧ isGr b off hs else r = .tup [noneA, noneA, intA (faultN b)]) := by
  refine acall_of_awp T0 Try.func23 rfl rfl rfl ?_
  repeat (first | refine awp_seq ?_ | refine awp_region_lit rfl ?_)
  refine awl_hw (wt_none rfl) (st_box rfl rfl (by first | rfl | assumption) (by first | assumption | (simp only [cellsA]; rfl)) rfl rfl ?_)
  intro g1
  repeat (first | refine awp_seq ?_ | refine awp_region_lit rfl ?_ | (show AWL _ _ _ (⟨_, .assign _, _, _, _, _⟩ :: _) _ _ _; refine awl_pw (wt_none rfl) (pv_assign rfl rfl) rfl rfl ?_) | (show AWL _ _ _ (⟨_, .load _ _, _, _, _, _⟩ :: _) _ _ _; refine awl_lw (wt_none rfl) (lv_cla T0 rfl rfl rfl (by solve | repeat' constructor) rfl) rfl rfl rfl ?_) | refine awl_nil ?_)
  refine awl_hw (wt_none rfl) (st_call T0 (check_p cp b hl) rfl rfl rfl rfl (by first | exact callee_lit | exact callee_v | exact callee_fn | assumption) (by solve | repeat' constructor) (by first | rfl | assumption) rfl ?_)
  rintro _ rfl
  by_cases hf : faultN b = 0
  case neg =>
    have d1 : decide (faultN b ≠ 0) = true := decide_eq_true hf
    repeat (first | refine awp_seq ?_ | refine awp_region_lit rfl ?_ | refine awp_ret ?_ | with_reducible refine then_n ?_ | with_reducible refine then_r ?_ | refine awp_cond_t rfl (by first | rfl | assumption | exact dT (by omega)) ?_ | (show AWL _ _ _ (⟨_, .move _, _, _, _, _⟩ :: _) _ _ _; refine awl_pw (wt_none rfl) (pv_move rfl rfl) rfl rfl ?_) | (show AWL _ _ _ (⟨_, .assign _, _, _, _, _⟩ :: _) _ _ _; refine awl_pw (wt_none rfl) (pv_assign rfl rfl) rfl rfl ?_) | (show AWL _ _ _ (⟨_, .binOp .neq _ _ _ _, _, _, _, _⟩ :: _) _ _ _; refine awl_pw (wt_none rfl) (pv_neq rfl rfl rfl) rfl rfl ?_) | refine awl_nil ?_)
    refine body_p (.cons rfl (.cons rfl (.cons rfl .nil))) ?_
    rw [if_neg hf]; rfl
  have hv := vbook hf
  have hlen := hv.len
  simp only [if_pos hf]
  rw [hf]
  repeat (first | refine awp_seq ?_ | refine awp_region_lit rfl ?_ | refine awp_skip ?_ | with_reducible refine then_n ?_ | refine awp_cond_f rfl (by first | rfl | assumption | exact dF (by omega)) ?_ | (show AWL _ _ _ (⟨_, .move _, _, _, _, _⟩ :: _) _ _ _; refine awl_pw (wt_none rfl) (pv_move rfl rfl) rfl rfl ?_) | (show AWL _ _ _ (⟨_, .assign _, _, _, _, _⟩ :: _) _ _ _; refine awl_pw (wt_none rfl) (pv_assign rfl rfl) rfl rfl ?_) | (show AWL _ _ _ (⟨_, .load _ _, _, _, _, _⟩ :: _) _ _ _; refine awl_lw (wt_none rfl) (lv_cla T0 rfl rfl rfl (by solve | repeat' constructor) rfl) rfl rfl rfl ?_) | (show AWL _ _ _ (⟨_, .binOp .neq _ _ _ _, _, _, _, _⟩ :: _) _ _ _; refine awl_pw (wt_none rfl) (pv_neq rfl rfl rfl) rfl rfl ?_) | refine awl_nil ?_)
  refine awl_hw (wt_none rfl) (st_acall T0 (work_p cp b hl) rfl rfl rfl rfl (by first | exact callee_lit | exact callee_v | exact callee_fn | assumption) (by solve | repeat' constructor) (by first | rfl | assumption) rfl (by first | ((repeat' (first | exact SubH.refl _ | apply SubH.cons | exact Pick.here | apply Pick.there)); all_goals fail) | fail) (fun _ _ => trivial) ?_)
  rintro r h ⟨gw, gm, rfl, rfl⟩
  simp only [List.cons_append, List.nil_append]
  repeat (first | refine awp_seq ?_ | refine awp_region_lit rfl ?_ | (show AWL _ _ _ (⟨_, .move _, _, _, _, _⟩ :: _) _ _ _; refine awl_pw (wt_none rfl) (pv_move rfl rfl) rfl rfl ?_) | (show AWL _ _ _ (⟨_, .assign _, _, _, _, _⟩ :: _) _ _ _; refine awl_pw (wt_none rfl) (pv_assign rfl rfl) rfl rfl ?_) | refine awl_nil ?_)
  refine awl_hw (wt_none rfl) (st_acall T0 (most_p cp b gw gm (fun _ => 0) hv (off_zero hv)) rfl rfl rfl rfl (by first | exact callee_lit | exact callee_v | exact callee_fn | assumption) (by solve | repeat' constructor) (by first | rfl | assumption) rfl (by first | ((repeat' (first | exact SubH.refl _ | apply SubH.cons | exact Pick.here | apply Pick.there)); all_goals fail) | fail) (fun _ _ => trivial) ?_)
  rintro r h ⟨f, hof, hst, rfl⟩
  simp only [List.cons_append, List.nil_append]
  repeat (first | refine awp_seq ?_ | refine awp_region_lit rfl ?_ | (show AWL _ _ _ (⟨_, .move _, _, _, _, _⟩ :: _) _ _ _; refine awl_pw (wt_none rfl) (pv_move rfl rfl) rfl rfl ?_) | refine awl_nil ?_)
  refine awl_hw (wt_none rfl) (st_acall T0 (woff_p cp b gw gm (fL (numF b) f) hl) rfl rfl rfl rfl (by first | exact callee_lit | exact callee_v | exact callee_fn | assumption) (by solve | repeat' constructor) (by first | rfl | assumption) rfl (by first | ((repeat' (first | exact SubH.refl _ | apply SubH.cons | exact Pick.here | apply Pick.there)); all_goals fail) | fail) (fun _ _ => trivial) ?_)
  rintro r h ⟨rfl, rfl⟩
  simp only [List.cons_append, List.nil_append]
  repeat (first | (show AWL _ _ _ (⟨_, .move _, _, _, _, _⟩ :: _) _ _ _; refine awl_pw (wt_none rfl) (pv_move rfl rfl) rfl rfl ?_))
  refine awl_hw (wt_none rfl) (st_acall T0 (heights_p cp b gw gm f hv) rfl rfl rfl rfl (by first | exact callee_lit | exact callee_v | exact callee_fn | assumption) (by solve | repeat' constructor) (by first | rfl | assumption) rfl (by first | ((repeat' (first | exact SubH.refl _ | apply SubH.cons | exact Pick.here | apply Pick.there)); all_goals fail) | fail) (fun _ _ => trivial) ?_)
  rintro r h ⟨rfl, rfl⟩
  simp only [List.cons_append, List.nil_append]
  repeat (first | refine awp_ret ?_ | (show AWL _ _ _ (⟨_, .assign _, _, _, _, _⟩ :: _) _ _ _; refine awl_pw (wt_none rfl) (pv_assign rfl rfl) rfl rfl ?_) | refine awl_nil ?_)
  refine body_p (.cons rfl (.cons rfl (.cons rfl .nil))) ?_
  exact ⟨_, _, rfl, f, hof, hst, rfl, rfl⟩
end Go.Proofs.Ytlpknbneilgjkaa.R
end
