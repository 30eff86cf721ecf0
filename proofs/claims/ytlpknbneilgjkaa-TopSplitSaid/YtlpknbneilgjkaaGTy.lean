/- Joined texts: Tlw, Ty, Tz, Tv. -/
import Derived.Test.YtlpknbneilgjkaaGTx
import Derived.Laws.Small
section
section
namespace Go.Tl
open Go Go.RowKit
set_option linter.unusedVariables false
set_option linter.unusedSimpArgs false
section
variable {P : Program} {o : Oper} {s : Slots} {h : List Ent}
section
variable {t t' : TypeId} {x z : Operand} {k : IntKind} {a b c : Int}
theorem pv_leq (ho : o.op = .binOp .leq t x z t') (hx : evA s x = some (.v (.int k a))) (hz : evA s z = some (.v (.int k b))) : PV P o s (.v (.bool (decide (a ≤ b)))) :=
  pv_bin ho hx hz (fun w => by simp [go_sem])
end
theorem pv_min2 {x y : Operand} {t1 t2 : TypeId} {k : IntKind} {a b : Int} (ho : o.op = .call { callee := .builtin .min, args := #[x, y], argTypes := #[t1, t2] }) (hx : evA s x = some (.v (.int k a))) (hy : evA s y = some (.v (.int k b))) :
    PV P o s (.v (.int k (min a b))) := fun w S a' hs =>
  ⟨_, fun w' => by
    have e : (if b < a then b else a) = min a b := by rw [Int.min_def]; split <;> split <;> omega
    simp [execOp, ho, resolve, invoke, builtin, Builtin.min_, Builtin.min2, hs.lit hx, hs.lit hy, e], .v _⟩
end
end Go.Tl
end
section
namespace Go.Proofs.Ytlpknbneilgjkaa
open Go
set_option linter.unusedVariables false
set_option linter.unusedSectionVars false
section
variable {md : Region.Mode} {ops : Array Oper}
section
variable {listed : Array Bool} {L : Nat} (hL : BitsL ops.size listed L) (hlow : Low ops.size L)
include hL hlow
end
end
end Go.Proofs.Ytlpknbneilgjkaa
namespace Go.Tl
open Go Go.RowKit
open Go.Proofs.Ytlpknbneilgjkaa (PT treeN tree_of)
set_option linter.unusedVariables false
end Go.Tl
end
section
namespace Go.Tl
open Go Go.RowKit
open Go.Proofs.Ytlpknbneilgjkaa (PT ptOk treeB kindOf isPre Closed isPre_listed getD_tf)
set_option linter.unusedVariables false
section
variable {P : Program} {ops : Array Oper} {Q : Exit → Act → World → Prop} {ro : Option Nat}
variable {md : Region.Mode} {S : World → Prop}
end
end Go.Tl
namespace Go.Tl
open Go Go.RowKit
set_option linter.unusedVariables false
section
variable {w w' : World} {S S' : Nat → Prop}
end
end Go.Tl
namespace Go.Tl
open Go Go.RowKit
set_option linter.unusedVariables false
section
variable {B : Base} {N : Nat} {w : World} {S : Nat → Prop} {s : Slots} {h : List Ent} {a : Act}
end
section
variable {P : Program}
section
variable (T : TT P)
end
end
end Go.Tl
namespace Go.Tl
open Go Go.RowKit
set_option linter.unusedVariables false
set_option linter.unusedSimpArgs false
section
variable {P : Program} {o : Oper} {s : Slots} {h : List Ent}
section
variable {t t' : TypeId} {x z : Operand} {k : IntKind} {a b c : Int}
end
theorem pv_neg {t : TypeId} {x : Operand} {k : IntKind} {a c : Int} (ho : o.op = .unOp .neg t x) (hx : evA s x = some (.v (.int k a))) (hc : k.wrap (0 - a) = c) : PV P o s (.v (.int k c)) := pv_un ho hx (fun w => by subst hc; simp [Op.unary, go_sem])
theorem pv_makeFunc {g : Fn} {first caps : Array Operand} {fs cs : List Value} (ho : o.op = .makeFunc g first caps) (hf : first.toList.map (evA s) = (fs.map AV.v).map some) (hc : caps.toList.map (evA s) = (cs.map AV.v).map some) :
    PV P o s (.v (.func g fs.toArray cs.toArray)) := fun w S a hs => by
  have h1 := VRels.lits_inv (hs.evals hf)
  have h2 := VRels.lits_inv (hs.evals hc)
  refine ⟨_, fun w' => ?_, .v _⟩
  have e1 : first.map a.eval = fs.toArray := by rw [← h1, ← Array.toList_map]
  have e2 : caps.map a.eval = cs.toArray := by rw [← h2, ← Array.toList_map]
  simp [execOp, ho, Instr.makeFunc, e1, e2]
end
end Go.Tl
namespace Go.Tl
open Go Go.RowKit
set_option linter.unusedVariables false
set_option linter.unusedSimpArgs false
section
variable {P : Program} {N : Nat} {ro : Option Nat} {o : Oper} {md : Nat → Prop} {s : Slots} {h : List Ent} {K : Slots → List Ent → Prop} {Q : Exit → Slots → List Ent → Prop}
theorem wanted_plain {o : Oper} {y : Nat → Option Bool} (hg : o.guard = none) : Region.wanted o y = true := by simp [Region.wanted, hg]
theorem awl_op {ops : Array Oper} {rest : List Oper} (hg : o.guard = none) (H : AOp P N o md s h (AWL P N ops rest Q)) : AWL P N ops (o :: rest) Q s h := fun B w S a hs =>
  wpLX_op (wanted_plain hg) (H B w S a hs _ _ (fun v w' S' s' h' hK hs' _ => hK B w' S' _ hs'))
theorem awl_guard {ops : Array Oper} {rest : List Oper} {g : Nat} {b : Bool} {og : Oper} {t : Nat} (hg : o.guard = some (g, b)) (hog : ops[g]? = some og) (ht : og.dst = some t) (hv : look s t = some (.v (.bool b)))
    (H : AOp P N o md s h (AWL P N ops rest Q)) : AWL P N ops (o :: rest) Q s h := fun B w S a hs => by
  obtain ⟨v, hv1, hv2⟩ := hs.slots t _ hv
  have hw : Region.wanted o (yielded ops a.tmps) = true := by simp [Region.wanted, hg, yielded, hog, ht, hv1, hv2.lit_inv]
  exact wpLX_op hw (H B w S a hs _ _ (fun v w' S' s' h' hK hs' _ => hK B w' S' _ hs'))
theorem awl_skip {ops : Array Oper} {rest : List Oper} {g : Nat} {b c : Bool} {og : Oper} {t d : Nat} (hg : o.guard = some (g, b)) (hog : ops[g]? = some og) (ht : og.dst = some t) (hv : look s t = some (.v (.bool c))) (hc : c = !b)
    (hd : o.dst = some d) (hN : d < N) (H : AWL P N ops rest Q ((d, .v undef) :: s) h) : AWL P N ops (o :: rest) Q s h := fun B w S a hs => by
  obtain ⟨v, hv1, hv2⟩ := hs.slots t _ hv
  have hw : Region.wanted o (yielded ops a.tmps) = false := by subst hc; cases b <;> simp [Region.wanted, hg, yielded, hog, ht, hv1, hv2.lit_inv]
  refine wpLX_skip hw ?_
  rw [hd]
  exact H B w S _ (hs.put (.v _) hN)
theorem awp_nilrow {c : Code} (E sz : Nat) (H : AWP P N ro c Q s (.rw (.slice none 0 0) E sz [] :: h)) : AWP P N ro c Q s h := fun B w S a hs =>
  H B w S a (hs.push .refl ⟨[], ⟨by simp, .inl ⟨rfl, rfl⟩⟩, .nil, by simp⟩ (fun g hg => by simp [Ent.blk, Value.ownBlock] at hg))
theorem awl_nilrow {ops : Array Oper} {l : List Oper} (E sz : Nat) (H : AWL P N ops l Q s (.rw (.slice none 0 0) E sz [] :: h)) : AWL P N ops l Q s h := fun B w S a hs =>
  H B w S a (hs.push .refl ⟨[], ⟨by simp, .inl ⟨rfl, rfl⟩⟩, .nil, by simp⟩ (fun g hg => by simp [Ent.blk, Value.ownBlock] at hg))
end
end Go.Tl
namespace Go.Tl
open Go Go.RowKit
set_option linter.unusedVariables false
set_option linter.unusedSimpArgs false
section
variable {P : Program} {N : Nat} {o : Oper} {md : Nat → Prop} {s : Slots} {h : List Ent} {K : Slots → List Ent → Prop}
end
end Go.Tl
namespace Go.Tl
open Go Go.RowKit
set_option linter.unusedVariables false
set_option linter.unusedSimpArgs false
section
variable {B : Base} {N : Nat} {w : World} {S : Nat → Prop} {s : Slots} {h h1 : List Ent} {a : Act}
end
theorem awl_ghost {P : Program} {N : Nat} {ops : Array Oper} {l : List Oper} {Q : Exit → Slots → List Ent → Prop} {s s' : Slots} {h h' : List Ent} (G : Ghost s h s' h') (H : AWL P N ops l Q s' h') : AWL P N ops l Q s h := fun B w S a hs => by
  obtain ⟨S', hs', _⟩ := G B N w S a hs
  exact H B w S' a hs'
theorem ghost_weak {s s' : Slots} {h h' : List Ent} (h1 : SubS s' s) (h2 : SubH h' h) : Ghost s h s' h' := fun B N w S a hs => ⟨S, hs.weak h1 h2, fun _ h => h⟩
theorem awp_open {P : Program} {N : Nat} {ro : Option Nat} {c : Code} {Q : Exit → Slots → List Ent → Prop} {s : Slots} {h : List Ent} {v : Value} {E sz : Nat} {rows : List (List AV)} (hm : Mem1 (.rw v E sz rows) h)
    (H : ∀ ad cap, v = .slice ad rows.length cap → (0 < rows.length → ∃ g, ad = some ⟨g, 0, none⟩) → AWP P N ro c Q s h) : AWP P N ro c Q s h := fun B w S a hs => by
  obtain ⟨xs, hown, _⟩ := hs.heap.ent _ hm.mem
  rcases hown.2 with ⟨e, h0⟩ | ⟨g, cap, cur, e, _⟩
  · exact H none 0 (by rw [e, h0]) (fun h => by omega) B w S a hs
  · exact H (some ⟨g, 0, none⟩) cap e (fun _ => ⟨g, rfl⟩) B w S a hs
theorem awl_open {P : Program} {N : Nat} {ops : Array Oper} {l : List Oper} {Q : Exit → Slots → List Ent → Prop} {s : Slots} {h : List Ent} {v : Value} {E sz : Nat} {rows : List (List AV)} (hm : Mem1 (.rw v E sz rows) h)
    (H : ∀ ad cap, v = .slice ad rows.length cap → (0 < rows.length → ∃ g, ad = some ⟨g, 0, none⟩) → AWL P N ops l Q s h) : AWL P N ops l Q s h := fun B w S a hs => by
  obtain ⟨xs, hown, _⟩ := hs.heap.ent _ hm.mem
  rcases hown.2 with ⟨e, h0⟩ | ⟨g, cap, cur, e, _⟩
  · exact H none 0 (by rw [e, h0]) (fun h => by omega) B w S a hs
  · exact H (some ⟨g, 0, none⟩) cap e (fun _ => ⟨g, rfl⟩) B w S a hs

section
variable {P : Program} {N : Nat} {o : Oper} {md : Nat → Prop} {s : Slots} {h h1 : List Ent} {K : Slots → List Ent → Prop}
end
end Go.Tl
namespace Go.Tl
open Go Go.RowKit
set_option linter.unusedVariables false
set_option linter.unusedSimpArgs false
section
variable {P : Program} {N : Nat} {o : Oper} {md : Nat → Prop} {s : Slots} {h h1 : List Ent} {K : Slots → List Ent → Prop}
end
end Go.Tl
namespace Go.Tl
open Go Go.RowKit
set_option linter.unusedVariables false
set_option linter.unusedSimpArgs false
section
variable {P : Program} {N : Nat} {o : Oper} {md : Nat → Prop} {s : Slots} {h h1 : List Ent} {K : Slots → List Ent → Prop}
end
end Go.Tl
namespace Go.Tl
open Go Go.RowKit
set_option linter.unusedVariables false
section
variable {P : Program} {N : Nat} {ro : Option Nat} {o : Oper} {s : Slots} {h : List Ent} {Q : Exit → Slots → List Ent → Prop} {ops : Array Oper} {rest : List Oper}
theorem awl_pv {y : AV} {d : Nat} (H : PV P o s y) (hg : o.guard = none) (hd : o.dst = some d) (hN : Nat.blt d N = true) (hK : AWL P N ops rest Q ((d, y) :: s) h) : AWL P N ops (o :: rest) Q s h :=
  awl_op (md := fun _ => True) hg (aop_pv H hd (blt_lt hN) hK)
theorem awl_lv {y y' : AV} {d : Nat} {e : Option Ent} (H : LV P o s h e y) (hy : y = y') (hg : o.guard = none) (hd : o.dst = some d) (hN : Nat.blt d N = true) (hK : AWL P N ops rest Q ((d, y') :: s) h) : AWL P N ops (o :: rest) Q s h := by
  subst hy
  exact awl_op (md := fun _ => True) hg (aop_lv H hd (blt_lt hN) hK)
theorem awl_hv (H : AOp P N o (fun _ => True) s h (AWL P N ops rest Q)) (hg : o.guard = none) : AWL P N ops (o :: rest) Q s h := awl_op hg H

variable {K : Slots → List Ent → Prop} {id i : Nat} {I : Nat → Slots → List Ent → Prop} {n : Nat}
theorem sco_n (H : Q .normal s h) : scopeQ Q .normal s h := H
theorem body_n {T : TT P} {fn : Func} {R : AV → List Ent → Prop} {ys : List AV} {h' : List Ent} (h1 : resL T s h fn.results.toList ys) (h2 : SubH h' h) (h3 : R (resA ys) h') : bodyQ T fn R .normal s h := ⟨s, h, .refl, ys, h1, h', h2, h3⟩
theorem body_pn {T : TT P} {fn : Func} {R : AV → Prop} {ys : List AV} (h1 : resL T s h fn.results.toList ys) (h3 : R (resA ys)) : bodyQ T fn (fun r h' => R r ∧ h' = []) .normal s h := ⟨s, h, .refl, ys, h1, [], .nil, h3, rfl⟩
theorem res_tmp {T : TT P} {t : Nat} {y : AV} {vs : List ResultVar} {ys : List AV} (h1 : look s t = some y) (h2 : resL T s h vs ys) : resL T s h (.tmp t :: vs) (y :: ys) := .cons h1 h2
theorem res_cell {T : TT P} {c t g n : Nat} {T' : TypeId} {cs : List AV} {ag : Bool} {y : AV} {vs : List ResultVar} {ys : List AV} (h1 : look s c = some (.v (.pointer (some ⟨g, 0, none⟩)))) (h2 : f2 T.siz t = some (n, ag)) (h3 : Mem1 (.cl g T' cs) h) (h4 : Nat.ble n cs.length = true) (h5 : (ag || Nat.beq n 1) = true) (h6 : ldA ag n cs = y) (h7 : resL T s h vs ys) :
    resL T s h (.cell c t :: vs) (y :: ys) :=
  .cons ⟨g, T', cs, n, ag, h1, h2, h3, Nat.le_of_ble_eq_true h4, by simp only [Bool.or_eq_true] at h5; exact h5.imp id Nat.eq_of_beq_eq_true, h6⟩ h7
end
section
variable {P : Program} {N : Nat} {o : Oper} {s : Slots} {h : List Ent}
theorem nt_cast {n : Nat} : ((n : Int)).toNat = n := Int.toNat_natCast n
end
end Go.Tl
namespace Go.Tl
open Go Go.RowKit
open Go.Proofs.Ytlpknbneilgjkaa (PT treeB)
set_option linter.unusedVariables false
theorem wt_some {ops : Array Oper} {o : Oper} {s : Slots} {g t : Nat} {b : Bool} {og : Oper} (h : o.guard = some (g, b)) (h1 : ops[g]? = some og) (h2 : og.dst = some t) (h3 : look s t = some (.v (.bool b))) : Wt ops o s := .inr ⟨g, b, og, t, h, h1, h2, h3⟩
section
variable {P : Program} {N : Nat} {ops : Array Oper} {so s : Slots} {ks h : List Ent} {Q : Exit → Slots → List Ent → Prop} {r : PT} {i d : Nat} {o : Oper}
theorem awt_ghost {s' : Slots} {h' : List Ent} (G : Ghost s h s' h') (H : AWT P N ops so ks r Q s' h') : AWT P N ops so ks r Q s h := fun B w0 S0 w S a hs hso hks hl hsz hS hk => by
  obtain ⟨S', hs', hS'⟩ := G B N w S a hs
  exact H B w0 S0 w S' a hs' hso hks hl hsz (fun b hb => hS' b (hS b hb)) hk
end
end Go.Tl
namespace Go.Tl
open Go Go.RowKit
set_option linter.unusedVariables false
section
variable {P : Program} {N : Nat} {o : Oper} {md : Nat → Prop} {s : Slots} {h h1 : List Ent} {K : Slots → List Ent → Prop}
end
end Go.Tl
namespace Go.Tl
open Go Go.RowKit
set_option linter.unusedVariables false
set_option linter.unusedSimpArgs false
section
variable {P : Program} {mt : TypeId} {n : Nat}
variable {N : Nat} {o : Oper} {md : Nat → Prop} {s : Slots} {h : List Ent} {K : Slots → List Ent → Prop}
theorem lv_lookup1 (M : MK P mt n) {m k : Operand} {g : Nat} {ks : List Int} {l : List (List Int × AV)} {y : AV} (ho : o.op = .lookup mt m k false) (hm : evA s m = some (.v (.map (some g)))) (hk : evA s k = some (kA ks)) (hks : ks.length = n) (hmem : Mem1 (mapE g n l) h)
    (hy : (lookL l ks).getD M.zA = y) : LV P o s h (some (mapE g n l)) y := fun w S a hs hh => by
  subst hy
  obtain ⟨es, clock, hg, hr⟩ := hh.ent _ hmem.mem
  have hkv := kA_inv (hs.eval hk)
  rcases findK M hr ks hks with ⟨h1, _, h3⟩ | ⟨i, e, y1, h1, h2, h3, h4, h5, _⟩
  · refine ⟨M.z, g, fun w' hw' => ?_, ?_, .inr ⟨_, rfl, hmem.mem, rfl⟩⟩
    · rw [hg] at hw'
      have hc := fun e w => M.chk e ks w hks
      simp [execOp, ho, hs.lit hm, hkv, Instr.lookup, run_underlying M.hm, MapKept.run_getObj_map hw', hc, h3, M.hz, Result.andThen]
    · rw [h1]; exact M.hzA w S
  · refine ⟨e.val, g, fun w' hw' => ?_, ?_, .inr ⟨_, rfl, hmem.mem, rfl⟩⟩
    · rw [hg] at hw'
      have hc := fun e w => M.chk e ks w hks
      simp [execOp, ho, hs.lit hm, hkv, Instr.lookup, run_underlying M.hm, MapKept.run_getObj_map hw', hc, h5, Result.andThen]
    · rw [h1]; exact h4
end
end Go.Tl
namespace Go.Tl
open Go Go.RowKit
set_option linter.unusedVariables false
set_option linter.unusedSimpArgs false
section
variable {P : Program} {N : Nat} {o : Oper} {s : Slots}
variable {md : Nat → Prop} {h : List Ent} {K : Slots → List Ent → Prop}
end
end Go.Tl
namespace Go.Tl
open Go Go.RowKit
set_option linter.unusedVariables false
section
variable {P : Program} {N : Nat} {ro : Option Nat} {o : Oper} {s : Slots} {h : List Ent} {Q : Exit → Slots → List Ent → Prop} {ops : Array Oper} {rest : List Oper}
variable {mt : TypeId} {n : Nat} {md : Nat → Prop} {K : Slots → List Ent → Prop}
theorem lv_lk1 (M : MK P mt n) {m k : Operand} {g : Nat} {cs : List AV} {ks : List Int} {l : List (List Int × AV)} {y : AV} (ho : o.op = .lookup mt m k false) (hm : evA s m = some (.v (.map (some g)))) (hk : evA s k = some (.ag cs)) (hcs : KAs cs ks) (hks : Nat.beq ks.length n = true) (hmem : Mem1 (mapE g n l) h)
    (hl : (lookL l ks).getD M.zA = y) : LV P o s h (some (mapE g n l)) y := lv_lookup1 M ho hm (by rw [hk, hcs.eq]) (Nat.eq_of_beq_eq_true hks) hmem hl
end
end Go.Tl
namespace Go.Tl
open Go Go.RowKit
theorem own_cl {g : Nat} {T : TypeId} {cs : List AV} : Own [.cl g T cs] g := ⟨_, List.mem_singleton.2 rfl, rfl⟩
theorem own_map {g n : Nat} {l : List (List Int × AV)} : Own [mapE g n l] g := ⟨_, List.mem_singleton.2 rfl, rfl⟩
theorem own_rw1 {g n c E sz : Nat} {rows : List (List AV)} : Own [.rw (.slice (some ⟨g, 0, none⟩) n c) E sz rows] g := ⟨_, List.mem_singleton.2 rfl, rfl⟩
section
variable {P : Program} {N : Nat} {o : Oper} {s : Slots} {h h1 : List Ent} {K : Slots → List Ent → Prop} {mt n : Nat}
theorem st_store_o (T : TT P) {t n g off : Nat} {ag : Bool} {x y : Operand} {u : AV} {T' : TypeId} {cs us cs' : List AV} {h' : List Ent} (ho : o.op = .store t x y) (hx : evA s x = some (.v (.pointer (some ⟨g, off, none⟩)))) (hy : evA s y = some u)
    (ht : f2 T.siz t = some (n, ag)) (hok : okA u = true) (hu : cellsA u = us) (hone : us.all oneA = true) (hn : Nat.beq us.length n = true) (hd : o.dst = none) (hp : Repl h (.cl g T' cs) (.cl g T' cs') h') (hcs : Sp cs off us cs') (hK : K s h') : AOp P N o (Own [.cl g T' cs]) s h K := st_store T ho hx hy ht hok hu hone hn hd hp hcs own_cl hK
theorem st_appt_o (T : TT P) {t d e sz bt m n : Nat} {z v : Value} {x y : Operand} {rows news : List (List AV)} {h1 : List Ent} {cp : Bool} {f : Nat → List Tr} (ho : o.op = .call { callee := .builtin .append, args := #[x, y], argTypes := #[t, t] }) (hd : o.dst = some d) (hN : Nat.blt d N = true)
    (ht : f2 T.elm t = some (e, sz, bt)) (hz : f2 T.zer e = some z) (hzs : z.cells.size = sz) (hbt : Nat.ble bt 1000 = true) (hx : evA s x = some (.v v)) (hy : evA s y = some (.t (.sl cp sz m f)))
    (hp : Pick h (.rw v e sz rows) h1) (hone : ∀ k, k < m → ∀ u ∈ f k, oneA (AV.ofTr u) = true) (hrl : rows.length = n) (hb : n + m ≤ 1000000) (hnews : ((List.range m).map fun k => (f k).map AV.ofTr) = news)
    (hK : ∀ ad cap, (0 < m → ∃ g, ad = some ⟨g, 0, none⟩) → K ((d, .v (.slice ad (n + m) cap)) :: s) (.rw (.slice ad (n + m) cap) e sz (rows ++ news) :: h1)) : AOp P N o (Own [.rw v e sz rows]) s h K := st_appt T ho hd hN ht hz hzs hbt hx hy hp hone hrl hb own_rw hnews hK
theorem st_mupd_o (M : MK P mt n) {m k x : Operand} {g : Nat} {cs : List AV} {ks : List Int} {y : AV} {l l' : List (List Int × AV)} {h' : List Ent} (ho : o.op = .mapUpdate mt m k x) (hm : evA s m = some (.v (.map (some g)))) (hk : evA s k = some (.ag cs)) (hcs : KAs cs ks) (hks : Nat.beq ks.length n = true) (hx : evA s x = some y) (hd : o.dst = none)
    (hp : Repl h (mapE g n l) (mapE g n l') h') (hl : updL l ks y = l') (hK : K s h') : AOp P N o (Own [mapE g n l]) s h K := st_mupd M ho hm hk hcs hks hx hd hp hl own_map hK
theorem st_copy_o (T : TT P) {t t' d e bt n m c g : Nat} {x y : Operand} {cp : Bool} {f : Nat → List Tr} {T' : TypeId} {cs cs' : List AV} {h' : List Ent} (hcs : spA cs 0 (((List.range (min m n)).map fun k => (f k).map AV.ofTr).flatten) = cs') (ho : o.op = .call { callee := .builtin .copy, args := #[x, y], argTypes := #[t, t'] }) (hd : o.dst = some d) (hN : Nat.blt d N = true) (ht : f2 T.elm t = some (e, 1, bt))
    (hx : evA s x = some (.v (.slice (some ⟨g, 0, none⟩) n c))) (hy : evA s y = some (.t (.sl cp 1 m f))) (hp : Repl h (.cl g T' cs) (.cl g T' cs') h') (hn : Nat.beq cs.length n = true) (hone : ∀ k, k < m → ∀ u ∈ f k, oneA (AV.ofTr u) = true)
    (hK : K ((d, intA ((min m n : Nat) : Int)) :: s) h') : AOp P N o (Own [.cl g T' cs]) s h K := st_copy T hcs ho hd hN ht hx hy hp hn hone own_cl hK
theorem aop_store_rp_o (T : TT P) {t n g off k len c E sz : Nat} {ag : Bool} {x y : Operand} {u : AV} {rows rows' : List (List AV)} {h' : List Ent} (ho : o.op = .store t x y) (hx : evA s x = some (.rp (.slice (some ⟨g, 0, none⟩) len c) sz k off)) (hy : evA s y = some u)
    (ht : f2 T.siz t = some (n, ag)) (hok : okA u = true) (hone : (cellsA u).all oneA = true) (hn : (cellsA u).length = n) (hd : o.dst = none) (hp : Repl h (.rw (.slice (some ⟨g, 0, none⟩) len c) E sz rows) (.rw (.slice (some ⟨g, 0, none⟩) len c) E sz rows') h')
    (hkl : k < rows.length) (hl : off + n ≤ sz) (hcs : rows.set k (spA (rows.getD k []) off (cellsA u)) = rows') (hK : K s h') : AOp P N o (Own [.rw (.slice (some ⟨g, 0, none⟩) len c) E sz rows]) s h K := aop_store_rp T ho hx hy ht hok hone hn hd hp hkl hl hcs own_rw1 hK
end
end Go.Tl
namespace Go.Tl
open Go Go.RowKit
set_option linter.unusedVariables false
set_option linter.unusedSimpArgs false
theorem lits_same {w : World} {S : Nat → Prop} {us : List AV} (h : us.all litA = true) : ∀ {vs vs' : List Value}, VRels w S us vs → VRels w S us vs' → vs = vs' := by
  induction us with
  | nil => intro vs vs' h1 h2; rw [List.length_eq_zero_iff.1 h1.1.symm, List.length_eq_zero_iff.1 h2.1.symm]
  | cons u us ih =>
    intro vs vs' h1 h2
    simp only [List.all_cons, Bool.and_eq_true] at h
    cases vs with
    | nil => have := h1.1; simp at this
    | cons v vs => cases vs' with
      | nil => have := h2.1; simp at this
      | cons v' vs' =>
        have a1 := h1.2 0 u v rfl rfl
        have a2 := h2.2 0 u v' rfl rfl
        have t1 : VRels w S us vs := ⟨by have := h1.1; simpa using this, fun j a b ha hb => h1.2 (j + 1) a b (by simpa using ha) (by simpa using hb)⟩
        have t2 : VRels w S us vs' := ⟨by have := h2.1; simpa using this, fun j a b ha hb => h2.2 (j + 1) a b (by simpa using ha) (by simpa using hb)⟩
        cases u with
        | v x => rw [a1.lit_inv, a2.lit_inv, ih h.2 t1 t2]
        | _ => simp [litA] at h
section
variable {P : Program} {N : Nat} {o : Oper} {md : Nat → Prop} {s : Slots} {h : List Ent} {K : Slots → List Ent → Prop}
theorem st_same (T : TT P) {t n g : Nat} {ag : Bool} {x y : Operand} {u : AV} {T' : TypeId} {us : List AV} (ho : o.op = .store t x y) (hx : evA s x = some (.v (.pointer (some ⟨g, 0, none⟩)))) (hy : evA s y = some u)
    (ht : f2 T.siz t = some (n, ag)) (hok : okA u = true) (hu : cellsA u = us) (hone : us.all oneA = true) (hn : Nat.beq us.length n = true) (hd : o.dst = none) (hm : Mem1 (.cl g T' us) h) (hlit : us.all litA = true)
    (hK : K s h) : AOp P N o md s h K := fun B w S a hs Kr Qr hk => by
  subst hu
  have hn := Nat.eq_of_beq_eq_true hn
  obtain ⟨j, d, hj, hjn, hne, hu, hd'⟩ := T.siz_at ht
  have hv := hs.slots.eval hy
  have hxl := hs.slots.lit hx
  generalize hev : a.eval y = v at *
  obtain ⟨vs, hvs, hr⟩ := hs.heap.ent _ hm.mem
  have hc := cellsA_rel hv hok
  have hcl : v.cells.toList.length = n := by rw [← hc.1]; exact hn
  have hones := ones_rel hc (by simpa [List.all_eq_true] using hone)
  have hsame : vs = v.cells.toList := lits_same hlit hr hc
  have hst := run_storeCells_at P g 0 T' v.cells.toList 0 vs.toArray w hvs (by simp [hsame]) hones
  simp only [Nat.add_zero] at hst
  have hnew : (List.take 0 vs ++ v.cells.toList ++ List.drop (0 + v.cells.toList.length) vs).toArray = vs.toArray := by
    rw [hsame]
    simp only [List.take_zero, Nat.zero_add, List.drop_length, List.nil_append, List.append_nil]
  rw [hnew, setRow_self w g _ _ _ hvs] at hst
  have hrun : (execOp a.eval o).run P w = .ok .skip w := by
    have hsz : v.cells.size = j.size := by rw [hjn, ← hcl]; simp
    simp [execOp, ho, hxl, hev, Instr.storeAt, Instr.sureAddr, storeVar, run_sizeOf' hj, hsz]
    rw [hst]
    simp [hsz]
  unfold wpX
  rw [hd] at hk
  rw [hrun, Oper.uponIn_skip, hd]
  exact hk _ _ S _ _ hK hs.putNone .refl
end
end Go.Tl
end
section
namespace Go.Tl
open Go Go.RowKit
end Go.Tl
namespace Go.Tl
open Go Go.RowKit
end Go.Tl
end
end
section
namespace Go.Tl
open Go Go.RowKit
open Go.Proofs.Ytlpknbneilgjkaa (PT)
set_option linter.unusedVariables false
def Wu (ops : Array Oper) (o : Oper) (s : Slots) : Prop := ∃ g b og t, o.guard = some (g, b) ∧ ops[g]? = some og ∧ og.dst = some t ∧ look s t = some (.v undef)
theorem wu_some {ops : Array Oper} {o : Oper} {s : Slots} {g t : Nat} {b : Bool} {og : Oper} (h : o.guard = some (g, b)) (h1 : ops[g]? = some og) (h2 : og.dst = some t) (h3 : look s t = some (.v undef)) : Wu ops o s := ⟨g, b, og, t, h, h1, h2, h3⟩
theorem Wu.unwanted {ops : Array Oper} {o : Oper} {s : Slots} {w : World} {S : Nat → Prop} {a : Act} (h : Wu ops o s) (hs : SRel w S s a.tmps) : Region.wanted o (yielded ops a.tmps) = false := by
  obtain ⟨g, b, og, t, h, h1, h2, h3⟩ := h
  obtain ⟨v, hv1, hv2⟩ := hs t _ h3
  simp [Region.wanted, h, yielded, h1, h2, hv1, hv2.lit_inv, undef]
section
variable {P : Program} {N : Nat} {ops : Array Oper} {o : Oper} {rest : List Oper} {so s : Slots} {ks h : List Ent} {Q : Exit → Slots → List Ent → Prop} {r : PT} {i d : Nat}
theorem awl_sku (hw : Wu ops o s) (hd : o.dst = some d) (hN : Nat.blt d N = true) (hK : AWL P N ops rest Q ((d, .v undef) :: s) h) : AWL P N ops (o :: rest) Q s h := fun B w S a hs => by
  refine wpLX_skip (hw.unwanted hs.slots) ?_
  rw [hd]
  exact hK B w S _ (hs.put (.v _) (blt_lt hN))
theorem awt_sk0u (ho : ops[i]? = some o) (hw : Wu ops o s) (hd : o.dst = some d) (hN : Nat.blt d N = true) (hn : look so d = none) (K : AWT P N ops so ks r Q ((d, .v undef) :: s) h) : AWT P N ops so ks (.op i 0 r) Q s h := fun B w0 S0 w S a hs hso hks hl hsz hS hk => by
  refine ⟨o, undef, ho, .inr ⟨hw.unwanted hs.slots, rfl⟩, ?_⟩
  rw [hd]
  exact K B w0 S0 w S _ (hs.put (.v _) (blt_lt hN)) (hso.put0 (fun d' e => by cases e; exact hn)) hks hl hsz hS hk
theorem awt_sk1u (ho : ops[i]? = some o) (hw : Wu ops o s) (hd : o.dst = some d) (hN : Nat.blt d N = true) (hn : look so d = none) (K : AWT P N ops so ks r Q ((d, .v undef) :: s) h) : AWT P N ops so ks (.op i 1 r) Q s h := fun B w0 S0 w S a hs hso hks hl hsz hS hk => by
  refine ⟨o, undef, ho, .inr ⟨hw.unwanted hs.slots, rfl⟩, ?_⟩
  rw [hd]
  exact K B w0 S0 w S _ (hs.put (.v _) (blt_lt hN)) (hso.put0 (fun d' e => by cases e; exact hn)) hks hl hsz hS hk
theorem awe_sku (ho : ops[i]? = some o) (hw : Wu ops o s) (hd : o.dst = some d) (hN : Nat.blt d N = true) (K : AWE P N ops r Q ((d, .v undef) :: s) h) : AWE P N ops (.op i 0 r) Q s h := fun B SS w S a hs => by
  refine ⟨o, undef, ho, .inr ⟨hw.unwanted hs.slots, rfl⟩, ?_⟩
  rw [hd]
  exact K B SS w S _ (hs.put (.v _) (blt_lt hN))
end
end Go.Tl
end
section
namespace Go.Tl
open Go Go.RowKit
set_option linter.unusedVariables false
theorem pv_neqb {P : Program} {o : Oper} {s : Slots} {t t' : TypeId} {x z : Operand} {a b : Bool} (ho : o.op = .binOp .neq t x z t') (hx : evA s x = some (.v (.bool a))) (hz : evA s z = some (.v (.bool b))) (hu : P.underlying t = some .bool) : PV P o s (.v (.bool (a != b))) :=
  pv_bin ho hx hz (fun w => by
    have h := run_equal_bool (P := P) (w := w) t a b hu
    simp [eqGuard, binOp, h, bne])
open Go.Proofs.Ytlpknbneilgjkaa (PT)
theorem awe_sk3 {P : Program} {N : Nat} {ops : Array Oper} {o : Oper} {s : Slots} {h : List Ent} {Q : Exit → Slots → List Ent → Prop} {r : PT} {i d : Nat} (ho : ops[i]? = some o) (hw : Wf ops o s) (hd : o.dst = some d) (hN : Nat.blt d N = true) (K : AWE P N ops r Q ((d, .v undef) :: s) h) : AWE P N ops (.op i 3 r) Q s h := fun B SS w S a hs => by
  refine wpOX_of_if ho ?_
  rw [if_neg (by rw [hw.unwanted hs.slots]; simp), hd]
  exact K B SS w S _ (hs.put (.v _) (blt_lt hN))
end Go.Tl
end
section
namespace Go.Tl
open Go Go.RowKit
set_option linter.unusedVariables false
set_option linter.unusedSimpArgs false
theorem lv_rpa {P : Program} {o : Oper} {s : Slots} {h : List Ent} (T : TT P) {t sz k g n c E : Nat} {x : Operand} {rows : List (List AV)} {ys : List AV} (ho : o.op = .load t x) (hx : evA s x = some (.rp (.slice (some ⟨g, 0, none⟩) n c) sz k 0)) (ht : f2 T.siz t = some (sz, true))
    (hm : Mem1 (.rw (.slice (some ⟨g, 0, none⟩) n c) E sz rows) h) (hk : k < rows.length) (hy : rows.getD k [] = ys) : LV P o s h (some (.rw (.slice (some ⟨g, 0, none⟩) n c) E sz rows)) (.ag ys) := fun w S a hs hh => by
  obtain ⟨xs, hown, hr, hl⟩ := hh.ent _ hm.mem
  have hxe := hs.eval hx
  generalize hev : a.eval x = v at *
  have hlen : ys.length = sz := by
    rw [← hy]
    refine hl _ ?_
    rw [List.getD_eq_getElem?_getD, List.getElem?_eq_getElem hk]
    exact List.getElem_mem hk
  have hxl : k * sz + sz ≤ xs.length := by
    have h1 : xs.length = rows.length * sz := hown.1
    have h2 : (k + 1) * sz ≤ rows.length * sz := Nat.mul_le_mul_right _ hk
    rw [Nat.add_mul, Nat.one_mul] at h2
    omega
  have hvs : VRels w S ys ((xs.drop (k * sz)).take sz) := by
    refine ⟨by simp; omega, fun j u v hu hv => ?_⟩
    have hj : j < sz := by
      rcases Nat.lt_or_ge j sz with h | h
      · exact h
      · rw [List.getElem?_eq_none (by omega)] at hu; cases hu
    rw [List.getElem?_take, if_pos hj, List.getElem?_drop] at hv
    exact hr.2 (k * sz + j) u v ((flat_get hl k j hk hj).trans (by rw [hy]; exact hu)) hv
  cases hxe with
  | rp =>
    refine ⟨.agg ((xs.drop (k * sz)).take sz).toArray, g, fun w' hw' => ?_, .ag hvs.1 hvs.2, .inr ⟨_, rfl, hm.mem, rfl⟩⟩
    have e : ((⟨g, 0, none⟩ : Addr).add (k * sz + 0)) = ⟨g, k * sz, none⟩ := by rw [Addr.add_lit]; simp
    have := run_loadVar' T ht (w := w') (b := g) (o := k * sz) (vs := (xs.drop (k * sz)).take sz) (by simp; omega) (fun e => by cases e) (fun j u hj => by
      rw [List.getElem?_take] at hj
      split at hj
      · rw [List.getElem?_drop] at hj
        have hcell := @World.ownsRow.cells _ _ _ _ _ _ _ hown g rfl _ _ hj
        rw [cell_of_block hw']
        have e2 : ((⟨g, 0, none⟩ : Addr).add (k * sz + j)) = ⟨g, k * sz + j, none⟩ := by rw [Addr.add_lit]; simp
        rw [e2] at hcell
        exact hcell
      · cases hj)
    simp [execOp, ho, hev, Instr.loadAt, Instr.sureAddr, this]
end Go.Tl
end
