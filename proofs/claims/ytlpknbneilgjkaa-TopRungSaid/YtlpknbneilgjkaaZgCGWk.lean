/- Joined texts: Wk, Wl, Wm, Wn. -/
import Derived.Test.YtlpknbneilgjkaaZgCMsp
section
namespace Go.Proofs.Ytlpknbneilgjkaa.C
open Go Go.RowKit Go.Tl
set_option linter.unusedVariables false
set_option linter.unusedSimpArgs false
set_option maxRecDepth 100000
set_option maxHeartbeats 4000000
def wkC (cp cc : Bool) (m : MktD) (d : Nat → Int) (fn gm : Nat) : List AV := intA m.ex :: .t (housT cp m.hou) :: .t (consT cc m.con) :: (arrI d 6 ++ [.v (.func (.func fn) #[] #[]), .v (.map (some gm))])
theorem wkC_at {cp cc : Bool} {m : MktD} {d : Nat → Int} {fn gm k : Nat} (h : k < 6) : (wkC cp cc m d fn gm)[3 + k]? = some (intA (d k)) := by
  unfold wkC
  rw [Nat.add_comm, List.getElem?_cons_succ, List.getElem?_cons_succ, List.getElem?_cons_succ, List.getElem?_append_left (by rw [arrI_len]; exact h)]
  exact arrI_at h
attribute [local irreducible] AWP AWL AOp PV LV AWT AWE
section
variable {g2 g3 fn : Nat} {cp cc : Bool} {m : MktD}
theorem wk_1 (hv : VMkt m) {ops : Array Oper} (h : regF Try.f198 1 = some ops) :
    AWP Try.prog Try.f198.ntmps none (.region 1 ops true) (cutQ (fun s h => ∃ gw gm, s = [(4, .v (ptrV gw))] ∧ h = [.cl gw 328 (wkC cp cc m (owedN m) fn gm), mapG spV gm []]))
      [(2, .v (ptrV g2)), (3, .v (ptrV g3))] [.cl g2 191 [intA m.ex, .t (housT cp m.hou), .t (consT cc m.con)], .cl g3 315 [.v (.func (.func fn) #[] #[])]] := by
  cases h
  refine awp_tree T0 [(0, 1), (1, 1), (3, 1), (2, 2), (4, 2), (5, 0), (6, 3), (7, 0)] (.op 0 1 (.op 1 1 (.op 3 1 (.fork 2 (.op 4 2 (.op 5 0 (.op 6 3 (.op 7 0 .stop)))) 4 (.op 2 2 (.op 5 0 (.op 6 3 (.op 7 0 .stop)))))))) [.cl g2 _ _, .cl g3 _ _] rfl (by kernel_rfl) rcA ?_
  refine awt_lo rfl (wt_none rfl) (lv_cla T0 rfl rfl rfl rcA rfl) rfl rfl rfl ?_
  refine awt_lo rfl (wt_none rfl) (lv_cla T0 rfl rfl rfl rcA rfl) rfl rfl rfl ?_
  refine awt_lo rfl (wt_none rfl) (lv_cla T0 rfl rfl rfl rcA rfl) rfl rfl rfl ?_
  refine awt_fork ?_ ?_
  · skip
    refine awt_h (hm := []) rfl (wt_none rfl) rcA rfl (st_call T0 (owed_p cp cc m hv) rfl rfl rfl rfl (by first | exact callee_lit | exact callee_v | exact callee_fn | assumption) rcA raA rfl ?_)
    rintro _ rfl
    refine awt_h (hm := []) rfl (wt_none rfl) rcA rfl (aop_makeMapG spV rfl rfl rfl fun gm => ?_)
    refine awt_n1 rfl (wt_none rfl) (pv_build T0 rfl rfl rfl scA (by first | ((repeat' (first | exact BParts.nil | apply BParts.cons | rfl)); all_goals fail) | fail) (by first | ((repeat' (first | exact FillA.nil | exact Sp.done | apply FillA.cons | apply Sp.put | apply Sp.skip | (simp only [cellsA]; rfl) | rfl)); all_goals fail) | fail)) rfl rfl rfl ?_
    refine awt_s (md := fun _ => True) rfl (wt_none rfl) (st_box rfl rfl raA (by first | assumption | (simp only [cellsA]; rfl)) rfl rfl ?_)
    intro g11
    refine awe_p rfl (wt_none rfl) (pv_assign rfl rfl) rfl rfl ?_
    refine awe_end ?_
    exact cut_n ⟨_, _, rfl, rfl⟩ ssA rcA
  · skip
    refine awt_h (hm := []) rfl (wt_none rfl) rcA rfl (aop_makeMapG spV rfl rfl rfl fun gm => ?_)
    refine awt_h (hm := []) rfl (wt_none rfl) rcA rfl (st_call T0 (owed_p cp cc m hv) rfl rfl rfl rfl (by first | exact callee_lit | exact callee_v | exact callee_fn | assumption) rcA raA rfl ?_)
    rintro _ rfl
    refine awt_n1 rfl (wt_none rfl) (pv_build T0 rfl rfl rfl scA (by first | ((repeat' (first | exact BParts.nil | apply BParts.cons | rfl)); all_goals fail) | fail) (by first | ((repeat' (first | exact FillA.nil | exact Sp.done | apply FillA.cons | apply Sp.put | apply Sp.skip | (simp only [cellsA]; rfl) | rfl)); all_goals fail) | fail)) rfl rfl rfl ?_
    refine awt_s (md := fun _ => True) rfl (wt_none rfl) (st_box rfl rfl raA (by first | assumption | (simp only [cellsA]; rfl)) rfl rfl ?_)
    intro g11
    refine awe_p rfl (wt_none rfl) (pv_assign rfl rfl) rfl rfl ?_
    refine awe_end ?_
    exact cut_n ⟨_, _, rfl, rfl⟩ ssA rcA
end
theorem work_o (cp cc : Bool) (m : MktD) (fn : Nat) (hv : VMkt m) : ACall Try.prog 198 [mktA cp cc m, .ag [.v (.func (.func fn) #[] #[])]] [] (fun r h' => ∃ gw gm, r = .v (ptrV gw) ∧ h' = [.cl gw 328 (wkC cp cc m (owedN m) fn gm), mapG spV gm []]) := by
  refine acall_of_awp T0 Try.func198 rfl rfl rfl ?_
  repeat (first | refine awp_seq ?_ | refine awp_region_lit rfl ?_)
  refine awl_hw (wt_none rfl) (st_box rfl rfl raA (by first | assumption | (simp only [cellsA]; rfl)) rfl rfl ?_)
  intro g2
  skip
  refine awl_hw (wt_none rfl) (st_box rfl rfl raA (by first | assumption | (simp only [cellsA]; rfl)) rfl rfl ?_)
  intro g3
  repeat (first | refine awp_seq ?_ | (show AWL _ _ _ (⟨_, .assign _, _, _, _, _⟩ :: _) _ _ _; refine awl_pw (wt_none rfl) (pv_assign rfl rfl) rfl rfl ?_) | refine awl_nil ?_)
  refine awp_cut _ (awp_weak ssA rcA (wk_1 (g2 := g2) (g3 := g3) (fn := fn) (cp := cp) (cc := cc) hv rfl)) ?_
  rintro s h ⟨gw, gm, rfl, rfl⟩
  repeat (first | refine awp_ret ?_)
  exact body_r (h' := [.cl gw 328 (wkC cp cc m (owedN m) fn gm), mapG spV gm []]) (.cons rfl .nil) rcA ⟨gw, gm, rfl, rfl⟩
end Go.Proofs.Ytlpknbneilgjkaa.C
end
section
namespace Go.Proofs.Ytlpknbneilgjkaa.C
open Go Go.RowKit Go.Tl
set_option linter.unusedVariables false
set_option linter.unusedSimpArgs false
set_option maxRecDepth 100000
set_option maxHeartbeats 4000000
attribute [local irreducible] AWP AWL AOp PV LV AWT AWE
section
variable {gw gm g3 g7 fn s k : Nat} {cp cc : Bool} {m : MktD} {d : Nat → Int} {left v n5 n9 n10 bd : Int} {l l' : List ((Int × Int) × AV)} {b : Bool} {hh : HouD} {u6 : AV} {of : HouD → Int → Int}
abbrev wkE (gw gm fn : Nat) (cp cc : Bool) (m : MktD) (d : Nat → Int) : Ent := .cl gw 328 (wkC cp cc m d fn gm)
theorem wl_1 (hb : decide ((s : Int) = m.hou.length) = b) {ops : Array Oper} (h : regF Try.f200 1 = some ops) :
    AWP Try.prog Try.f200.ntmps none (.region 1 ops true) (cutQ (fun s' h => s' = [(19, boolA b), (0, .v (ptrV gw)), (3, .v (ptrV g3))] ∧ h = [.cl g3 318 [intA s, intA left], wkE gw gm fn cp cc m d, mapG spV gm l]))
      [(0, .v (ptrV gw)), (3, .v (ptrV g3))] [.cl g3 318 [intA s, intA left], wkE gw gm fn cp cc m d, mapG spV gm l] := by
  cases h
  subst hb
  refine awp_par T0 (l := (0 :: 1 :: 2 :: 3 :: 4 :: 5 :: 6 :: 7 :: 8 :: [])) rfl (by kernel_rfl) (by kernel_rfl) ?_
  apply parW_op (ds := [3]) rfl rfl rfl rfl (by kernel_rfl)
  · exact .inl ⟨(wt_none rfl), stepQ_pv (pv_fa T0 rfl rfl rfl (by simp; rfl)) rfl rfl⟩
  apply parW_op (ds := [11]) rfl rfl rfl rfl (by kernel_rfl)
  · exact .inl ⟨(wt_none rfl), stepQ_lv (lv_cl1 T0 rfl rfl rfl rcA raA) rfl rfl⟩
  apply parW_op (ds := [0]) rfl rfl rfl rfl (by kernel_rfl)
  · exact .inl ⟨(wt_none rfl), stepQ_pv (pv_move rfl rfl) rfl rfl⟩
  apply parW_op (ds := [13]) rfl rfl rfl rfl (by kernel_rfl)
  · exact .inl ⟨(wt_none rfl), stepQ_pv (pv_nilCheck rfl rfl) rfl rfl⟩
  apply parW_op (ds := [14]) rfl rfl rfl rfl (by kernel_rfl)
  · exact .inl ⟨(wt_none rfl), stepQ_pv (pv_fa T0 rfl rfl rfl (by simp; rfl)) rfl rfl⟩
  apply parW_op (ds := [15]) rfl rfl rfl rfl (by kernel_rfl)
  · exact .inl ⟨(wt_none rfl), stepQ_pv (pv_fa T0 rfl rfl rfl (by simp; rfl)) rfl rfl⟩
  apply parW_op (ds := [16]) rfl rfl rfl rfl (by kernel_rfl)
  · exact .inl ⟨(wt_none rfl), stepQ_lv (lv_cl1 T0 rfl rfl rfl rcA raA) rfl rfl⟩
  apply parW_op (ds := [17]) rfl rfl rfl rfl (by kernel_rfl)
  · exact .inl ⟨(wt_none rfl), stepQ_pv (pv_len_t T0 rfl rfl rfl) rfl rfl⟩
  apply parW_op (ds := [12, 18]) rfl rfl rfl rfl (by kernel_rfl)
  · exact .inl ⟨(wt_none rfl), stepQ_pv (pv_eql rfl rfl rfl) rfl rfl⟩
  refine parW_nil ?_
  exact cut_n ⟨rfl, rfl⟩ ssA rcA
theorem wl_5 (hy : (lookG l ((s : Int), left)).getD (intA 0) = intA v) (hb : (lookG l ((s : Int), left)).isSome = b) {ops : Array Oper} (h : regF Try.f200 5 = some ops) :
    AWP Try.prog Try.f200.ntmps none (.region 5 ops true) (cutQ (fun s' h => s' = [(6, boolA b), (5, intA v), (0, .v (ptrV gw)), (3, .v (ptrV g3))] ∧ h = [.cl g3 318 [intA s, intA left], wkE gw gm fn cp cc m d, mapG spV gm l]))
      [(0, .v (ptrV gw)), (3, .v (ptrV g3))] [.cl g3 318 [intA s, intA left], wkE gw gm fn cp cc m d, mapG spV gm l] := by
  cases h
  refine awp_tree T0 [(0, 0), (1, 0), (2, 0), (3, 1), (4, 1), (5, 1), (6, 0), (7, 0), (8, 0), (9, 0), (10, 0)] (.op 0 0 (.op 1 0 (.op 2 0 (.op 3 1 (.op 4 1 (.op 5 1 (.op 6 0 (.op 7 0 (.op 8 0 (.op 9 0 (.op 10 0 .stop))))))))))) [.cl g3 _ _, .cl gw _ _, mapG _ _ _] rfl (by kernel_rfl) rcA ?_
  refine awt_po rfl (wt_none rfl) (pv_move rfl rfl) rfl rfl ?_
  refine awt_po rfl (wt_none rfl) (pv_nilCheck rfl rfl) rfl rfl ?_
  refine awt_po rfl (wt_none rfl) (pv_fa T0 rfl rfl rfl (by simp; rfl)) rfl rfl ?_
  refine awt_lo rfl (wt_none rfl) (lv_cl1 T0 rfl rfl rfl rcA raA) rfl rfl rfl ?_
  refine awt_lo rfl (wt_none rfl) (lv_cla T0 rfl rfl rfl rcA rfl) rfl rfl rfl ?_
  refine awt_lo rfl (wt_none rfl) (lv_lookupO Msp (k := ((s : Int), left)) rfl rfl rfl rfl rcA hy hb) rfl rfl rfl ?_
  refine awt_po rfl (wt_none rfl) (pv_move rfl rfl) rfl rfl ?_
  refine awt_po rfl (wt_none rfl) (pv_extract rfl rfl rfl) rfl rfl ?_
  refine awt_po rfl (wt_none rfl) (pv_extract rfl rfl rfl) rfl rfl ?_
  refine awt_po rfl (wt_none rfl) (pv_assign rfl rfl) rfl rfl ?_
  refine awt_po rfl (wt_none rfl) (pv_assign rfl rfl) rfl rfl ?_
  refine awt_end ?_
  exact cut_n ⟨rfl, rfl⟩ ssA rcA
theorem wl_9 (hs : s < m.hou.length) (he : m.hou.getD s default = hh) {ops : Array Oper} (h : regF Try.f200 9 = some ops) :
    AWP Try.prog Try.f200.ntmps none (.region 9 ops true) (cutQ (fun s' h => ∃ g7, s' = [(7, .v (ptrV g7)), (0, .v (ptrV gw)), (3, .v (ptrV g3)), (5, intA n5)] ∧ h = [.cl g7 186 [intA hh.lo, intA hh.hi, boolA hh.sells, intA hh.ask], .cl g3 318 [intA s, intA left], wkE gw gm fn cp cc m d, mapG spV gm l]))
      [(0, .v (ptrV gw)), (3, .v (ptrV g3)), (5, intA n5)] [.cl g3 318 [intA s, intA left], wkE gw gm fn cp cc m d, mapG spV gm l] := by
  cases h
  subst he
  refine awp_tree T0 [(0, 0), (1, 0), (2, 0), (3, 0), (4, 1), (5, 0), (6, 1), (7, 0), (8, 1), (9, 2), (10, 3)] (.op 0 0 (.op 1 0 (.op 2 0 (.op 3 0 (.op 4 1 (.op 5 0 (.op 6 1 (.op 7 0 (.op 8 1 (.op 9 2 (.op 10 3 .stop))))))))))) [.cl g3 _ _, .cl gw _ _] rfl (by kernel_rfl) rcA ?_
  refine awt_po rfl (wt_none rfl) (pv_move rfl rfl) rfl rfl ?_
  refine awt_po rfl (wt_none rfl) (pv_nilCheck rfl rfl) rfl rfl ?_
  refine awt_po rfl (wt_none rfl) (pv_fa T0 rfl rfl rfl (by simp; rfl)) rfl rfl ?_
  refine awt_po rfl (wt_none rfl) (pv_fa T0 rfl rfl rfl (by simp; rfl)) rfl rfl ?_
  refine awt_lo rfl (wt_none rfl) (lv_cl1 T0 rfl rfl rfl rcA raA) rfl rfl rfl ?_
  refine awt_po rfl (wt_none rfl) (pv_fa T0 rfl rfl rfl (by simp; rfl)) rfl rfl ?_
  refine awt_lo rfl (wt_none rfl) (lv_cl1 T0 rfl rfl rfl rcA raA) rfl rfl rfl ?_
  refine awt_po rfl (wt_none rfl) (pv_ix_t T0 rfl rfl rfl rfl (by omega) ixA) rfl rfl ?_
  refine awt_lo rfl (wt_none rfl) (lv_elt_ag T0 rfl rfl rfl rfl rcA) rfl rfl rfl ?_
  refine awt_h (hm := []) rfl (wt_none rfl) rcA rfl (st_alloc T0 rfl rfl rfl rfl scA ?_)
  intro g7
  refine awt_s (md := fun _ => True) rfl (wt_none rfl) (st_store T0 rfl rfl rfl rfl rfl (by first | assumption | (simp only [cellsA]; rfl)) rfl rfl rfl rcA rcA trivial ?_)
  refine awe_end ?_
  exact cut_n ⟨_, rfl, rfl⟩ ssA rcA
theorem wl_10 (hh' : 0 ≤ hh.lo ∧ hh.lo ≤ hh.hi ∧ hh.hi ≤ 200) (hl : 0 ≤ left ∧ left ≤ 200) {ops : Array Oper} (h : regF Try.f200 10 = some ops) :
    AWP Try.prog Try.f200.ntmps none (.region 10 ops true) (cutQ (fun s' h => s' = [(55, intA 0), (54, intA (min hh.hi left - hh.lo + 1)), (7, .v (ptrV g7)), (0, .v (ptrV gw)), (3, .v (ptrV g3)), (5, intA n5)] ∧ h = [.cl g7 186 [intA hh.lo, intA hh.hi, boolA hh.sells, intA hh.ask], .cl g3 318 [intA s, intA left], wkE gw gm fn cp cc m d, mapG spV gm l]))
      [(7, .v (ptrV g7)), (0, .v (ptrV gw)), (3, .v (ptrV g3)), (5, intA n5)] [.cl g7 186 [intA hh.lo, intA hh.hi, boolA hh.sells, intA hh.ask], .cl g3 318 [intA s, intA left], wkE gw gm fn cp cc m d, mapG spV gm l] := by
  cases h
  refine awp_tree T0 [(0, 0), (1, 0), (2, 1), (3, 0), (4, 1), (7, 0), (8, 0), (9, 1), (12, 0), (5, 2), (6, 2), (10, 0), (11, 0)] (.op 0 0 (.op 1 0 (.op 2 1 (.op 3 0 (.op 4 1 (.op 7 0 (.op 8 0 (.op 9 1 (.op 12 0 (.op 5 2 (.op 6 2 (.op 10 0 (.op 11 0 .stop))))))))))))) [.cl g3 _ _, .cl g7 _ _] rfl (by kernel_rfl) rcA ?_
  refine awt_po rfl (wt_none rfl) (pv_fa T0 rfl rfl rfl (by simp; rfl)) rfl rfl ?_
  refine awt_po rfl (wt_none rfl) (pv_fa T0 rfl rfl rfl (by simp; rfl)) rfl rfl ?_
  refine awt_lo rfl (wt_none rfl) (lv_cl1 T0 rfl rfl rfl rcA raA) rfl rfl rfl ?_
  refine awt_po rfl (wt_none rfl) (pv_fa T0 rfl rfl rfl (by simp; rfl)) rfl rfl ?_
  refine awt_lo rfl (wt_none rfl) (lv_cl1 T0 rfl rfl rfl rcA raA) rfl rfl rfl ?_
  refine awt_po rfl (wt_none rfl) (pv_fa T0 rfl rfl rfl (by simp; rfl)) rfl rfl ?_
  refine awt_po rfl (wt_none rfl) (pv_fa T0 rfl rfl rfl (by simp; rfl)) rfl rfl ?_
  refine awt_lo rfl (wt_none rfl) (lv_cl1 T0 rfl rfl rfl rcA raA) rfl rfl rfl ?_
  refine awt_po rfl (wt_none rfl) (pv_move rfl rfl) rfl rfl ?_
  refine awt_h (hm := []) rfl (wt_none rfl) rcA rfl (st_bsl T0 rfl rfl rfl rfl rfl rcA rfl rfl rfl rfl (by simp only [List.map_cons, List.map_nil, cellsA]; rfl) ?_)
  intro g48
  refine awt_h (hm := _) rfl (wt_none rfl) ?sub rfl (st_acall T0 (min2_o _ hh.hi left) rfl rfl rfl rfl (by first | exact callee_lit | exact callee_v | exact callee_fn | assumption) rcA raA rfl (by first | ((repeat' (first | exact SubH.refl _ | apply SubH.cons | exact Pick.here | apply Pick.there)); all_goals fail) | fail) (fun b hb => hb) ?_)
  case sub => exact rcA
  rintro r h' ⟨rfl, rfl⟩
  refine awt_n1 rfl (wt_none rfl) (pv_sub rfl rfl rfl (by first | assumption | exact wr64 (by omega))) rfl rfl rfl ?_
  refine awt_n1 rfl (wt_none rfl) (pv_add rfl rfl rfl (by first | assumption | exact wr64 (by omega))) rfl rfl rfl ?_
  refine awt_end ?_
  exact cut_n ⟨rfl, rfl⟩ ssA rcA
theorem wl_16 (hC : ∀ h p, -1600 ≤ p → p ≤ 1800 → PCall Try.prog fn [houA h, intA p] (fun r => r = intA (of h p))) (hk : LkOk of d) (hfn : T0.fns.any fn.beq = true) (hs : s < 6) (h9 : 0 ≤ n9 ∧ n9 ≤ 200) (h10 : -12000 ≤ n10 ∧ n10 ≤ 12000) {ops : Array Oper} (h : regF Try.f200 16 = some ops) :
    AWP Try.prog Try.f200.ntmps none (.region 16 ops true) (cutQ (fun s' h => s' = [(5, intA (min n5 (n10 + of hh (d s + n9)))), (0, .v (ptrV gw)), (3, .v (ptrV g3)), (7, .v (ptrV g7)), (54, intA bd), (55, intA k)] ∧ h = [.cl g7 186 [intA hh.lo, intA hh.hi, boolA hh.sells, intA hh.ask], .cl g3 318 [intA s, intA left], wkE gw gm fn cp cc m d, mapG spV gm l]))
      [(0, .v (ptrV gw)), (3, .v (ptrV g3)), (5, intA n5), (7, .v (ptrV g7)), (9, intA n9), (10, intA n10), (54, intA bd), (55, intA k)] [.cl g7 186 [intA hh.lo, intA hh.hi, boolA hh.sells, intA hh.ask], .cl g3 318 [intA s, intA left], wkE gw gm fn cp cc m d, mapG spV gm l] := by
  cases h
  have r1 : (wkC cp cc m d fn gm)[3 + s]? = some (intA (d s)) := wkC_at hs
  have hd := hk.ow s
  have ho := hk.of hh (d s + n9) (by omega) (by omega)
  have hC1 := hC hh (d s + n9) (by omega) (by omega)
  refine awp_tree T0 [(0, 0), (1, 0), (2, 0), (3, 0), (4, 0), (5, 0), (6, 1), (7, 1), (8, 0), (9, 0), (10, 1), (11, 0), (12, 0), (13, 0), (14, 1), (15, 0), (16, 0), (17, 3), (18, 0), (19, 3), (20, 3), (21, 0)] (.op 0 0 (.op 1 0 (.op 2 0 (.op 3 0 (.op 4 0 (.op 5 0 (.op 6 1 (.op 7 1 (.op 8 0 (.op 9 0 (.op 10 1 (.op 11 0 (.op 12 0 (.op 13 0 (.op 14 1 (.op 15 0 (.op 16 0 (.op 17 3 (.op 18 0 (.op 19 3 (.op 20 3 (.op 21 0 .stop)))))))))))))))))))))) [.cl g3 _ _, .cl g7 _ _, .cl gw _ _] rfl (by kernel_rfl) rcA ?_
  refine awt_po rfl (wt_none rfl) (pv_move rfl rfl) rfl rfl ?_
  refine awt_po rfl (wt_none rfl) (pv_move rfl rfl) rfl rfl ?_
  refine awt_po rfl (wt_none rfl) (pv_move rfl rfl) rfl rfl ?_
  refine awt_po rfl (wt_none rfl) (pv_nilCheck rfl rfl) rfl rfl ?_
  refine awt_po rfl (wt_none rfl) (pv_fa T0 rfl rfl rfl (by simp; rfl)) rfl rfl ?_
  refine awt_po rfl (wt_none rfl) (pv_fa T0 rfl rfl rfl (by simp; rfl)) rfl rfl ?_
  refine awt_lo rfl (wt_none rfl) (lv_cl1 T0 rfl rfl rfl rcA raA) rfl rfl rfl ?_
  refine awt_lo rfl (wt_none rfl) (lv_cla T0 rfl rfl rfl rcA rfl) rfl rfl rfl ?_
  refine awt_po rfl (wt_none rfl) (pv_move rfl rfl) rfl rfl ?_
  refine awt_po rfl (wt_none rfl) (pv_fa T0 rfl rfl rfl (by simp; rfl)) rfl rfl ?_
  refine awt_lo rfl (wt_none rfl) (lv_cl1 T0 rfl rfl rfl rcA raA) rfl rfl rfl ?_
  refine awt_po rfl (wt_none rfl) (pv_nilCheck rfl rfl) rfl rfl ?_
  refine awt_po rfl (wt_none rfl) (pv_fa T0 rfl rfl rfl (by simp; rfl)) rfl rfl ?_
  refine awt_po rfl (wt_none rfl) (pv_ix_arr T0 rfl rfl rfl rfl (by omega) (by simp; rfl)) rfl rfl ?_
  refine awt_lo rfl (wt_none rfl) (lv_cl1 T0 rfl rfl rfl rcA raA) rfl rfl rfl ?_
  refine awt_po rfl (wt_none rfl) (pv_move rfl rfl) rfl rfl ?_
  refine awt_po rfl (wt_none rfl) (pv_add rfl rfl rfl (by first | assumption | exact wr64 (by omega))) rfl rfl ?_
  refine awt_s (md := fun _ => True) rfl (wt_none rfl) (st_call T0 (hC1) rfl rfl rfl rfl (by first | exact callee_lit | exact callee_v | exact callee_fn | assumption) rcA raA rfl ?_)
  rintro _ rfl
  refine awe_p rfl (wt_none rfl) (pv_add rfl rfl rfl (by first | assumption | exact wr64 (by omega))) rfl rfl ?_
  refine awe_s (md := fun _ => True) rfl (wt_none rfl) (st_bsl T0 rfl rfl rfl rfl rfl rcA rfl rfl rfl rfl (by simp only [List.map_cons, List.map_nil, cellsA]; rfl) ?_)
  intro g94
  refine awe_s (md := fun _ => True) rfl (wt_none rfl) (st_acall T0 (min2_o _ n5 (n10 + of hh (d s + n9))) rfl rfl rfl rfl (by first | exact callee_lit | exact callee_v | exact callee_fn | assumption) rcA raA rfl (by first | ((repeat' (first | exact SubH.refl _ | apply SubH.cons | exact Pick.here | apply Pick.there)); all_goals fail) | fail) (fun _ _ => trivial) ?_)
  rintro r h' ⟨rfl, rfl⟩
  refine awe_p rfl (wt_none rfl) (pv_assign rfl rfl) rfl rfl ?_
  refine awe_end ?_
  exact cut_n ⟨rfl, rfl⟩ ssA rcA
theorem wl_18 (hl : updG l ((s : Int), left) (intA n5) = l') {ops : Array Oper} (h : regF Try.f200 18 = some ops) :
    AWP Try.prog Try.f200.ntmps none (.region 18 ops true) (cutQ (fun s' h => s' = [(5, intA n5)] ∧ h = [wkE gw gm fn cp cc m d, mapG spV gm l']))
      [(0, .v (ptrV gw)), (3, .v (ptrV g3)), (5, intA n5)] [.cl g3 318 [intA s, intA left], wkE gw gm fn cp cc m d, mapG spV gm l] := by
  cases h
  refine awp_tree T0 [(0, 0), (1, 0), (2, 0), (3, 1), (4, 1), (5, 0), (6, 3)] (.op 0 0 (.op 1 0 (.op 2 0 (.op 3 1 (.op 4 1 (.op 5 0 (.op 6 3 .stop))))))) [.cl g3 _ _, .cl gw _ _] rfl (by kernel_rfl) rcA ?_
  refine awt_po rfl (wt_none rfl) (pv_move rfl rfl) rfl rfl ?_
  refine awt_po rfl (wt_none rfl) (pv_nilCheck rfl rfl) rfl rfl ?_
  refine awt_po rfl (wt_none rfl) (pv_fa T0 rfl rfl rfl (by simp; rfl)) rfl rfl ?_
  refine awt_lo rfl (wt_none rfl) (lv_cl1 T0 rfl rfl rfl rcA raA) rfl rfl rfl ?_
  refine awt_lo rfl (wt_none rfl) (lv_cla T0 rfl rfl rfl rcA rfl) rfl rfl rfl ?_
  refine awt_po rfl (wt_none rfl) (pv_move rfl rfl) rfl rfl ?_
  refine awt_s (md := fun _ => True) rfl (wt_none rfl) (aop_mapUpdateG Msp (k := ((s : Int), left)) rfl rfl rfl rfl rfl rfl rcA hl trivial ?_)
  refine awe_end ?_
  exact cut_n ⟨rfl, rfl⟩ ssA rcA
end
end Go.Proofs.Ytlpknbneilgjkaa.C
end
section
namespace Go.Proofs.Ytlpknbneilgjkaa.C
open Go Go.RowKit Go.Tl
set_option linter.unusedVariables false
set_option linter.unusedSimpArgs false
set_option maxRecDepth 100000
set_option maxHeartbeats 4000000
attribute [local irreducible] AWP AWL AOp PV LV AWT AWE
abbrev leastV (of : HouD → Int → Int) (m : MktD) (s : Nat) (left : Int) : Int := leastL of (owedN m) (m.hou.drop s) s left
theorem drop_cons {m : MktD} {s : Nat} (h : s < m.hou.length) : m.hou.drop s = m.hou.getD s default :: m.hou.drop (s + 1) := by
  rw [List.drop_eq_getElem_cons h]
  simp [List.getD_eq_getElem?_getD, h]
theorem leastV_end {of : HouD → Int → Int} {m : MktD} {left : Int} : leastV of m m.hou.length left = if left = 0 then 0 else never := by
  unfold leastV
  rw [List.drop_length]
  rfl
theorem leastV_step {of : HouD → Int → Int} {m : MktD} {s : Nat} {left : Int} (h : s < m.hou.length) : leastV of m s left = foldK (fun k => leastV of m (s + 1) (left - ((m.hou.getD s default).lo + k))) (fun k => of (m.hou.getD s default) (owedN m s + ((m.hou.getD s default).lo + k))) (min (m.hou.getD s default).hi left - (m.hou.getD s default).lo + 1).toNat := by
  unfold leastV
  rw [drop_cons h]
  rfl
def KnOk (of : HouD → Int → Int) (m : MktD) (l : List ((Int × Int) × AV)) : Prop := ∀ (s : Nat) (left : Int) (v : AV), lookG l ((s : Int), left) = some v → v = intA (leastV of m s left)
theorem kn_nil (of : HouD → Int → Int) (m : MktD) : KnOk of m [] := fun s left v h => by cases h
theorem kn_upd {of : HouD → Int → Int} {m : MktD} {l : List ((Int × Int) × AV)} (h : KnOk of m l) (s : Nat) (left : Int) : KnOk of m (updG l ((s : Int), left) (intA (leastV of m s left))) := fun s' left' v hv => by
  rw [look_updG] at hv
  by_cases e : (((s' : Nat) : Int), left') = ((s : Int), left)
  · rw [if_pos e] at hv
    have e1 : s' = s := by have := congrArg Prod.fst e; exact Int.ofNat.inj this
    have e2 : left' = left := congrArg Prod.snd e
    subst e1; subst e2
    exact (Option.some.inj hv).symm
  · rw [if_neg e] at hv
    exact h s' left' v hv
structure LackOk (of : HouD → Int → Int) (fn : Nat) : Prop where
  fns : T0.fns.any fn.beq = true
  call : ∀ h p, -1600 ≤ p → p ≤ 1800 → PCall Try.prog fn [houA h, intA p] (fun r => r = intA (of h p))
theorem lack_short : LackOk shortF 199 := ⟨by kernel_rfl, fun h p h1 h2 => short_p h p (by omega)⟩
theorem lack_sur : LackOk surF 201 := ⟨by kernel_rfl, fun h p h1 h2 => surplus_p h p (by omega)⟩
theorem hs_drop {m : MktD} (hv : VMkt m) (s : Nat) : HsOk (m.hou.drop s) := fun h hh => hs_ok hv h (List.mem_of_mem_drop hh)
theorem least_o {of : HouD → Int → Int} {fn : Nat} (gw gm : Nat) (cp cc : Bool) (m : MktD) (hv : VMkt m) (hC : LackOk of fn) (hk : LkOk of (owedN m)) : ∀ (n s : Nat) (left : Int) (l : List ((Int × Int) × AV)), s + n = m.hou.length → 0 ≤ left ∧ left ≤ 200 → KnOk of m l →
    ACall Try.prog 200 [.v (ptrV gw), .ag [intA s, intA left]] [wkE gw gm fn cp cc m (owedN m), mapG spV gm l] (fun r h' => r = intA (leastV of m s left) ∧ ∃ l', KnOk of m l' ∧ h' = [wkE gw gm fn cp cc m (owedN m), mapG spV gm l'])
  | 0, s, left, l, hs, hl, hkn => by
    obtain rfl : s = m.hou.length := by omega
    rw [leastV_end]
    have db : decide (((m.hou.length : Nat) : Int) = m.hou.length) = true := decide_eq_true rfl
    refine acall_of_awp T0 Try.func200 rfl rfl rfl ?_
    repeat (first | refine awp_seq ?_ | refine awp_region_lit rfl ?_)
    refine awl_hw (wt_none rfl) (st_box rfl rfl raA (by first | assumption | (simp only [cellsA]; rfl)) rfl rfl ?_)
    intro g3
    repeat (first | refine awp_seq ?_ | (show AWL _ _ _ (⟨_, .assign _, _, _, _, _⟩ :: _) _ _ _; refine awl_pw (wt_none rfl) (pv_assign rfl rfl) rfl rfl ?_) | refine awl_nil ?_)
    refine awp_cut _ (awp_weak ssA rcA (wl_1 (gw := gw) (gm := gm) (g3 := g3) (fn := fn) (s := m.hou.length) (cp := cp) (cc := cc) (m := m) (d := owedN m) (left := left) (l := l) db rfl)) ?_
    rintro s' h ⟨rfl, rfl⟩
    by_cases c : left = 0
    · have d1 := decide_eq_true c
      rw [if_pos c]
      repeat (first | refine awp_seq ?_ | refine awp_region_lit rfl ?_ | refine awp_ret ?_ | with_reducible refine then_n ?_ | with_reducible refine then_r ?_ | refine awp_cond_t rfl (by first | rfl | assumption | exact dT (by omega)) ?_ | (show AWL _ _ _ (⟨_, .assign _, _, _, _, _⟩ :: _) _ _ _; refine awl_pw (wt_none rfl) (pv_assign rfl rfl) rfl rfl ?_) | (show AWL _ _ _ (⟨_, .load _ _, _, _, _, _⟩ :: _) _ _ _; refine awl_lw (wt_none rfl) (lv_cl1 T0 rfl rfl rfl rcA raA) rfl rfl rfl ?_) | (show AWL _ _ _ (⟨_, .fieldAddr _ _ _, _, _, _, _⟩ :: _) _ _ _; refine awl_pw (wt_none rfl) (pv_fa T0 rfl rfl rfl (by simp; rfl)) rfl rfl ?_) | (show AWL _ _ _ (⟨_, .binOp .eql _ _ _ _, _, _, _, _⟩ :: _) _ _ _; refine awl_pw (wt_none rfl) (pv_eql rfl rfl rfl) rfl rfl ?_) | refine awl_nil ?_)
      exact body_r (h' := [wkE gw gm fn cp cc m (owedN m), mapG spV gm l]) (.cons rfl .nil) rcA ⟨rfl, l, hkn, rfl⟩
    · have d1 := decide_eq_false c
      rw [if_neg c]
      repeat (first | refine awp_seq ?_ | refine awp_region_lit rfl ?_ | refine awp_skip ?_ | refine awp_ret ?_ | with_reducible refine then_n ?_ | with_reducible refine then_r ?_ | refine awp_cond_t rfl (by first | rfl | assumption | exact dT (by omega)) ?_ | refine awp_cond_f rfl (by first | rfl | assumption | exact dF (by omega)) ?_ | (show AWL _ _ _ (⟨_, .assign _, _, _, _, _⟩ :: _) _ _ _; refine awl_pw (wt_none rfl) (pv_assign rfl rfl) rfl rfl ?_) | (show AWL _ _ _ (⟨_, .load _ _, _, _, _, _⟩ :: _) _ _ _; refine awl_lw (wt_none rfl) (lv_cl1 T0 rfl rfl rfl rcA raA) rfl rfl rfl ?_) | (show AWL _ _ _ (⟨_, .fieldAddr _ _ _, _, _, _, _⟩ :: _) _ _ _; refine awl_pw (wt_none rfl) (pv_fa T0 rfl rfl rfl (by simp; rfl)) rfl rfl ?_) | (show AWL _ _ _ (⟨_, .binOp .eql _ _ _ _, _, _, _, _⟩ :: _) _ _ _; refine awl_pw (wt_none rfl) (pv_eql rfl rfl rfl) rfl rfl ?_) | refine awl_nil ?_)
      exact body_r (h' := [wkE gw gm fn cp cc m (owedN m), mapG spV gm l]) (.cons rfl .nil) rcA ⟨rfl, l, hkn, rfl⟩
  | n + 1, s, left, l, hs, hl, hkn => by
    have hsl : s < m.hou.length := by omega
    have hlen := hv.len
    have hh := hv.held s hsl
    have db : decide ((s : Int) = m.hou.length) = false := decide_eq_false (by omega)
    have ih : ∀ (left : Int) (l : List ((Int × Int) × AV)), 0 ≤ left ∧ left ≤ 200 → KnOk of m l → ACall Try.prog 200 [.v (ptrV gw), .ag [intA ((s : Int) + 1), intA left]] [wkE gw gm fn cp cc m (owedN m), mapG spV gm l] (fun r h' => r = intA (leastV of m (s + 1) left) ∧ ∃ l', KnOk of m l' ∧ h' = [wkE gw gm fn cp cc m (owedN m), mapG spV gm l']) := fun left l => least_o gw gm cp cc m hv hC hk n (s + 1) left l (by omega)
    have hbd : ∀ left, leastV of m (s + 1) left = never ∨ (-12000 ≤ leastV of m (s + 1) left ∧ leastV of m (s + 1) left ≤ 12000) := fun left => least_bd hk (m.hou.drop (s + 1)) (s + 1) left (hs_drop hv _) (by rw [List.length_drop]; omega)
    refine acall_of_awp T0 Try.func200 rfl rfl rfl ?_
    repeat (first | refine awp_seq ?_ | refine awp_region_lit rfl ?_)
    refine awl_hw (wt_none rfl) (st_box rfl rfl raA (by first | assumption | (simp only [cellsA]; rfl)) rfl rfl ?_)
    intro g3
    repeat (first | refine awp_seq ?_ | (show AWL _ _ _ (⟨_, .assign _, _, _, _, _⟩ :: _) _ _ _; refine awl_pw (wt_none rfl) (pv_assign rfl rfl) rfl rfl ?_) | refine awl_nil ?_)
    refine awp_cut _ (awp_weak ssA rcA (wl_1 (gw := gw) (gm := gm) (g3 := g3) (fn := fn) (s := s) (cp := cp) (cc := cc) (m := m) (d := owedN m) (left := left) (l := l) db rfl)) ?_
    rintro s' h ⟨rfl, rfl⟩
    cases hlk : lookG l ((s : Int), left) with
    | some v =>
      obtain rfl := hkn s left v hlk
      repeat (first | refine awp_seq ?_ | refine awp_skip ?_ | refine awp_cond_f rfl (by first | rfl | assumption | exact dF (by omega)) ?_)
      refine awp_cut _ (awp_weak ssA rcA (wl_5 (gw := gw) (gm := gm) (g3 := g3) (fn := fn) (s := s) (cp := cp) (cc := cc) (m := m) (d := owedN m) (left := left) (l := l) (v := leastV of m s left) (b := true) (by rw [hlk]; rfl) (by rw [hlk]; rfl) rfl)) ?_
      rintro s' h ⟨rfl, rfl⟩
      repeat (first | refine awp_seq ?_ | refine awp_region_lit rfl ?_ | refine awp_ret ?_ | with_reducible refine then_n ?_ | with_reducible refine then_r ?_ | refine awp_cond_t rfl (by first | rfl | assumption | exact dT (by omega)) ?_ | (show AWL _ _ _ (⟨_, .move _, _, _, _, _⟩ :: _) _ _ _; refine awl_pw (wt_none rfl) (pv_move rfl rfl) rfl rfl ?_) | (show AWL _ _ _ (⟨_, .assign _, _, _, _, _⟩ :: _) _ _ _; refine awl_pw (wt_none rfl) (pv_assign rfl rfl) rfl rfl ?_) | refine awl_nil ?_)
      exact body_r (h' := [wkE gw gm fn cp cc m (owedN m), mapG spV gm l]) (.cons rfl .nil) rcA ⟨rfl, l, hkn, rfl⟩
    | none =>
      repeat (first | refine awp_seq ?_ | refine awp_skip ?_ | refine awp_cond_f rfl (by first | rfl | assumption | exact dF (by omega)) ?_)
      refine awp_cut _ (awp_weak ssA rcA (wl_5 (gw := gw) (gm := gm) (g3 := g3) (fn := fn) (s := s) (cp := cp) (cc := cc) (m := m) (d := owedN m) (left := left) (l := l) (v := 0) (b := false) (by rw [hlk]; rfl) (by rw [hlk]; rfl) rfl)) ?_
      rintro s' h ⟨rfl, rfl⟩
      repeat (first | refine awp_seq ?_ | refine awp_region_lit rfl ?_ | refine awp_skip ?_ | with_reducible refine then_n ?_ | refine awp_cond_f rfl (by first | rfl | assumption | exact dF (by omega)) ?_ | (show AWL _ _ _ (⟨_, .move _, _, _, _, _⟩ :: _) _ _ _; refine awl_pw (wt_none rfl) (pv_move rfl rfl) rfl rfl ?_) | (show AWL _ _ _ (⟨_, .assign _, _, _, _, _⟩ :: _) _ _ _; refine awl_pw (wt_none rfl) (pv_assign rfl rfl) rfl rfl ?_) | refine awl_nil ?_)
      refine awp_cut _ (awp_weak ssA rcA (wl_9 (gw := gw) (gm := gm) (g3 := g3) (fn := fn) (s := s) (cp := cp) (cc := cc) (m := m) (d := owedN m) (left := left) (l := l) (n5 := never) hsl rfl rfl)) ?_
      rintro s' h ⟨g7, rfl, rfl⟩
      refine awp_seq ?_
      refine awp_seq ?_
      refine awp_cut _ (awp_weak ssA rcA (wl_10 (gw := gw) (gm := gm) (g3 := g3) (g7 := g7) (fn := fn) (s := s) (cp := cp) (cc := cc) (m := m) (d := owedN m) (left := left) (l := l) (n5 := never) (hh := m.hou.getD s default) hh hl rfl)) ?_
      rintro s' h ⟨rfl, rfl⟩
      have hstep := leastV_step (of := of) (left := left) hsl
      generalize hhe : m.hou.getD s default = he at *
      generalize hf : (fun k : Nat => leastV of m (s + 1) (left - (he.lo + k))) = f at *
      generalize hg : (fun k : Nat => of he (owedN m s + (he.lo + k))) = g at *
      have ef : ∀ k : Nat, leastV of m (s + 1) (left - (he.lo + k)) = f k := fun k => by rw [← hf]
      have eg : ∀ k : Nat, of he (owedN m s + (he.lo + k)) = g k := fun k => by rw [← hg]
      rw [show intA never = intA (foldK f g 0) from rfl]
      repeat (first | refine awp_block ?_)
      refine awp_loop (fun q s' h => ∃ (k : Nat) (l' : List ((Int × Int) × AV)), k ≤ (min he.hi left - he.lo + 1).toNat ∧ q = (min he.hi left - he.lo + 1).toNat - k ∧ KnOk of m l' ∧ s' = [(0, .v (ptrV gw)), (3, .v (ptrV g3)), (5, intA (foldK f g k)), (7, .v (ptrV g7)), (54, intA (min he.hi left - he.lo + 1)), (55, intA k)] ∧ h = [.cl g7 186 [intA he.lo, intA he.hi, boolA he.sells, intA he.ask], .cl g3 318 [intA s, intA left], wkE gw gm fn cp cc m (owedN m), mapG spV gm l']) ?_ ⟨0, l, Nat.zero_le _, rfl, hkn, rfl, rfl⟩ ssA rcA
      rintro q s' h ⟨k, l', hkb, rfl, hkn', rfl, rfl⟩
      by_cases hkt : k < (min he.hi left - he.lo + 1).toNat
      case neg =>
        obtain rfl : k = (min he.hi left - he.lo + 1).toNat := by omega
        rw [← hstep]
        have d2 : decide ((((min he.hi left - he.lo + 1).toNat : Nat) : Int) < min he.hi left - he.lo + 1) = false := decide_eq_false (by omega)
        repeat (first | refine awp_seq ?_ | refine awp_region_lit rfl ?_ | refine awp_exit ?_ | refine awp_cond_f rfl (by first | rfl | assumption | exact dF (by omega)) ?_ | (show AWL _ _ _ (⟨_, .binOp .lss _ _ _ _, _, _, _, _⟩ :: _) _ _ _; refine awl_pw (wt_none rfl) (pv_lss rfl rfl rfl) rfl rfl ?_) | refine awl_nil ?_)
        refine awp_cut _ (awp_weak ssA rcA (wl_18 (gw := gw) (gm := gm) (g3 := g3) (fn := fn) (s := s) (cp := cp) (cc := cc) (m := m) (d := owedN m) (left := left) (l := l') (n5 := leastV of m s left) rfl rfl)) ?_
        rintro s' h ⟨rfl, rfl⟩
        repeat (first | refine awp_seq ?_ | refine awp_region_lit rfl ?_ | refine awp_ret ?_ | (show AWL _ _ _ (⟨_, .move _, _, _, _, _⟩ :: _) _ _ _; refine awl_pw (wt_none rfl) (pv_move rfl rfl) rfl rfl ?_) | (show AWL _ _ _ (⟨_, .assign _, _, _, _, _⟩ :: _) _ _ _; refine awl_pw (wt_none rfl) (pv_assign rfl rfl) rfl rfl ?_) | refine awl_nil ?_)
        exact body_r (h' := [wkE gw gm fn cp cc m (owedN m), mapG spV gm _]) (.cons rfl .nil) rcA ⟨rfl, _, kn_upd hkn' s left, rfl⟩
      have d2 : decide ((k : Int) < min he.hi left - he.lo + 1) = true := decide_eq_true (by omega)
      repeat (first | refine awp_seq ?_ | refine awp_block ?_ | refine awp_region_lit rfl ?_ | refine awp_skip ?_ | refine awp_cond_t rfl (by first | rfl | assumption | exact dT (by omega)) ?_ | (show AWL _ _ _ (⟨_, .move _, _, _, _, _⟩ :: _) _ _ _; refine awl_pw (wt_none rfl) (pv_move rfl rfl) rfl rfl ?_) | (show AWL _ _ _ (⟨_, .assign _, _, _, _, _⟩ :: _) _ _ _; refine awl_pw (wt_none rfl) (pv_assign rfl rfl) rfl rfl ?_) | (show AWL _ _ _ (⟨_, .load _ _, _, _, _, _⟩ :: _) _ _ _; refine awl_lw (wt_none rfl) (lv_cl1 T0 rfl rfl rfl rcA raA) rfl rfl rfl ?_) | (show AWL _ _ _ (⟨_, .fieldAddr _ _ _, _, _, _, _⟩ :: _) _ _ _; refine awl_pw (wt_none rfl) (pv_fa T0 rfl rfl rfl (by simp; rfl)) rfl rfl ?_) | (show AWL _ _ _ (⟨_, .build _ _, _, _, _, _⟩ :: _) _ _ _; refine awl_pw (wt_none rfl) (pv_build T0 rfl rfl rfl scA (by first | ((repeat' (first | exact BParts.nil | apply BParts.cons | rfl)); all_goals fail) | fail) (by first | ((repeat' (first | exact FillA.nil | exact Sp.done | apply FillA.cons | apply Sp.put | apply Sp.skip | (simp only [cellsA]; rfl) | rfl)); all_goals fail) | fail)) rfl rfl ?_) | (show AWL _ _ _ (⟨_, .binOp .add _ _ _ _, _, _, _, _⟩ :: _) _ _ _; refine awl_pw (wt_none rfl) (pv_add rfl rfl rfl (by first | assumption | exact wr64 (by omega))) rfl rfl ?_) | (show AWL _ _ _ (⟨_, .binOp .sub _ _ _ _, _, _, _, _⟩ :: _) _ _ _; refine awl_pw (wt_none rfl) (pv_sub rfl rfl rfl (by first | assumption | exact wr64 (by omega))) rfl rfl ?_) | (show AWL _ _ _ (⟨_, .binOp .lss _ _ _ _, _, _, _, _⟩ :: _) _ _ _; refine awl_pw (wt_none rfl) (pv_lss rfl rfl rfl) rfl rfl ?_) | refine awl_nil ?_)
      refine awl_hw (wt_none rfl) (st_acall T0 (ih (left - (he.lo + k)) l' (by omega) hkn') rfl rfl rfl rfl (by first | exact callee_lit | exact callee_v | exact callee_fn | assumption) rcA raA rfl (by first | ((repeat' (first | exact SubH.refl _ | apply SubH.cons | exact Pick.here | apply Pick.there)); all_goals fail) | fail) (fun _ _ => trivial) ?_)
      rintro r h' ⟨rfl, l2, hk2, rfl⟩
      rw [ef]
      simp only [List.cons_append, List.nil_append]
      by_cases e : f k = never
      · have d3 : decide (f k ≠ never) = false := decide_eq_false (fun h => h e)
        have hf1 : foldK f g (k + 1) = foldK f g k := by simp only [foldK]; rw [if_pos e]
        repeat (first | refine awp_seq ?_ | refine awp_region_lit rfl ?_ | refine awp_skip ?_ | with_reducible refine then_n ?_ | refine awp_cond_f rfl (by first | rfl | assumption | exact dF (by omega)) ?_ | (show AWL _ _ _ (⟨_, .move _, _, _, _, _⟩ :: _) _ _ _; refine awl_pw (wt_none rfl) (pv_move rfl rfl) rfl rfl ?_) | (show AWL _ _ _ (⟨_, .assign _, _, _, _, _⟩ :: _) _ _ _; refine awl_pw (wt_none rfl) (pv_assign rfl rfl) rfl rfl ?_) | (show AWL _ _ _ (⟨_, .binOp .add _ _ _ _, _, _, _, _⟩ :: _) _ _ _; refine awl_pw (wt_none rfl) (pv_add rfl rfl rfl (by first | assumption | exact wr64 (by omega))) rfl rfl ?_) | (show AWL _ _ _ (⟨_, .binOp .neq _ _ _ _, _, _, _, _⟩ :: _) _ _ _; refine awl_pw (wt_none rfl) (pv_neq rfl rfl rfl) rfl rfl ?_) | refine awl_nil ?_)
        rw [← hf1]
        refine rnd_n _ _ _ ?_ ⟨k + 1, l2, hkt, rfl, hk2, rfl, rfl⟩ ssA rcA
        omega
      · have d3 : decide (f k ≠ never) = true := decide_eq_true e
        have hb2 : -12000 ≤ f k ∧ f k ≤ 12000 := by
          rcases hbd (left - (he.lo + k)) with h1 | h1
          · exact absurd ((ef k).symm.trans h1) e
          · rw [ef] at h1; exact h1
        have hf1 : foldK f g (k + 1) = min (foldK f g k) (f k + g k) := by simp only [foldK]; rw [if_neg e]
        repeat (first | refine awp_seq ?_ | refine awp_region_lit rfl ?_ | with_reducible refine then_n ?_ | refine awp_cond_t rfl (by first | rfl | assumption | exact dT (by omega)) ?_ | (show AWL _ _ _ (⟨_, .move _, _, _, _, _⟩ :: _) _ _ _; refine awl_pw (wt_none rfl) (pv_move rfl rfl) rfl rfl ?_) | (show AWL _ _ _ (⟨_, .assign _, _, _, _, _⟩ :: _) _ _ _; refine awl_pw (wt_none rfl) (pv_assign rfl rfl) rfl rfl ?_) | (show AWL _ _ _ (⟨_, .binOp .neq _ _ _ _, _, _, _, _⟩ :: _) _ _ _; refine awl_pw (wt_none rfl) (pv_neq rfl rfl rfl) rfl rfl ?_) | refine awl_nil ?_)
        refine awp_cutB _ (awp_weak ssA rcA (wl_16 (gw := gw) (gm := gm) (g3 := g3) (g7 := g7) (fn := fn) (s := s) (k := k) (cp := cp) (cc := cc) (m := m) (d := owedN m) (left := left) (l := l2) (n5 := foldK f g k) (n9 := he.lo + k) (n10 := f k) (bd := min he.hi left - he.lo + 1) (hh := he) hC.call hk hC.fns (by omega) (by omega) hb2 rfl)) ?_
        rintro s' h ⟨rfl, rfl⟩
        rw [eg, ← hf1]
        repeat (first | refine awp_region_lit rfl ?_ | (show AWL _ _ _ (⟨_, .move _, _, _, _, _⟩ :: _) _ _ _; refine awl_pw (wt_none rfl) (pv_move rfl rfl) rfl rfl ?_) | (show AWL _ _ _ (⟨_, .binOp .add _ _ _ _, _, _, _, _⟩ :: _) _ _ _; refine awl_pw (wt_none rfl) (pv_add rfl rfl rfl (by first | assumption | exact wr64 (by omega))) rfl rfl ?_) | refine awl_nil ?_)
        refine rnd_n _ _ _ ?_ ⟨k + 1, l2, hkt, rfl, hk2, rfl, rfl⟩ ssA rcA
        omega
end Go.Proofs.Ytlpknbneilgjkaa.C
end
section
namespace Go.Proofs.Ytlpknbneilgjkaa.C
open Go Go.RowKit Go.Tl
set_option linter.unusedVariables false
set_option linter.unusedSimpArgs false
set_option maxRecDepth 100000
set_option maxHeartbeats 4000000
attribute [local irreducible] AWP AWL AOp PV LV AWT AWE
section
variable {g1 g2 : Nat} {cp cc : Bool} {m : MktD} {lo hi x : Int}
theorem wn_1 (hv : VMkt m) (hlo : leastV shortF m 0 m.ex = lo) {ops : Array Oper} (h : regF Try.f156 1 = some ops) :
    AWP Try.prog Try.f156.ntmps none (.region 1 ops true) (cutQ (fun s h => s = [(4, intA lo), (1, .v (ptrV g1)), (2, .v (ptrV g2))] ∧ h = [.cl g1 191 [intA m.ex, .t (housT cp m.hou), .t (consT cc m.con)], .cl g2 184 [intA 0, intA 0]]))
      [(1, .v (ptrV g1)), (2, .v (ptrV g2))] [.cl g1 191 [intA m.ex, .t (housT cp m.hou), .t (consT cc m.con)], .cl g2 184 [intA 0, intA 0]] := by
  cases h
  subst hlo
  have hex := hv.ex
  refine awp_tree T0 [(0, 1), (1, 0), (3, 0), (4, 1), (5, 0), (2, 2), (6, 3), (7, 0)] (.op 0 1 (.op 1 0 (.op 3 0 (.op 4 1 (.op 5 0 (.op 2 2 (.op 6 3 (.op 7 0 .stop)))))))) [.cl g1 _ _] rfl (by kernel_rfl) rcA ?_
  refine awt_lo rfl (wt_none rfl) (lv_cla T0 rfl rfl rfl rcA rfl) rfl rfl rfl ?_
  refine awt_po rfl (wt_none rfl) (pv_build T0 rfl rfl rfl scA (by first | ((repeat' (first | exact BParts.nil | apply BParts.cons | rfl)); all_goals fail) | fail) (by first | ((repeat' (first | exact FillA.nil | exact Sp.done | apply FillA.cons | apply Sp.put | apply Sp.skip | (simp only [cellsA]; rfl) | rfl)); all_goals fail) | fail)) rfl rfl ?_
  refine awt_po rfl (wt_none rfl) (pv_fa T0 rfl rfl rfl (by simp; rfl)) rfl rfl ?_
  refine awt_lo rfl (wt_none rfl) (lv_cl1 T0 rfl rfl rfl rcA raA) rfl rfl rfl ?_
  refine awt_po rfl (wt_none rfl) (pv_build T0 rfl rfl rfl scA (by first | ((repeat' (first | exact BParts.nil | apply BParts.cons | rfl)); all_goals fail) | fail) (by first | ((repeat' (first | exact FillA.nil | exact Sp.done | apply FillA.cons | apply Sp.put | apply Sp.skip | (simp only [cellsA]; rfl) | rfl)); all_goals fail) | fail)) rfl rfl ?_
  refine awt_h (hm := _) rfl (wt_none rfl) ?sub rfl (st_acall T0 (work_o cp cc m 199 hv) rfl rfl rfl rfl (by first | exact callee_lit | exact callee_v | exact callee_fn | assumption) rcA raA rfl (by first | ((repeat' (first | exact SubH.refl _ | apply SubH.cons | exact Pick.here | apply Pick.there)); all_goals fail) | fail) (fun b hb => hb) ?_)
  case sub => exact rcA
  rintro r h' ⟨gw, gm, rfl, rfl⟩
  refine awt_s (md := fun _ => True) rfl (wt_none rfl) (st_acall T0 (least_o gw gm cp cc m hv lack_short (short_ok hv) m.hou.length 0 m.ex [] (by omega) (by omega) (kn_nil _ _)) rfl rfl rfl rfl (by first | exact callee_lit | exact callee_v | exact callee_fn | assumption) rcA raA rfl (by first | ((repeat' (first | exact SubH.refl _ | apply SubH.cons | exact Pick.here | apply Pick.there)); all_goals fail) | fail) (fun _ _ => trivial) ?_)
  rintro r h' ⟨rfl, l', hk', rfl⟩
  refine awe_p rfl (wt_none rfl) (pv_assign rfl rfl) rfl rfl ?_
  refine awe_end ?_
  exact cut_n ⟨rfl, rfl⟩ ssA rcA
theorem wn_4 (hv : VMkt m) (hx : -12000 ≤ leastV surF m 0 m.ex ∧ leastV surF m 0 m.ex ≤ 12000) {ops : Array Oper} (h : regF Try.f156 4 = some ops) :
    AWP Try.prog Try.f156.ntmps none (.region 4 ops true) (cutQ (fun s h => s = [(3, boolA true), (2, .v (ptrV g2))] ∧ h = [.cl g2 184 [intA lo, intA (0 - leastV surF m 0 m.ex)]]))
      [(4, intA lo), (1, .v (ptrV g1)), (2, .v (ptrV g2))] [.cl g1 191 [intA m.ex, .t (housT cp m.hou), .t (consT cc m.con)], .cl g2 184 [intA 0, intA 0]] := by
  cases h
  have hex := hv.ex
  refine awp_tree T0 [(0, 0), (1, 1), (2, 0), (4, 0), (5, 1), (6, 0), (3, 2), (7, 3), (8, 0), (9, 0), (10, 3), (11, 0)] (.op 0 0 (.op 1 1 (.op 2 0 (.op 4 0 (.op 5 1 (.op 6 0 (.op 3 2 (.op 7 3 (.op 8 0 (.op 9 0 (.op 10 3 (.op 11 0 .stop)))))))))))) [.cl g1 _ _] rfl (by kernel_rfl) rcA ?_
  refine awt_po rfl (wt_none rfl) (pv_move rfl rfl) rfl rfl ?_
  refine awt_lo rfl (wt_none rfl) (lv_cla T0 rfl rfl rfl rcA rfl) rfl rfl rfl ?_
  refine awt_po rfl (wt_none rfl) (pv_build T0 rfl rfl rfl scA (by first | ((repeat' (first | exact BParts.nil | apply BParts.cons | rfl)); all_goals fail) | fail) (by first | ((repeat' (first | exact FillA.nil | exact Sp.done | apply FillA.cons | apply Sp.put | apply Sp.skip | (simp only [cellsA]; rfl) | rfl)); all_goals fail) | fail)) rfl rfl ?_
  refine awt_po rfl (wt_none rfl) (pv_fa T0 rfl rfl rfl (by simp; rfl)) rfl rfl ?_
  refine awt_lo rfl (wt_none rfl) (lv_cl1 T0 rfl rfl rfl rcA raA) rfl rfl rfl ?_
  refine awt_po rfl (wt_none rfl) (pv_build T0 rfl rfl rfl scA (by first | ((repeat' (first | exact BParts.nil | apply BParts.cons | rfl)); all_goals fail) | fail) (by first | ((repeat' (first | exact FillA.nil | exact Sp.done | apply FillA.cons | apply Sp.put | apply Sp.skip | (simp only [cellsA]; rfl) | rfl)); all_goals fail) | fail)) rfl rfl ?_
  refine awt_h (hm := _) rfl (wt_none rfl) ?sub rfl (st_acall T0 (work_o cp cc m 201 hv) rfl rfl rfl rfl (by first | exact callee_lit | exact callee_v | exact callee_fn | assumption) rcA raA rfl (by first | ((repeat' (first | exact SubH.refl _ | apply SubH.cons | exact Pick.here | apply Pick.there)); all_goals fail) | fail) (fun b hb => hb) ?_)
  case sub => exact rcA
  rintro r h' ⟨gw, gm, rfl, rfl⟩
  refine awt_s (md := fun _ => True) rfl (wt_none rfl) (st_acall T0 (least_o gw gm cp cc m hv lack_sur (sur_ok hv) m.hou.length 0 m.ex [] (by omega) (by omega) (kn_nil _ _)) rfl rfl rfl rfl (by first | exact callee_lit | exact callee_v | exact callee_fn | assumption) rcA raA rfl (by first | ((repeat' (first | exact SubH.refl _ | apply SubH.cons | exact Pick.here | apply Pick.there)); all_goals fail) | fail) (fun _ _ => trivial) ?_)
  rintro r h' ⟨rfl, l', hk', rfl⟩
  refine awe_p rfl (wt_none rfl) (pv_neg rfl rfl (wr64 (by omega))) rfl rfl ?_
  first
    | refine awe_p rfl (wt_none rfl) (pv_build T0 rfl rfl rfl scA (by first | ((repeat' (first | exact BParts.nil | apply BParts.cons | rfl)); all_goals fail) | fail) (by first | ((repeat' (first | exact FillA.nil | exact Sp.done | apply FillA.cons | apply Sp.put | apply Sp.skip | (simp only [cellsA]; rfl) | rfl)); all_goals fail) | fail)) rfl rfl ?_
    | refine awe_p rfl (wt_none rfl) (pv_build_arr T0 rfl rfl rfl scA (by first | ((repeat' (first | exact BParts.nil | apply BParts.cons | rfl)); all_goals fail) | fail) (by first | ((repeat' (first | exact FillA.nil | exact Sp.done | apply FillA.cons | apply Sp.put | apply Sp.skip | (simp only [cellsA]; rfl) | rfl)); all_goals fail) | fail)) rfl rfl ?_
  refine awe_s (md := fun _ => True) rfl (wt_none rfl) (st_store T0 rfl rfl rfl rfl rfl (by first | assumption | (simp only [cellsA]; rfl)) rfl rfl rfl rcA rcA trivial ?_)
  refine awe_p rfl (wt_none rfl) (pv_assign rfl rfl) rfl rfl ?_
  refine awe_end ?_
  exact cut_n ⟨rfl, rfl⟩ ssA rcA
end
def hasB (m : MktD) : Bool := !decide (lowN m = never)
def bndN (m : MktD) : Int × Int := if lowN m = never then (0, 0) else (lowN m, highN m)
theorem low0 (m : MktD) : leastV shortF m 0 m.ex = lowN m := by unfold leastV; rw [List.drop_zero]
theorem high0 (m : MktD) : 0 - leastV surF m 0 m.ex = highN m := by unfold leastV highN; rw [List.drop_zero, Int.zero_sub]
theorem high_bd {m : MktD} (hv : VMkt m) (h : lowN m ≠ never) : -12000 ≤ highN m ∧ highN m ≤ 12000 := by
  obtain ⟨t, h1, h2⟩ := high_at hv h
  have h3 : lackS shortF (owedN m) m.hou 0 t = highN m := h2
  have := lack_bd (short_ok hv) 0 (hs_ok hv) (truth_fit.1 h1)
  have := hv.len
  omega
theorem shortage_p (cp cc : Bool) (m : MktD) (hv : VMkt m) : PCall Try.prog 156 [mktA cp cc m] (fun r => r = .tup [.ag [intA (bndN m).1, intA (bndN m).2], boolA (hasB m)]) := by
  refine acall_of_awp T0 Try.func156 rfl rfl rfl ?_
  unfold bndN hasB
  repeat (first | refine awp_seq ?_ | refine awp_region_lit rfl ?_)
  refine awl_hw (wt_none rfl) (st_box rfl rfl raA (by first | assumption | (simp only [cellsA]; rfl)) rfl rfl ?_)
  intro g1
  skip
  refine awl_hw (wt_none rfl) (st_alloc T0 rfl rfl rfl rfl scA ?_)
  intro g2
  repeat (first | refine awp_seq ?_ | (show AWL _ _ _ (⟨_, .assign _, _, _, _, _⟩ :: _) _ _ _; refine awl_pw (wt_none rfl) (pv_assign rfl rfl) rfl rfl ?_) | refine awl_nil ?_)
  refine awp_cut _ (awp_weak ssA rcA (wn_1 (g1 := g1) (g2 := g2) (cp := cp) (cc := cc) hv (low0 m) rfl)) ?_
  rintro s h ⟨rfl, rfl⟩
  by_cases e : lowN m = never
  · have d1 := decide_eq_true e
    rw [if_pos e, d1]
    repeat (first | refine awp_seq ?_ | refine awp_region_lit rfl ?_ | refine awp_ret ?_ | with_reducible refine then_n ?_ | with_reducible refine then_r ?_ | refine awp_cond_t rfl (by first | rfl | assumption | exact dT (by omega)) ?_ | (show AWL _ _ _ (⟨_, .move _, _, _, _, _⟩ :: _) _ _ _; refine awl_pw (wt_none rfl) (pv_move rfl rfl) rfl rfl ?_) | (show AWL _ _ _ (⟨_, .assign _, _, _, _, _⟩ :: _) _ _ _; refine awl_pw (wt_none rfl) (pv_assign rfl rfl) rfl rfl ?_) | (show AWL _ _ _ (⟨_, .build _ _, _, _, _, _⟩ :: _) _ _ _; refine awl_pw (wt_none rfl) (pv_build T0 rfl rfl rfl scA (by first | ((repeat' (first | exact BParts.nil | apply BParts.cons | rfl)); all_goals fail) | fail) (by first | ((repeat' (first | exact FillA.nil | exact Sp.done | apply FillA.cons | apply Sp.put | apply Sp.skip | (simp only [cellsA]; rfl) | rfl)); all_goals fail) | fail)) rfl rfl ?_) | (show AWL _ _ _ (⟨_, .binOp .eql _ _ _ _, _, _, _, _⟩ :: _) _ _ _; refine awl_pw (wt_none rfl) (pv_eql rfl rfl rfl) rfl rfl ?_) | (show AWL _ _ _ (⟨_, .store _ _ _, _, _, _, _⟩ :: _) _ _ _; refine awl_hw (wt_none rfl) (st_store T0 rfl rfl rfl rfl rfl (by first | assumption | (simp only [cellsA]; rfl)) rfl rfl rfl rcA rcA trivial ?_)) | refine awl_nil ?_)
    refine body_p (res_cell rfl rfl rcA rfl rfl rfl (.cons rfl .nil)) ?_
    rfl
  · have d1 := decide_eq_false e
    rw [if_neg e, d1]
    have hb := high_bd hv e
    rw [← high0] at hb
    repeat (first | refine awp_seq ?_ | refine awp_region_lit rfl ?_ | refine awp_skip ?_ | with_reducible refine then_n ?_ | refine awp_cond_f rfl (by first | rfl | assumption | exact dF (by omega)) ?_ | (show AWL _ _ _ (⟨_, .move _, _, _, _, _⟩ :: _) _ _ _; refine awl_pw (wt_none rfl) (pv_move rfl rfl) rfl rfl ?_) | (show AWL _ _ _ (⟨_, .binOp .eql _ _ _ _, _, _, _, _⟩ :: _) _ _ _; refine awl_pw (wt_none rfl) (pv_eql rfl rfl rfl) rfl rfl ?_) | refine awl_nil ?_)
    refine awp_cut _ (awp_weak ssA rcA (wn_4 (g1 := g1) (g2 := g2) (cp := cp) (cc := cc) (lo := lowN m) hv (by omega) rfl)) ?_
    rintro s h ⟨rfl, rfl⟩
    rw [high0]
    repeat (first | refine awp_ret ?_)
    refine body_p (res_cell rfl rfl rcA rfl rfl rfl (.cons rfl .nil)) ?_
    rfl
def askedR (m : MktD) : (Int × Int) × Int := if faultN m ≠ 0 then ((0, 0), faultN m) else if hasB m = true then (bndN m, 0) else ((0, 0), 9)
theorem asked_p (cp cc : Bool) (m : MktD) (hl : m.hou.length ≤ 1000) (hc : m.con.length ≤ 1000) : PCall Try.prog 108 [mktA cp cc m] (fun r => r = .tup [.ag [intA (askedR m).1.1, intA (askedR m).1.2], intA (askedR m).2]) := by
  refine acall_of_awp T0 Try.func108 rfl rfl rfl ?_
  by_cases hf : faultN m = 0
  case neg =>
    have d1 := decide_eq_true hf
    have hR : askedR m = ((0, 0), faultN m) := by unfold askedR; rw [if_pos hf]
    rw [hR]
    repeat (first | refine awp_seq ?_ | refine awp_region_lit rfl ?_)
    refine awl_hw (wt_none rfl) (st_box rfl rfl raA (by first | assumption | (simp only [cellsA]; rfl)) rfl rfl ?_)
    intro g1
    skip
    refine awl_hw (wt_none rfl) (st_alloc T0 rfl rfl rfl rfl scA ?_)
    intro g2
    repeat (first | refine awp_seq ?_ | refine awp_region_lit rfl ?_ | (show AWL _ _ _ (⟨_, .assign _, _, _, _, _⟩ :: _) _ _ _; refine awl_pw (wt_none rfl) (pv_assign rfl rfl) rfl rfl ?_) | (show AWL _ _ _ (⟨_, .load _ _, _, _, _, _⟩ :: _) _ _ _; refine awl_lw (wt_none rfl) (lv_cla T0 rfl rfl rfl rcA rfl) rfl rfl rfl ?_) | refine awl_nil ?_)
    refine awl_hw (wt_none rfl) (st_call T0 (check_p cp cc m hl hc) rfl rfl rfl rfl (by first | exact callee_lit | exact callee_v | exact callee_fn | assumption) rcA raA rfl ?_)
    rintro _ rfl
    repeat (first | refine awp_seq ?_ | refine awp_region_lit rfl ?_ | refine awp_ret ?_ | with_reducible refine then_n ?_ | with_reducible refine then_r ?_ | refine awp_cond_t rfl (by first | rfl | assumption | exact dT (by omega)) ?_ | (show AWL _ _ _ (⟨_, .move _, _, _, _, _⟩ :: _) _ _ _; refine awl_pw (wt_none rfl) (pv_move rfl rfl) rfl rfl ?_) | (show AWL _ _ _ (⟨_, .assign _, _, _, _, _⟩ :: _) _ _ _; refine awl_pw (wt_none rfl) (pv_assign rfl rfl) rfl rfl ?_) | (show AWL _ _ _ (⟨_, .build _ _, _, _, _, _⟩ :: _) _ _ _; refine awl_pw (wt_none rfl) (pv_build T0 rfl rfl rfl scA (by first | ((repeat' (first | exact BParts.nil | apply BParts.cons | rfl)); all_goals fail) | fail) (by first | ((repeat' (first | exact FillA.nil | exact Sp.done | apply FillA.cons | apply Sp.put | apply Sp.skip | (simp only [cellsA]; rfl) | rfl)); all_goals fail) | fail)) rfl rfl ?_) | (show AWL _ _ _ (⟨_, .binOp .neq _ _ _ _, _, _, _, _⟩ :: _) _ _ _; refine awl_pw (wt_none rfl) (pv_neq rfl rfl rfl) rfl rfl ?_) | (show AWL _ _ _ (⟨_, .store _ _ _, _, _, _, _⟩ :: _) _ _ _; refine awl_hw (wt_none rfl) (st_store T0 rfl rfl rfl rfl rfl (by first | assumption | (simp only [cellsA]; rfl)) rfl rfl rfl rcA rcA trivial ?_)) | refine awl_nil ?_)
    refine body_p (res_cell rfl rfl rcA rfl rfl rfl (.cons rfl .nil)) ?_
    rfl
  have d1 : decide (faultN m ≠ 0) = false := decide_eq_false (fun h => h hf)
  have hv := vmkt hf
  cases e : hasB m
  · have hR : askedR m = ((0, 0), 9) := by unfold askedR; rw [if_neg (fun h => h hf), if_neg (by rw [e]; simp)]
    rw [hR]
    repeat (first | refine awp_seq ?_ | refine awp_region_lit rfl ?_)
    refine awl_hw (wt_none rfl) (st_box rfl rfl raA (by first | assumption | (simp only [cellsA]; rfl)) rfl rfl ?_)
    intro g1
    skip
    refine awl_hw (wt_none rfl) (st_alloc T0 rfl rfl rfl rfl scA ?_)
    intro g2
    repeat (first | refine awp_seq ?_ | refine awp_region_lit rfl ?_ | (show AWL _ _ _ (⟨_, .assign _, _, _, _, _⟩ :: _) _ _ _; refine awl_pw (wt_none rfl) (pv_assign rfl rfl) rfl rfl ?_) | (show AWL _ _ _ (⟨_, .load _ _, _, _, _, _⟩ :: _) _ _ _; refine awl_lw (wt_none rfl) (lv_cla T0 rfl rfl rfl rcA rfl) rfl rfl rfl ?_) | refine awl_nil ?_)
    refine awl_hw (wt_none rfl) (st_call T0 (check_p cp cc m hl hc) rfl rfl rfl rfl (by first | exact callee_lit | exact callee_v | exact callee_fn | assumption) rcA raA rfl ?_)
    rintro _ rfl
    repeat (first | refine awp_seq ?_ | refine awp_region_lit rfl ?_ | refine awp_skip ?_ | with_reducible refine then_n ?_ | refine awp_cond_f rfl (by first | rfl | assumption | exact dF (by omega)) ?_ | (show AWL _ _ _ (⟨_, .move _, _, _, _, _⟩ :: _) _ _ _; refine awl_pw (wt_none rfl) (pv_move rfl rfl) rfl rfl ?_) | (show AWL _ _ _ (⟨_, .assign _, _, _, _, _⟩ :: _) _ _ _; refine awl_pw (wt_none rfl) (pv_assign rfl rfl) rfl rfl ?_) | (show AWL _ _ _ (⟨_, .load _ _, _, _, _, _⟩ :: _) _ _ _; refine awl_lw (wt_none rfl) (lv_cla T0 rfl rfl rfl rcA rfl) rfl rfl rfl ?_) | (show AWL _ _ _ (⟨_, .binOp .neq _ _ _ _, _, _, _, _⟩ :: _) _ _ _; refine awl_pw (wt_none rfl) (pv_neq rfl rfl rfl) rfl rfl ?_) | refine awl_nil ?_)
    refine awl_hw (wt_none rfl) (st_call T0 (shortage_p cp cc m hv) rfl rfl rfl rfl (by first | exact callee_lit | exact callee_v | exact callee_fn | assumption) rcA raA rfl ?_)
    rintro _ rfl
    rw [e]
    repeat (first | (show AWL _ _ _ (⟨_, .move _, _, _, _, _⟩ :: _) _ _ _; refine awl_pw (wt_none rfl) (pv_move rfl rfl) rfl rfl ?_) | (show AWL _ _ _ (⟨_, .extract _ _, _, _, _, _⟩ :: _) _ _ _; refine awl_pw (wt_none rfl) (pv_extract rfl rfl rfl) rfl rfl ?_))
    refine awl_hw (wt_none rfl) (st_alloc T0 rfl rfl rfl rfl scA ?_)
    intro g5
    repeat (first | refine awp_seq ?_ | refine awp_region_lit rfl ?_ | refine awp_ret ?_ | with_reducible refine then_n ?_ | with_reducible refine then_r ?_ | refine awp_cond_t rfl (by first | rfl | assumption | exact dT (by omega)) ?_ | (show AWL _ _ _ (⟨_, .move _, _, _, _, _⟩ :: _) _ _ _; refine awl_pw (wt_none rfl) (pv_move rfl rfl) rfl rfl ?_) | (show AWL _ _ _ (⟨_, .assign _, _, _, _, _⟩ :: _) _ _ _; refine awl_pw (wt_none rfl) (pv_assign rfl rfl) rfl rfl ?_) | (show AWL _ _ _ (⟨_, .build _ _, _, _, _, _⟩ :: _) _ _ _; refine awl_pw (wt_none rfl) (pv_build T0 rfl rfl rfl scA (by first | ((repeat' (first | exact BParts.nil | apply BParts.cons | rfl)); all_goals fail) | fail) (by first | ((repeat' (first | exact FillA.nil | exact Sp.done | apply FillA.cons | apply Sp.put | apply Sp.skip | (simp only [cellsA]; rfl) | rfl)); all_goals fail) | fail)) rfl rfl ?_) | (show AWL _ _ _ (⟨_, .unOp .not _ _, _, _, _, _⟩ :: _) _ _ _; refine awl_pw (wt_none rfl) (pv_not rfl rfl) rfl rfl ?_) | (show AWL _ _ _ (⟨_, .store _ _ _, _, _, _, _⟩ :: _) _ _ _; refine awl_hw (wt_none rfl) (st_store T0 rfl rfl rfl rfl rfl (by first | assumption | (simp only [cellsA]; rfl)) rfl rfl rfl rcA rcA trivial ?_)) | refine awl_nil ?_)
    refine body_p (res_cell rfl rfl rcA rfl rfl rfl (.cons rfl .nil)) ?_
    rfl
  · have hR : askedR m = (bndN m, 0) := by unfold askedR; rw [if_neg (fun h => h hf), if_pos e]
    rw [hR]
    repeat (first | refine awp_seq ?_ | refine awp_region_lit rfl ?_)
    refine awl_hw (wt_none rfl) (st_box rfl rfl raA (by first | assumption | (simp only [cellsA]; rfl)) rfl rfl ?_)
    intro g1
    skip
    refine awl_hw (wt_none rfl) (st_alloc T0 rfl rfl rfl rfl scA ?_)
    intro g2
    repeat (first | refine awp_seq ?_ | refine awp_region_lit rfl ?_ | (show AWL _ _ _ (⟨_, .assign _, _, _, _, _⟩ :: _) _ _ _; refine awl_pw (wt_none rfl) (pv_assign rfl rfl) rfl rfl ?_) | (show AWL _ _ _ (⟨_, .load _ _, _, _, _, _⟩ :: _) _ _ _; refine awl_lw (wt_none rfl) (lv_cla T0 rfl rfl rfl rcA rfl) rfl rfl rfl ?_) | refine awl_nil ?_)
    refine awl_hw (wt_none rfl) (st_call T0 (check_p cp cc m hl hc) rfl rfl rfl rfl (by first | exact callee_lit | exact callee_v | exact callee_fn | assumption) rcA raA rfl ?_)
    rintro _ rfl
    repeat (first | refine awp_seq ?_ | refine awp_region_lit rfl ?_ | refine awp_skip ?_ | with_reducible refine then_n ?_ | refine awp_cond_f rfl (by first | rfl | assumption | exact dF (by omega)) ?_ | (show AWL _ _ _ (⟨_, .move _, _, _, _, _⟩ :: _) _ _ _; refine awl_pw (wt_none rfl) (pv_move rfl rfl) rfl rfl ?_) | (show AWL _ _ _ (⟨_, .assign _, _, _, _, _⟩ :: _) _ _ _; refine awl_pw (wt_none rfl) (pv_assign rfl rfl) rfl rfl ?_) | (show AWL _ _ _ (⟨_, .load _ _, _, _, _, _⟩ :: _) _ _ _; refine awl_lw (wt_none rfl) (lv_cla T0 rfl rfl rfl rcA rfl) rfl rfl rfl ?_) | (show AWL _ _ _ (⟨_, .binOp .neq _ _ _ _, _, _, _, _⟩ :: _) _ _ _; refine awl_pw (wt_none rfl) (pv_neq rfl rfl rfl) rfl rfl ?_) | refine awl_nil ?_)
    refine awl_hw (wt_none rfl) (st_call T0 (shortage_p cp cc m hv) rfl rfl rfl rfl (by first | exact callee_lit | exact callee_v | exact callee_fn | assumption) rcA raA rfl ?_)
    rintro _ rfl
    rw [e]
    repeat (first | (show AWL _ _ _ (⟨_, .move _, _, _, _, _⟩ :: _) _ _ _; refine awl_pw (wt_none rfl) (pv_move rfl rfl) rfl rfl ?_) | (show AWL _ _ _ (⟨_, .extract _ _, _, _, _, _⟩ :: _) _ _ _; refine awl_pw (wt_none rfl) (pv_extract rfl rfl rfl) rfl rfl ?_))
    refine awl_hw (wt_none rfl) (st_alloc T0 rfl rfl rfl rfl scA ?_)
    intro g5
    repeat (first | refine awp_seq ?_ | refine awp_region_lit rfl ?_ | refine awp_skip ?_ | refine awp_ret ?_ | with_reducible refine then_n ?_ | refine awp_cond_f rfl (by first | rfl | assumption | exact dF (by omega)) ?_ | (show AWL _ _ _ (⟨_, .move _, _, _, _, _⟩ :: _) _ _ _; refine awl_pw (wt_none rfl) (pv_move rfl rfl) rfl rfl ?_) | (show AWL _ _ _ (⟨_, .assign _, _, _, _, _⟩ :: _) _ _ _; refine awl_pw (wt_none rfl) (pv_assign rfl rfl) rfl rfl ?_) | (show AWL _ _ _ (⟨_, .load _ _, _, _, _, _⟩ :: _) _ _ _; refine awl_lw (wt_none rfl) (lv_cla T0 rfl rfl rfl rcA rfl) rfl rfl rfl ?_) | (show AWL _ _ _ (⟨_, .unOp .not _ _, _, _, _, _⟩ :: _) _ _ _; refine awl_pw (wt_none rfl) (pv_not rfl rfl) rfl rfl ?_) | (show AWL _ _ _ (⟨_, .store _ _ _, _, _, _, _⟩ :: _) _ _ _; refine awl_hw (wt_none rfl) (st_store T0 rfl rfl rfl rfl rfl (by first | assumption | (simp only [cellsA]; rfl)) rfl rfl rfl rcA rcA trivial ?_)) | refine awl_nil ?_)
    refine body_p (res_cell rfl rfl rcA rfl rfl rfl (.cons rfl .nil)) ?_
    rfl
theorem Shortage_p (cp cc : Bool) (m : MktD) (hl : m.hou.length ≤ 1000) (hc : m.con.length ≤ 1000) : PCall Try.prog 70 [mktA cp cc m] (fun r => r = .tup [.ag [intA (askedR m).1.1, intA (askedR m).1.2], intA (askedR m).2]) := by
  refine acall_of_awp T0 Try.func70 rfl rfl rfl ?_
  repeat (first | refine awp_seq ?_ | refine awp_region_lit rfl ?_)
  refine awl_hw (wt_none rfl) (st_box rfl rfl raA (by first | assumption | (simp only [cellsA]; rfl)) rfl rfl ?_)
  intro g1
  skip
  refine awl_hw (wt_none rfl) (st_alloc T0 rfl rfl rfl rfl scA ?_)
  intro g2
  repeat (first | refine awp_seq ?_ | refine awp_region_lit rfl ?_ | (show AWL _ _ _ (⟨_, .assign _, _, _, _, _⟩ :: _) _ _ _; refine awl_pw (wt_none rfl) (pv_assign rfl rfl) rfl rfl ?_) | (show AWL _ _ _ (⟨_, .load _ _, _, _, _, _⟩ :: _) _ _ _; refine awl_lw (wt_none rfl) (lv_cla T0 rfl rfl rfl rcA rfl) rfl rfl rfl ?_) | refine awl_nil ?_)
  refine awl_hw (wt_none rfl) (st_call T0 (asked_p cp cc m hl hc) rfl rfl rfl rfl (by first | exact callee_lit | exact callee_v | exact callee_fn | assumption) rcA raA rfl ?_)
  rintro _ rfl
  repeat (first | refine awp_ret ?_ | (show AWL _ _ _ (⟨_, .assign _, _, _, _, _⟩ :: _) _ _ _; refine awl_pw (wt_none rfl) (pv_assign rfl rfl) rfl rfl ?_) | (show AWL _ _ _ (⟨_, .extract _ _, _, _, _, _⟩ :: _) _ _ _; refine awl_pw (wt_none rfl) (pv_extract rfl rfl rfl) rfl rfl ?_) | (show AWL _ _ _ (⟨_, .store _ _ _, _, _, _, _⟩ :: _) _ _ _; refine awl_hw (wt_none rfl) (st_store T0 rfl rfl rfl rfl rfl (by first | assumption | (simp only [cellsA]; rfl)) rfl rfl rfl rcA rcA trivial ?_)) | refine awl_nil ?_)
  refine body_p (res_cell rfl rfl rcA rfl rfl rfl (.cons rfl .nil)) ?_
  rfl
end Go.Proofs.Ytlpknbneilgjkaa.C
end
