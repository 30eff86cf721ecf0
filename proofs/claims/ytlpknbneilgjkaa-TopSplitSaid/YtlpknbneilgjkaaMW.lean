/- margin: debts, calls, Bounds (Try.func51, 52, 18): walks. -/
import Derived.Test.YtlpknbneilgjkaaMV
import Derived.Test.YtlpknbneilgjkaaGTy
import Derived.Test.YtlpknbneilgjkaaGTs
import Derived.Test.YtlpknbneilgjkaaGPa
namespace Go.Proofs.Ytlpknbneilgjkaa.M
open Go Go.RowKit Go.Tl
set_option linter.unusedVariables false
set_option linter.unusedSimpArgs false
set_option maxRecDepth 100000
set_option maxHeartbeats 4000000
theorem acall_weakQ {P : Program} {f : Nat} {args : List AV} {hc : List Ent} {Q Q' : AV → List Ent → Prop} (C : ACall P f args hc Q) (H : ∀ r h', Q r h' → Q' r h') : ACall P f args hc Q' := fun w S vs h1 h2 h3 =>
  (C w S vs h1 h2 h3).mono fun e w' ⟨v', S', r, h', e1, hq, rest⟩ => ⟨v', S', r, h', e1, H _ _ hq, rest⟩
attribute [local irreducible] AWP AWL AOp PV LV AWT AWE
theorem endst_o (b : BankD) (hv : Valid b) (hi last : Bool) (i n : Nat) (hn : n < b.days.length) (hi' : i < b.loans.length) (g gm : Nat) :
    ACall Try.prog 47 [.v (.pointer (some ⟨g, 0, none⟩)), .ag [intA i, intA n]] (workH g gm true b (endPs b hi last n) (endRs b hi n) []) (fun r h' => r = .ag [intA (endSt b hi last i n).before, intA (endSt b hi last i n).value, intA (endSt b hi last i n).call] ∧ ∃ l', h' = workH g gm true b (endPs b hi last n) (endRs b hi n) l') := by
  have h1 := hv.days
  have h2 := hv.loans
  have h3 := (hv.loan i hi').2
  have h4 := hv.st
  have hS := state_p g gm true b (endPs b hi last n) (endRs b hi n) i hi' (by omega) (by simp [endPs]; omega) (by simp [endRs]; omega) (hv.loan i hi').1 (ends_small hv hi last n hn) (ends_len hv hi last n i hn hi') (by omega) n (by simp [endPs]) (by simp [endRs]) (by omega) [] KnownL.nil
  exact acall_weakQ hS fun r h' ⟨e, l', _, e2⟩ => ⟨e, l', e2⟩
section
variable {g2 g3 g4 g5 g6 i n : Nat} {b : BankD}
theorem mw_d (hv : Valid b) (hn : n < b.days.length) (hi' : i < b.loans.length) {ops : Array Oper} (h : regF Try.f51 2 = some ops) :
    AWP Try.prog Try.f51.ntmps none (.region 2 ops true) (cutQ (fun s h => s = [(4, .v (ptrV g4))] ∧ h = [.cl g4 77 [intA (debtsN b i n).lo, intA (debtsN b i n).hi]]))
      [(2, .v (ptrV g2)), (3, .v (ptrV g3)), (4, .v (ptrV g4)), (5, .v (ptrV g5)), (6, .v (ptrV g6))] [.cl g2 69 [intA b.stocks, .t (daysT true b.days), .t (loansT false b.loans)], .cl g3 160 [intA i, intA n], .cl g4 77 [intA 0, intA 0], .cl g5 224 [.v (selV false)], .cl g6 224 [.v (selV true)]] := by
  cases h
  have b1 := endSt_bd hv false false i n hn hi'
  have b2 := endSt_bd hv true true i n hn hi'
  have a1 : PCall Try.prog 48 [.ag [intA (endSt b false false i n).before, intA (endSt b false false i n).value, intA (endSt b false false i n).call]] (fun r => r = intA (endSt b false false i n).after) := after_p (endSt b false false i n) (by omega) (by omega)
  have a2 : PCall Try.prog 48 [.ag [intA (endSt b true true i n).before, intA (endSt b true true i n).value, intA (endSt b true true i n).call]] (fun r => r = intA (endSt b true true i n).after) := after_p (endSt b true true i n) (by omega) (by omega)
  have s1 := endst_o b hv false false i n hn hi'
  have s2 := endst_o b hv true true i n hn hi'
  have w1 := ends_o b hv false false n hn
  have w2 := ends_o b hv true true n hn
  refine awp_tree T0 [(0, 1), (1, 1), (2, 1), (3, 0), (4, 1), (6, 1), (9, 1), (10, 1), (11, 1), (12, 0), (13, 1), (15, 1), (5, 2), (7, 2), (8, 2), (14, 2), (16, 3), (17, 3), (18, 0), (19, 3)] (.op 0 1 (.op 1 1 (.op 2 1 (.op 3 0 (.op 4 1 (.op 6 1 (.op 9 1 (.op 10 1 (.op 11 1 (.op 12 0 (.op 13 1 (.op 15 1 (.op 5 2 (.op 7 2 (.op 8 2 (.op 14 2 (.op 16 3 (.op 17 3 (.op 18 0 (.op 19 3 .stop)))))))))))))))))))) [.cl g2 _ _, .cl g3 _ _, .cl g5 _ _, .cl g6 _ _] rfl (by kernel_rfl) rcA ?_
  refine awt_lo rfl (wt_none rfl) (lv_cla T0 rfl rfl rfl rcA rfl) rfl rfl rfl ?_
  refine awt_lo rfl (wt_none rfl) (lv_cla T0 rfl rfl rfl rcA rfl) rfl rfl rfl ?_
  refine awt_lo rfl (wt_none rfl) (lv_cla T0 rfl rfl rfl rcA rfl) rfl rfl rfl ?_
  refine awt_po rfl (wt_none rfl) (pv_fa T0 rfl rfl rfl (by simp; rfl)) rfl rfl ?_
  refine awt_lo rfl (wt_none rfl) (lv_cl1 T0 rfl rfl rfl rcA raA) rfl rfl rfl ?_
  refine awt_lo rfl (wt_none rfl) (lv_cla T0 rfl rfl rfl rcA rfl) rfl rfl rfl ?_
  refine awt_lo rfl (wt_none rfl) (lv_cla T0 rfl rfl rfl rcA rfl) rfl rfl rfl ?_
  refine awt_lo rfl (wt_none rfl) (lv_cla T0 rfl rfl rfl rcA rfl) rfl rfl rfl ?_
  refine awt_lo rfl (wt_none rfl) (lv_cla T0 rfl rfl rfl rcA rfl) rfl rfl rfl ?_
  refine awt_po rfl (wt_none rfl) (pv_fa T0 rfl rfl rfl (by simp; rfl)) rfl rfl ?_
  refine awt_lo rfl (wt_none rfl) (lv_cl1 T0 rfl rfl rfl rcA raA) rfl rfl rfl ?_
  refine awt_lo rfl (wt_none rfl) (lv_cla T0 rfl rfl rfl rcA rfl) rfl rfl rfl ?_
  refine awt_h (hm := _) rfl (wt_none rfl) ?sub rfl (st_acall T0 (w1) rfl rfl rfl rfl (by first | exact callee_lit | exact callee_v | exact callee_fn | assumption) rcA raA rfl (by first | ((repeat' (first | exact SubH.refl _ | apply SubH.cons | exact Pick.here | apply Pick.there)); all_goals fail) | fail) (fun b hb => hb) ?_)
  case sub => exact rcA
  rintro r h' ⟨gw1, gm1, rfl, rfl⟩
  refine awt_h (hm := _) rfl (wt_none rfl) ?sub rfl (st_acall T0 (s1 gw1 gm1) rfl rfl rfl rfl (by first | exact callee_lit | exact callee_v | exact callee_fn | assumption) rcA raA rfl (by first | ((repeat' (first | exact SubH.refl _ | apply SubH.cons | exact Pick.here | apply Pick.there)); all_goals fail) | fail) (fun b hb => hb) ?_)
  case sub => exact rcA
  rintro r h' ⟨rfl, l1, rfl⟩
  refine awt_h (hm := []) rfl (wt_none rfl) rcA rfl (st_call T0 (a1) rfl rfl rfl rfl (by first | exact callee_lit | exact callee_v | exact callee_fn | assumption) rcA raA rfl ?_)
  rintro _ rfl
  refine awt_h (hm := _) rfl (wt_none rfl) ?sub rfl (st_acall T0 (w2) rfl rfl rfl rfl (by first | exact callee_lit | exact callee_v | exact callee_fn | assumption) rcA raA rfl (by first | ((repeat' (first | exact SubH.refl _ | apply SubH.cons | exact Pick.here | apply Pick.there)); all_goals fail) | fail) (fun b hb => hb) ?_)
  case sub => exact rcA
  rintro r h' ⟨gw2, gm2, rfl, rfl⟩
  refine awt_s (md := fun _ => True) rfl (wt_none rfl) (st_acall T0 (s2 gw2 gm2) rfl rfl rfl rfl (by first | exact callee_lit | exact callee_v | exact callee_fn | assumption) rcA raA rfl (by first | ((repeat' (first | exact SubH.refl _ | apply SubH.cons | exact Pick.here | apply Pick.there)); all_goals fail) | fail) (fun _ _ => trivial) ?_)
  rintro r h' ⟨rfl, l2, rfl⟩
  refine awe_s (md := fun _ => True) rfl (wt_none rfl) (st_call T0 (a2) rfl rfl rfl rfl (by first | exact callee_lit | exact callee_v | exact callee_fn | assumption) rcA raA rfl ?_)
  rintro _ rfl
  first
    | refine awe_p rfl (wt_none rfl) (pv_build T0 rfl rfl rfl scA (by first | ((repeat' (first | exact BParts.nil | apply BParts.cons | rfl)); all_goals fail) | fail) (by first | ((repeat' (first | exact FillA.nil | exact Sp.done | apply FillA.cons | apply Sp.put | apply Sp.skip | (simp only [cellsA]; rfl) | rfl)); all_goals fail) | fail)) rfl rfl ?_
    | refine awe_p rfl (wt_none rfl) (pv_build_arr T0 rfl rfl rfl scA (by first | ((repeat' (first | exact BParts.nil | apply BParts.cons | rfl)); all_goals fail) | fail) (by first | ((repeat' (first | exact FillA.nil | exact Sp.done | apply FillA.cons | apply Sp.put | apply Sp.skip | (simp only [cellsA]; rfl) | rfl)); all_goals fail) | fail)) rfl rfl ?_
  refine awe_s (md := fun _ => True) rfl (wt_none rfl) (st_store T0 rfl rfl rfl rfl rfl (by first | assumption | (simp only [cellsA]; rfl)) rfl rfl rfl rcA rcA trivial ?_)
  refine awe_end ?_
  exact cut_n ⟨rfl, rfl⟩ ssA rcA
theorem mw_c (hv : Valid b) (hn : n < b.days.length) (hi' : i < b.loans.length) {ops : Array Oper} (h : regF Try.f52 2 = some ops) :
    AWP Try.prog Try.f52.ntmps none (.region 2 ops true) (cutQ (fun s h => s = [(4, .v (ptrV g4))] ∧ h = [.cl g4 77 [intA (callsN b i n).lo, intA (callsN b i n).hi]]))
      [(2, .v (ptrV g2)), (3, .v (ptrV g3)), (4, .v (ptrV g4)), (5, .v (ptrV g5)), (6, .v (ptrV g6))] [.cl g2 69 [intA b.stocks, .t (daysT true b.days), .t (loansT false b.loans)], .cl g3 160 [intA i, intA n], .cl g4 77 [intA 0, intA 0], .cl g5 224 [.v (selV false)], .cl g6 224 [.v (selV true)]] := by
  cases h
  have s1 := endst_o b hv false true i n hn hi'
  have s2 := endst_o b hv true false i n hn hi'
  have w1 := ends_o b hv false true n hn
  have w2 := ends_o b hv true false n hn
  refine awp_tree T0 [(0, 1), (1, 1), (2, 1), (3, 0), (4, 1), (6, 1), (9, 1), (10, 1), (11, 1), (12, 0), (13, 1), (15, 1), (5, 2), (7, 2), (8, 0), (14, 2), (16, 3), (17, 0), (18, 0), (19, 3)] (.op 0 1 (.op 1 1 (.op 2 1 (.op 3 0 (.op 4 1 (.op 6 1 (.op 9 1 (.op 10 1 (.op 11 1 (.op 12 0 (.op 13 1 (.op 15 1 (.op 5 2 (.op 7 2 (.op 8 0 (.op 14 2 (.op 16 3 (.op 17 0 (.op 18 0 (.op 19 3 .stop)))))))))))))))))))) [.cl g2 _ _, .cl g3 _ _, .cl g5 _ _, .cl g6 _ _] rfl (by kernel_rfl) rcA ?_
  refine awt_lo rfl (wt_none rfl) (lv_cla T0 rfl rfl rfl rcA rfl) rfl rfl rfl ?_
  refine awt_lo rfl (wt_none rfl) (lv_cla T0 rfl rfl rfl rcA rfl) rfl rfl rfl ?_
  refine awt_lo rfl (wt_none rfl) (lv_cla T0 rfl rfl rfl rcA rfl) rfl rfl rfl ?_
  refine awt_po rfl (wt_none rfl) (pv_fa T0 rfl rfl rfl (by simp; rfl)) rfl rfl ?_
  refine awt_lo rfl (wt_none rfl) (lv_cl1 T0 rfl rfl rfl rcA raA) rfl rfl rfl ?_
  refine awt_lo rfl (wt_none rfl) (lv_cla T0 rfl rfl rfl rcA rfl) rfl rfl rfl ?_
  refine awt_lo rfl (wt_none rfl) (lv_cla T0 rfl rfl rfl rcA rfl) rfl rfl rfl ?_
  refine awt_lo rfl (wt_none rfl) (lv_cla T0 rfl rfl rfl rcA rfl) rfl rfl rfl ?_
  refine awt_lo rfl (wt_none rfl) (lv_cla T0 rfl rfl rfl rcA rfl) rfl rfl rfl ?_
  refine awt_po rfl (wt_none rfl) (pv_fa T0 rfl rfl rfl (by simp; rfl)) rfl rfl ?_
  refine awt_lo rfl (wt_none rfl) (lv_cl1 T0 rfl rfl rfl rcA raA) rfl rfl rfl ?_
  refine awt_lo rfl (wt_none rfl) (lv_cla T0 rfl rfl rfl rcA rfl) rfl rfl rfl ?_
  refine awt_h (hm := _) rfl (wt_none rfl) ?sub rfl (st_acall T0 (w1) rfl rfl rfl rfl (by first | exact callee_lit | exact callee_v | exact callee_fn | assumption) rcA raA rfl (by first | ((repeat' (first | exact SubH.refl _ | apply SubH.cons | exact Pick.here | apply Pick.there)); all_goals fail) | fail) (fun b hb => hb) ?_)
  case sub => exact rcA
  rintro r h' ⟨gw1, gm1, rfl, rfl⟩
  refine awt_h (hm := _) rfl (wt_none rfl) ?sub rfl (st_acall T0 (s1 gw1 gm1) rfl rfl rfl rfl (by first | exact callee_lit | exact callee_v | exact callee_fn | assumption) rcA raA rfl (by first | ((repeat' (first | exact SubH.refl _ | apply SubH.cons | exact Pick.here | apply Pick.there)); all_goals fail) | fail) (fun b hb => hb) ?_)
  case sub => exact rcA
  rintro r h' ⟨rfl, l1, rfl⟩
  refine awt_n1 rfl (wt_none rfl) (pv_field157 rfl rfl) rfl rfl rfl ?_
  refine awt_h (hm := _) rfl (wt_none rfl) ?sub rfl (st_acall T0 (w2) rfl rfl rfl rfl (by first | exact callee_lit | exact callee_v | exact callee_fn | assumption) rcA raA rfl (by first | ((repeat' (first | exact SubH.refl _ | apply SubH.cons | exact Pick.here | apply Pick.there)); all_goals fail) | fail) (fun b hb => hb) ?_)
  case sub => exact rcA
  rintro r h' ⟨gw2, gm2, rfl, rfl⟩
  refine awt_s (md := fun _ => True) rfl (wt_none rfl) (st_acall T0 (s2 gw2 gm2) rfl rfl rfl rfl (by first | exact callee_lit | exact callee_v | exact callee_fn | assumption) rcA raA rfl (by first | ((repeat' (first | exact SubH.refl _ | apply SubH.cons | exact Pick.here | apply Pick.there)); all_goals fail) | fail) (fun _ _ => trivial) ?_)
  rintro r h' ⟨rfl, l2, rfl⟩
  refine awe_p rfl (wt_none rfl) (pv_field157 rfl rfl) rfl rfl ?_
  first
    | refine awe_p rfl (wt_none rfl) (pv_build T0 rfl rfl rfl scA (by first | ((repeat' (first | exact BParts.nil | apply BParts.cons | rfl)); all_goals fail) | fail) (by first | ((repeat' (first | exact FillA.nil | exact Sp.done | apply FillA.cons | apply Sp.put | apply Sp.skip | (simp only [cellsA]; rfl) | rfl)); all_goals fail) | fail)) rfl rfl ?_
    | refine awe_p rfl (wt_none rfl) (pv_build_arr T0 rfl rfl rfl scA (by first | ((repeat' (first | exact BParts.nil | apply BParts.cons | rfl)); all_goals fail) | fail) (by first | ((repeat' (first | exact FillA.nil | exact Sp.done | apply FillA.cons | apply Sp.put | apply Sp.skip | (simp only [cellsA]; rfl) | rfl)); all_goals fail) | fail)) rfl rfl ?_
  refine awe_s (md := fun _ => True) rfl (wt_none rfl) (st_store T0 rfl rfl rfl rfl rfl (by first | assumption | (simp only [cellsA]; rfl)) rfl rfl rfl rcA rcA trivial ?_)
  refine awe_end ?_
  exact cut_n ⟨rfl, rfl⟩ ssA rcA
end
theorem debts_p (b : BankD) (hv : Valid b) (i n : Nat) (hn : n < b.days.length) (hi' : i < b.loans.length) : PCall Try.prog 51 [bankA true b, .ag [intA i, intA n]] (fun r => r = rngA (debtsN b i n)) := by
  refine acall_of_awp T0 Try.func51 rfl rfl rfl ?_
  repeat (first | refine awp_seq ?_ | refine awp_region_lit rfl ?_)
  refine awl_hw (wt_none rfl) (st_box rfl rfl raA (by first | assumption | (simp only [cellsA]; rfl)) rfl rfl ?_)
  intro g2
  skip
  refine awl_hw (wt_none rfl) (st_box rfl rfl raA (by first | assumption | (simp only [cellsA]; rfl)) rfl rfl ?_)
  intro g3
  skip
  refine awl_hw (wt_none rfl) (st_alloc T0 rfl rfl rfl rfl scA ?_)
  intro g4
  repeat (first | refine awp_seq ?_ | refine awp_region_lit rfl ?_ | (show AWL _ _ _ (⟨_, .build _ _, _, _, _, _⟩ :: _) _ _ _; refine awl_pw (wt_none rfl) (pv_build T0 rfl rfl rfl scA (by first | ((repeat' (first | exact BParts.nil | apply BParts.cons | rfl)); all_goals fail) | fail) (by first | ((repeat' (first | exact FillA.nil | exact Sp.done | apply FillA.cons | apply Sp.put | apply Sp.skip | (simp only [cellsA]; rfl) | rfl)); all_goals fail) | fail)) rfl rfl ?_) | refine awl_nil ?_)
  refine awl_hw (wt_none rfl) (st_alloc T0 rfl rfl rfl rfl scA ?_)
  intro g5
  skip
  refine awl_hw (wt_none rfl) (st_alloc T0 rfl rfl rfl rfl scA ?_)
  intro g6
  repeat (first | refine awp_seq ?_ | (show AWL _ _ _ (⟨_, .store _ _ _, _, _, _, _⟩ :: _) _ _ _; refine awl_hw (wt_none rfl) (st_store T0 rfl rfl rfl rfl rfl (by first | assumption | (simp only [cellsA]; rfl)) rfl rfl rfl rcA rcA trivial ?_)) | refine awl_nil ?_)
  refine awp_cut _ (awp_weak ssA rcA (mw_d (g2 := g2) (g3 := g3) (g4 := g4) (g5 := g5) (g6 := g6) hv hn hi' rfl)) ?_
  rintro s h ⟨rfl, rfl⟩
  repeat (first | refine awp_ret ?_)
  exact body_p (res_cell rfl rfl rcA rfl rfl rfl .nil) rfl
theorem calls_p (b : BankD) (hv : Valid b) (i n : Nat) (hn : n < b.days.length) (hi' : i < b.loans.length) : PCall Try.prog 52 [bankA true b, .ag [intA i, intA n]] (fun r => r = rngA (callsN b i n)) := by
  refine acall_of_awp T0 Try.func52 rfl rfl rfl ?_
  repeat (first | refine awp_seq ?_ | refine awp_region_lit rfl ?_)
  refine awl_hw (wt_none rfl) (st_box rfl rfl raA (by first | assumption | (simp only [cellsA]; rfl)) rfl rfl ?_)
  intro g2
  skip
  refine awl_hw (wt_none rfl) (st_box rfl rfl raA (by first | assumption | (simp only [cellsA]; rfl)) rfl rfl ?_)
  intro g3
  skip
  refine awl_hw (wt_none rfl) (st_alloc T0 rfl rfl rfl rfl scA ?_)
  intro g4
  repeat (first | refine awp_seq ?_ | refine awp_region_lit rfl ?_ | (show AWL _ _ _ (⟨_, .build _ _, _, _, _, _⟩ :: _) _ _ _; refine awl_pw (wt_none rfl) (pv_build T0 rfl rfl rfl scA (by first | ((repeat' (first | exact BParts.nil | apply BParts.cons | rfl)); all_goals fail) | fail) (by first | ((repeat' (first | exact FillA.nil | exact Sp.done | apply FillA.cons | apply Sp.put | apply Sp.skip | (simp only [cellsA]; rfl) | rfl)); all_goals fail) | fail)) rfl rfl ?_) | refine awl_nil ?_)
  refine awl_hw (wt_none rfl) (st_alloc T0 rfl rfl rfl rfl scA ?_)
  intro g5
  skip
  refine awl_hw (wt_none rfl) (st_alloc T0 rfl rfl rfl rfl scA ?_)
  intro g6
  repeat (first | refine awp_seq ?_ | (show AWL _ _ _ (⟨_, .store _ _ _, _, _, _, _⟩ :: _) _ _ _; refine awl_hw (wt_none rfl) (st_store T0 rfl rfl rfl rfl rfl (by first | assumption | (simp only [cellsA]; rfl)) rfl rfl rfl rcA rcA trivial ?_)) | refine awl_nil ?_)
  refine awp_cut _ (awp_weak ssA rcA (mw_c (g2 := g2) (g3 := g3) (g4 := g4) (g5 := g5) (g6 := g6) hv hn hi' rfl)) ?_
  rintro s h ⟨rfl, rfl⟩
  repeat (first | refine awp_ret ?_)
  exact body_p (res_cell rfl rfl rcA rfl rfl rfl .nil) rfl
section
variable {g2 i k c c' : Nat} {b : BankD} {a a' : Option Addr} {rows rows' : List (List AV)} {u20 u21 u22 : AV}
theorem mw_9 (hv : Valid b) (hn : k < b.days.length) (hi' : i < b.loans.length) (h1 : rows.length = k) (h2 : rows'.length = k) (hk8 : k ≤ 8) {ops : Array Oper} (h : regF Try.f18 9 = some ops) :
    AWP Try.prog Try.f18.ntmps none (.region 9 ops true) (cutQ (fun s h => ∃ a c a' c', s = [(1, intA i), (2, .v (ptrV g2)), (4, .v (.slice a (k + 1) c)), (5, .v (.slice a' (k + 1) c')), (20, u20), (21, u21), (22, u22)] ∧ h = [.cl g2 69 [intA b.stocks, .t (daysT true b.days), .t (loansT false b.loans)], .rw (.slice a (k + 1) c) 77 2 (rows ++ [[intA (debtsN b i k).lo, intA (debtsN b i k).hi]]), .rw (.slice a' (k + 1) c') 77 2 (rows' ++ [[intA (callsN b i k).lo, intA (callsN b i k).hi]])]))
      [(1, intA i), (2, .v (ptrV g2)), (4, .v (.slice a k c)), (5, .v (.slice a' k c')), (8, intA k), (20, u20), (21, u21), (22, u22)] [.cl g2 69 [intA b.stocks, .t (daysT true b.days), .t (loansT false b.loans)], .rw (.slice a k c) 77 2 rows, .rw (.slice a' k c') 77 2 rows'] := by
  cases h
  have d := debts_p b hv i k hn hi'
  have e := calls_p b hv i k hn hi'
  refine awp_tree T0 [(0, 0), (1, 1), (2, 0), (3, 0), (4, 0), (8, 0), (9, 1), (10, 0), (11, 0), (12, 0), (5, 2), (6, 2), (7, 2), (13, 3), (14, 3), (15, 3), (16, 0), (17, 0)] (.op 0 0 (.op 1 1 (.op 2 0 (.op 3 0 (.op 4 0 (.op 8 0 (.op 9 1 (.op 10 0 (.op 11 0 (.op 12 0 (.op 5 2 (.op 6 2 (.op 7 2 (.op 13 3 (.op 14 3 (.op 15 3 (.op 16 0 (.op 17 0 .stop)))))))))))))))))) [.cl g2 _ _] rfl (by kernel_rfl) rcA ?_
  refine awt_po rfl (wt_none rfl) (pv_move rfl rfl) rfl rfl ?_
  refine awt_lo rfl (wt_none rfl) (lv_cla T0 rfl rfl rfl rcA rfl) rfl rfl rfl ?_
  refine awt_po rfl (wt_none rfl) (pv_move rfl rfl) rfl rfl ?_
  refine awt_po rfl (wt_none rfl) (pv_move rfl rfl) rfl rfl ?_
  refine awt_po rfl (wt_none rfl) (pv_build T0 rfl rfl rfl scA (by first | ((repeat' (first | exact BParts.nil | apply BParts.cons | rfl)); all_goals fail) | fail) (by first | ((repeat' (first | exact FillA.nil | exact Sp.done | apply FillA.cons | apply Sp.put | apply Sp.skip | (simp only [cellsA]; rfl) | rfl)); all_goals fail) | fail)) rfl rfl ?_
  refine awt_po rfl (wt_none rfl) (pv_move rfl rfl) rfl rfl ?_
  refine awt_lo rfl (wt_none rfl) (lv_cla T0 rfl rfl rfl rcA rfl) rfl rfl rfl ?_
  refine awt_po rfl (wt_none rfl) (pv_move rfl rfl) rfl rfl ?_
  refine awt_po rfl (wt_none rfl) (pv_move rfl rfl) rfl rfl ?_
  refine awt_po rfl (wt_none rfl) (pv_build T0 rfl rfl rfl scA (by first | ((repeat' (first | exact BParts.nil | apply BParts.cons | rfl)); all_goals fail) | fail) (by first | ((repeat' (first | exact FillA.nil | exact Sp.done | apply FillA.cons | apply Sp.put | apply Sp.skip | (simp only [cellsA]; rfl) | rfl)); all_goals fail) | fail)) rfl rfl ?_
  refine awt_h (hm := []) rfl (wt_none rfl) rcA rfl (st_call T0 (d) rfl rfl rfl rfl (by first | exact callee_lit | exact callee_v | exact callee_fn | assumption) rcA raA rfl ?_)
  rintro _ rfl
  refine awt_h (hm := []) rfl (wt_none rfl) rcA rfl (st_bsl T0 rfl rfl rfl rfl rfl rcA rfl rfl rfl rfl (by simp only [List.map_cons, List.map_nil, cellsA]; rfl) ?_)
  intro g31
  refine awt_h (hm := _) rfl (wt_none rfl) ?sub rfl (st_app_o T0 rfl rfl rfl rfl rfl rfl rfl rfl rfl rcA rcA rfl rfl h1 (by omega) ?_)
  case sub => exact rcA
  intro a32 c32 p32
  refine awt_s (md := fun _ => True) rfl (wt_none rfl) (st_call T0 (e) rfl rfl rfl rfl (by first | exact callee_lit | exact callee_v | exact callee_fn | assumption) rcA raA rfl ?_)
  rintro _ rfl
  refine awe_s (md := fun _ => True) rfl (wt_none rfl) (st_bsl T0 rfl rfl rfl rfl rfl rcA rfl rfl rfl rfl (by simp only [List.map_cons, List.map_nil, cellsA]; rfl) ?_)
  intro g39
  refine awe_s (md := fun _ => True) rfl (wt_none rfl) (st_app T0 rfl rfl rfl rfl rfl rfl rfl rfl rfl rcA rcA rfl rfl h2 (by omega) (fun _ _ => trivial) ?_)
  intro a40 c40 p40
  refine awe_p rfl (wt_none rfl) (pv_assign rfl rfl) rfl rfl ?_
  refine awe_p rfl (wt_none rfl) (pv_assign rfl rfl) rfl rfl ?_
  refine awe_end ?_
  exact cut_n ⟨_, _, _, _, rfl, rfl⟩ ssA rcA
end
theorem bounds_p (b : BankD) (hS : Short b) (hf : faultN b = 0) (i : Nat) (hi' : i < b.loans.length) : PCall Try.prog 18 [bankA true b, intA i] (fun r => r = .tup [.t (rngsT true (debtsL b i)), .t (rngsT true (callsL b i)), intA 0]) := by
  have hv := valid_of hf
  have hd4 := hv.days
  have hl4 := hv.loans
  have hC := check_p true b hS
  rw [hf] at hC
  refine acall_of_awp T0 Try.func18 rfl rfl rfl ?_
  repeat (first | refine awp_seq ?_ | refine awp_region_lit rfl ?_)
  refine awl_hw (wt_none rfl) (st_box rfl rfl raA (by first | assumption | (simp only [cellsA]; rfl)) rfl rfl ?_)
  intro g2
  repeat (first | refine awp_seq ?_ | refine awp_region_lit rfl ?_ | (show AWL _ _ _ (⟨_, .assign _, _, _, _, _⟩ :: _) _ _ _; refine awl_pw (wt_none rfl) (pv_assign rfl rfl) rfl rfl ?_) | (show AWL _ _ _ (⟨_, .load _ _, _, _, _, _⟩ :: _) _ _ _; refine awl_lw (wt_none rfl) (lv_cla T0 rfl rfl rfl rcA rfl) rfl rfl rfl ?_) | refine awl_nil ?_)
  refine awl_hw (wt_none rfl) (st_call T0 (hC) rfl rfl rfl rfl (by first | exact callee_lit | exact callee_v | exact callee_fn | assumption) rcA raA rfl ?_)
  rintro _ rfl
  repeat (first | refine awp_seq ?_ | refine awp_region_lit rfl ?_ | refine awp_skip ?_ | with_reducible refine then_n ?_ | refine awp_cond_f rfl (by first | rfl | assumption | exact dF (by omega)) ?_ | (show AWL _ _ _ (⟨_, .move _, _, _, _, _⟩ :: _) _ _ _; refine awl_pw (wt_none rfl) (pv_move rfl rfl) rfl rfl ?_) | (show AWL _ _ _ (⟨_, .assign _, _, _, _, _⟩ :: _) _ _ _; refine awl_pw (wt_none rfl) (pv_assign rfl rfl) rfl rfl ?_) | (show AWL _ _ _ (⟨_, .load _ _, _, _, _, _⟩ :: _) _ _ _; refine awl_lw (wt_none rfl) (lv_cla T0 rfl rfl rfl rcA rfl) rfl rfl rfl ?_) | (show AWL _ _ _ (⟨_, .build _ _, _, _, _, _⟩ :: _) _ _ _; refine awl_pw (wt_none rfl) (pv_build T0 rfl rfl rfl scA (by first | ((repeat' (first | exact BParts.nil | apply BParts.cons | rfl)); all_goals fail) | fail) (by first | ((repeat' (first | exact FillA.nil | exact Sp.done | apply FillA.cons | apply Sp.put | apply Sp.skip | (simp only [cellsA]; rfl) | rfl)); all_goals fail) | fail)) rfl rfl ?_) | (show AWL _ _ _ (⟨_, .binOp .neq _ _ _ _, _, _, _, _⟩ :: _) _ _ _; refine awl_pw (wt_none rfl) (pv_neq rfl rfl rfl) rfl rfl ?_) | refine awl_nil ?_)
  refine awl_hw (wt_none rfl) (st_call T0 (spot_p true b i hi' (by omega) (by omega)) rfl rfl rfl rfl (by first | exact callee_lit | exact callee_v | exact callee_fn | assumption) rcA raA rfl ?_)
  rintro _ rfl
  repeat (first | refine awp_seq ?_ | refine awp_block ?_ | refine awp_region_lit rfl ?_ | refine awp_skip ?_ | with_reducible refine then_n ?_ | refine awp_cond_f rfl (by first | rfl | assumption | exact dF (by omega)) ?_ | (show AWL _ _ _ (⟨_, .move _, _, _, _, _⟩ :: _) _ _ _; refine awl_pw (wt_none rfl) (pv_move rfl rfl) rfl rfl ?_) | (show AWL _ _ _ (⟨_, .load _ _, _, _, _, _⟩ :: _) _ _ _; refine awl_lw (wt_none rfl) (lv_cl1 T0 rfl rfl rfl rcA raA) rfl rfl rfl ?_) | (show AWL _ _ _ (⟨_, .fieldAddr _ _ _, _, _, _, _⟩ :: _) _ _ _; refine awl_pw (wt_none rfl) (pv_fa T0 rfl rfl rfl (by simp; rfl)) rfl rfl ?_) | (show AWL _ _ _ (⟨_, .call ⟨.builtin .len, _, _⟩, _, _, _, _⟩ :: _) _ _ _; refine awl_pw (wt_none rfl) (pv_len_t T0 rfl rfl rfl) rfl rfl ?_) | (show AWL _ _ _ (⟨_, .unOp .not _ _, _, _, _, _⟩ :: _) _ _ _; refine awl_pw (wt_none rfl) (pv_not rfl rfl) rfl rfl ?_) | refine awl_nil ?_)
  refine awp_ghost (ghost_nilrow 77 2) ?_
  refine awp_ghost (ghost_nilrow 77 2) ?_
  refine awp_loop (fun m s h => ∃ (k : Nat) (a a' : Option Addr) (c c' : Nat) (r1 r2 : List (List AV)), k ≤ b.days.length ∧ m = b.days.length - k ∧ r1.length = k ∧ r2.length = k ∧ r1 = (List.range k).map (fun q => [intA (debtsN b i q).lo, intA (debtsN b i q).hi]) ∧ r2 = (List.range k).map (fun q => [intA (callsN b i q).lo, intA (callsN b i q).hi]) ∧
    s = [(1, intA i), (2, .v (ptrV g2)), (4, .v (.slice a k c)), (5, .v (.slice a' k c')), (20, .t (daysT true b.days)), (21, intA b.days.length), (22, intA k)] ∧ h = [.cl g2 69 [intA b.stocks, .t (daysT true b.days), .t (loansT false b.loans)], .rw (.slice a k c) 77 2 r1, .rw (.slice a' k c') 77 2 r2]) ?_ ⟨0, none, none, 0, 0, [], [], Nat.zero_le _, rfl, rfl, rfl, rfl, rfl, rfl, rfl⟩ ssA rcA
  rintro m s h ⟨k, a, a', c, c', r1, r2, hk, rfl, hl1, hl2, hr1, hr2, rfl, rfl⟩
  by_cases hlt : k < b.days.length
  · repeat (first | refine awp_seq ?_ | refine awp_block ?_ | refine awp_region_lit rfl ?_ | refine awp_skip ?_ | with_reducible refine then_n ?_ | refine awp_cond_t rfl (by first | rfl | assumption | exact dT (by omega)) ?_ | (show AWL _ _ _ (⟨_, .move _, _, _, _, _⟩ :: _) _ _ _; refine awl_pw (wt_none rfl) (pv_move rfl rfl) rfl rfl ?_) | (show AWL _ _ _ (⟨_, .assign _, _, _, _, _⟩ :: _) _ _ _; refine awl_pw (wt_none rfl) (pv_assign rfl rfl) rfl rfl ?_) | (show AWL _ _ _ (⟨_, .binOp .lss _ _ _ _, _, _, _, _⟩ :: _) _ _ _; refine awl_pw (wt_none rfl) (pv_lss rfl rfl rfl) rfl rfl ?_) | refine awl_nil ?_)
    refine awp_cutB _ (awp_weak ssA rcA (mw_9 (g2 := g2) (i := i) (k := k) (c := c) (c' := c') (b := b) (a := a) (a' := a') (rows := r1) (rows' := r2) (u20 := .t (daysT true b.days)) (u21 := intA b.days.length) (u22 := intA k) hv hlt hi' hl1 hl2 (by omega) rfl)) ?_
    rintro s h ⟨a2, c2, a3, c3, rfl, rfl⟩
    repeat (first | refine awp_region_lit rfl ?_ | (show AWL _ _ _ (⟨_, .move _, _, _, _, _⟩ :: _) _ _ _; refine awl_pw (wt_none rfl) (pv_move rfl rfl) rfl rfl ?_) | (show AWL _ _ _ (⟨_, .binOp .add _ _ _ _, _, _, _, _⟩ :: _) _ _ _; refine awl_pw (wt_none rfl) (pv_add rfl rfl rfl (by first | assumption | exact wr64 (by omega))) rfl rfl ?_) | refine awl_nil ?_)
    refine rnd_n _ _ _ ?_ ⟨k + 1, a2, a3, c2, c3, _, _, hlt, rfl, ?_, ?_, ?_, ?_, rfl, rfl⟩ ssA rcA
    · omega
    · rw [List.length_append, hl1]; rfl
    · rw [List.length_append, hl2]; rfl
    · rw [hr1, range_step]
    · rw [hr2, range_step]
  obtain rfl : k = b.days.length := by omega
  have q1 : (debtsL b i).length = b.days.length := by simp [debtsL]
  have q2 : (callsL b i).length = b.days.length := by simp [callsL]
  have t1 : ∀ k, k < b.days.length → r1.getD k [] = (rngL ((debtsL b i).getD k default)).map AV.ofTr := fun k hk => by
    rw [hr1]
    simp [List.getD_eq_getElem?_getD, hk, debtsL]
    rfl
  have t2 : ∀ k, k < b.days.length → r2.getD k [] = (rngL ((callsL b i).getD k default)).map AV.ofTr := fun k hk => by
    rw [hr2]
    simp [List.getD_eq_getElem?_getD, hk, callsL]
    rfl
  have e1 : rngsT true (debtsL b i) = .sl true 2 b.days.length (fun q => rngL ((debtsL b i).getD q default)) := by unfold rngsT; rw [q1]
  have e2 : rngsT true (callsL b i) = .sl true 2 b.days.length (fun q => rngL ((callsL b i).getD q default)) := by unfold rngsT; rw [q2]
  repeat (first | refine awp_seq ?_ | refine awp_region_lit rfl ?_ | refine awp_exit ?_ | refine awp_ret ?_ | refine awp_cond_f rfl (by first | rfl | assumption | exact dF (by omega)) ?_ | (show AWL _ _ _ (⟨_, .move _, _, _, _, _⟩ :: _) _ _ _; refine awl_pw (wt_none rfl) (pv_move rfl rfl) rfl rfl ?_) | (show AWL _ _ _ (⟨_, .assign _, _, _, _, _⟩ :: _) _ _ _; refine awl_pw (wt_none rfl) (pv_assign rfl rfl) rfl rfl ?_) | (show AWL _ _ _ (⟨_, .binOp .lss _ _ _ _, _, _, _, _⟩ :: _) _ _ _; refine awl_pw (wt_none rfl) (pv_lss rfl rfl rfl) rfl rfl ?_) | refine awl_nil ?_)
  refine bodyQ_ghost (ghost_freeze (d := 4) (v := .slice a b.days.length c) (E := 77) (sz := 2) (n := b.days.length) (rows := r1) (fun q => rngL ((debtsL b i).getD q default)) rcA rfl hl1 t1) ?_
  refine bodyQ_ghost (ghost_freeze (d := 5) (v := .slice a' b.days.length c') (E := 77) (sz := 2) (n := b.days.length) (rows := r2) (fun q => rngL ((callsL b i).getD q default)) rcA rfl hl2 t2) ?_
  refine body_p (.cons rfl (.cons rfl (.cons rfl .nil))) ?_
  rw [e1, e2]
  rfl
end Go.Proofs.Ytlpknbneilgjkaa.M
