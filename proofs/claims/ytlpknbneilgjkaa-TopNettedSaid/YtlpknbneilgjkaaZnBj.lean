/- The law TopNetted (Try.func4): walk. -/
import Derived.Test.YtlpknbneilgjkaaZnCGWk
import Derived.Test.YtlpknbneilgjkaaZnCLk
import Derived.Test.YtlpknbneilgjkaaZnRRb
import Derived.Test.YtlpknbneilgjkaaZnGTs
namespace Go.Proofs.Ytlpknbneilgjkaa
open Go Go.RowKit Go.Tl
set_option linter.unusedVariables false
set_option linter.unusedSimpArgs false
set_option maxRecDepth 100000
set_option maxHeartbeats 4000000
theorem acall_own2 {P : Program} {g : Nat} {A : AV} {v : Value} {E sz n : Nat} {rows : List (List AV)} {f : Nat → List Tr} {R : AV → Prop} (C : PCall P g [A, .t (.sl true sz n f)] R) (hn : rows.length = n) (hf : ∀ k, k < n → rows.getD k [] = (f k).map AV.ofTr) :
    ACall P g [A, .v v] [.rw v E sz rows] (fun r h' => R r ∧ h' = []) := fun w S vs h1 h2 h3 => by
  have he := h2.ent _ List.mem_cons_self
  have ht := row_tree he hn hf
  have hlt' : ∀ b, (S b ∨ v.ownBlock = some b) → b < w.heap.size := fun b hb => by
    rcases hb with hb | hb
    · exact h1 b hb
    · obtain ⟨xs, ho, _⟩ := he
      exact (ho.lt b hb).2
  obtain ⟨va, us, rfl, ka, h3⟩ := rels1 h3
  obtain ⟨vb, us, rfl, kb, h3⟩ := rels1 h3
  obtain rfl := rels0 h3
  have := kb.lit_inv
  subst this
  have ka' : VRel w (fun b => S b ∨ vb.ownBlock = some b) A va := ka.mono (fun b h => .inl h) (fun b _ => rfl)
  refine (C w _ [va, vb] hlt' HRel.nil (.cons ka' (.cons (.t ht) .nil))).mono fun e w' ⟨v', S'', r, h', e1, hq, hvr, E', hlt, hr, hl⟩ => ⟨v', S'', r, h', e1, hq, hvr, ⟨E'.os, E'.tape, E'.output, E'.size, fun b hb hn => E'.keep b hb (fun ⟨e, he, _⟩ => by cases he), fun b hb => E'.stab b (.inl hb), fun b hb => ?_⟩, hlt, hr, fun e he => ?_⟩
  · rcases E'.new b hb with (h | h) | h | ⟨e, he, _⟩
    · exact .inl h
    · exact .inr (.inr ⟨_, List.mem_cons_self, h⟩)
    · exact .inr (.inl h)
    · cases he
  · rw [hq.2] at he; cases he
abbrev ptrV (g : Nat) : Value := .pointer (some ⟨g, 0, none⟩)
/-- the book of the law: Numbers of at most 4 -/
def yCon (c : R.ConD) : R.ConD := ⟨c.frm, c.to, 1 + c.num.tmod 4, c.price⟩
def yBook (b : R.BookD) : R.BookD := ⟨b.houses, b.cons.map yCon⟩
theorem y_len (b : R.BookD) : (yBook b).cons.length = b.cons.length := by simp [yBook]
theorem y_at {b : R.BookD} {k : Nat} (h : k < b.cons.length) : (yBook b).cons.getD k default = yCon (b.cons.getD k default) := by
  simp [yBook, List.getD_eq_getElem?_getD, h]
theorem mod4 {x : Int} (h : 0 ≤ x) : 0 ≤ x.tmod 4 ∧ x.tmod 4 ≤ 3 := by
  have h1 := Int.tmod_nonneg (a := x) 4 h
  have h2 := Int.tmod_lt_of_pos x (b := 4) (by omega)
  omega
theorem y_v {b : R.BookD} (hv : R.VBook b) : R.VBook (yBook b) ∧ ∀ k, k < (yBook b).cons.length → ((yBook b).cons.getD k default).num ≤ 4 := by
  have hm : ∀ k, k < b.cons.length → 1 ≤ 1 + (b.cons.getD k default).num.tmod 4 ∧ 1 + (b.cons.getD k default).num.tmod 4 ≤ 4 := fun k hk => by
    have := mod4 (x := (b.cons.getD k default).num) (by have := hv.num k hk; omega)
    omega
  refine ⟨⟨hv.houses, by rw [y_len]; exact hv.len, fun k hk => ?_, fun k hk => ?_, fun k hk => ?_, fun k hk => ?_, fun k hk => ?_⟩, fun k hk => ?_⟩
  all_goals rw [y_len] at hk; rw [y_at hk]
  · exact hv.frm k hk
  · exact hv.to k hk
  · exact hv.ne k hk
  · have := hm k hk
    exact ⟨this.1, by show 1 + (b.cons.getD k default).num.tmod 4 ≤ 100; omega⟩
  · exact hv.price k hk
  · exact (hm k hk).2
theorem y_fault {b : R.BookD} (hv : R.VBook b) : R.faultN (yBook b) = 0 := by
  have h := (y_v hv).1
  have h1 := h.houses
  have h2 := h.len
  unfold R.faultN
  rw [if_neg (by omega)]
  refine if_pos ⟨h1.1, (all_getD (d := default)).2 fun k hk => ?_⟩
  have a1 := h.frm k hk
  have a2 := h.to k hk
  have a3 := h.ne k hk
  have a4 := h.num k hk
  have a5 := h.price k hk
  simp only [R.conB, Bool.and_eq_true, R.inB_iff, decide_eq_true_eq]
  exact ⟨by omega, by omega, a3, a4, a5⟩
theorem off_elem {b : R.BookD} (hv : R.VBook b) {o : List Int} (h : R.offB b o = true) : ∀ x ∈ o, -1000000000 ≤ x ∧ x ≤ 1000000000 := fun x hx => by
  obtain ⟨h1, h2⟩ := (R.offB_iff hv).1 h
  obtain ⟨k, hk, rfl⟩ := List.getElem_of_mem hx
  have h3 := h2.bd k (by omega)
  have h4 := hv.num k (by omega)
  have h5 : o.getD k 0 = o[k] := by simp [List.getD_eq_getElem?_getD, hk]
  have h6 : 0 ≤ o.getD k 0 ∧ o.getD k 0 ≤ (b.cons.getD k default).num := h3
  omega
theorem ycon_step {cs : List R.ConD} {k : Nat} (h : k < cs.length) : (cs.take (k + 1)).map R.conRow = (cs.take k).map R.conRow ++ [R.conRow (cs.getD k default)] := rows_step (d := default) R.conRow h
theorem offRow_rep (n : Nat) : ∀ k, k < n → (List.replicate n [AV.v (.bool false)]).getD k [] = ((fun _ => [Tr.sc (.bool false)]) k : List Tr).map AV.ofTr := fun k hk => by
  simp [List.getD_eq_getElem?_getD, hk]
  rfl
theorem zRow_rep (n : Nat) : ∀ k, k < n → (List.replicate n [AV.v (.int .i64 0)]).getD k [] = ((fun k => [Tr.sc (.int .i64 ((List.replicate n (0 : Int)).getD k 0))]) k : List Tr).map AV.ofTr := fun k hk => by
  simp [List.getD_eq_getElem?_getD, hk]
  rfl
attribute [local irreducible] AWP AWL AOp PV LV AWT AWE AWC
section
variable {g1 g3 g4 hn : Nat} {b : R.BookD} {y1 : AV}
theorem bj_4 (hb : hn ≤ 1000) {cs : List R.ConD} {ops : Array Oper} (h : regF Try.f4 4 = some ops) :
    AWP Try.prog Try.f4.ntmps none (.region 4 ops true) (cutQ (fun s h => ∃ g4 g43 g47, s = [(4, .v (ptrV g4)), (1, .v (ptrV g1)), (3, .v (ptrV g3))] ∧ h = [.cl g1 81 [intA (hn : Int), .t (R.consT false cs)], .cl g3 81 [intA (hn : Int), y1], .cl g4 91 [intA (hn : Int), .v (.slice (some ⟨g43, 0, none⟩) 1 1), S.nilA, S.nilA, intA 0, .v (.slice (some ⟨g47, 0, none⟩) hn hn), S.nilA], .rw (.slice (some ⟨g43, 0, none⟩) 1 1) 3 1 [[intA 0]], .rw (.slice (some ⟨g47, 0, none⟩) hn hn) 4 1 (List.replicate hn [.v (.bool false)])]))
      [(1, .v (ptrV g1)), (3, .v (ptrV g3))] [.cl g1 81 [intA (hn : Int), .t (R.consT false cs)], .cl g3 81 [intA (hn : Int), y1]] := by
  cases h
  refine awp_C T0 (.op 0 0 (.op 1 1 (.op 4 0 (.op 5 1 (.alt (.op 2 2 (.op 3 0 (.alt (.op 6 2 (.op 7 0 (.op 8 2 (.op 9 2 .stop)))) (.op 8 2 (.op 6 2 (.op 7 0 (.op 9 2 .stop))))))) (.alt (.op 6 2 (.alt (.op 2 2 (.op 3 0 (.op 7 0 (.op 8 2 (.op 9 2 .stop))))) (.op 8 2 (.op 2 2 (.op 3 0 (.op 7 0 (.op 9 2 .stop))))))) (.op 8 2 (.alt (.op 2 2 (.op 3 0 (.op 6 2 (.op 7 0 (.op 9 2 .stop))))) (.op 6 2 (.op 2 2 (.op 3 0 (.op 7 0 (.op 9 2 .stop))))))))))))) [.cl g1 _ _] (by kernel_rfl) (by kernel_rfl) (by kernel_rfl) rcA ?_
  refine awc_po rfl (wt_none rfl) (pv_fa T0 rfl rfl rfl (by simp; rfl)) rfl rfl ?_
  refine awc_lo rfl (wt_none rfl) (lv_cl1 T0 rfl rfl rfl rcA raA) rfl rfl rfl ?_
  refine awc_po rfl (wt_none rfl) (pv_fa T0 rfl rfl rfl (by simp; rfl)) rfl rfl ?_
  refine awc_lo rfl (wt_none rfl) (lv_cl1 T0 rfl rfl rfl rcA raA) rfl rfl rfl ?_
  refine awc_alt ?_ ?_
  · skip
    refine awc_h (hm := []) rfl (wt_none rfl) ?sub7 rfl (st_bsl T0 rfl rfl rfl rfl rfl rcA rfl rfl rfl rfl (by simp only [List.map_cons, List.map_nil, cellsA]; rfl) ?_)
    case sub7 => exact rcA
    intro g43
    refine awc_n1 rfl (wt_none rfl) (pv_build T0 rfl rfl rfl scA (by first | ((repeat' (first | exact BParts.nil | apply BParts.cons | rfl)); all_goals fail) | fail) (by first | ((repeat' (first | exact FillA.nil | exact Sp.done | apply FillA.cons | apply Sp.put | apply Sp.skip | (simp only [cellsA]; rfl) | rfl)); all_goals fail) | fail)) rfl rfl rfl ?_
    refine awc_alt ?_ ?_
    · skip
      refine awc_h (hm := []) rfl (wt_none rfl) ?sub13 rfl (aop_make T0 rfl rfl rfl rfl rfl rfl rfl rfl (by omega) rfl ?_)
      case sub13 => exact rcA
      intro g47
      refine awc_n1 rfl (wt_none rfl) (pv_build T0 rfl rfl rfl scA (by first | ((repeat' (first | exact BParts.nil | apply BParts.cons | rfl)); all_goals fail) | fail) (by first | ((repeat' (first | exact FillA.nil | exact Sp.done | apply FillA.cons | apply Sp.put | apply Sp.skip | (simp only [cellsA]; rfl) | rfl)); all_goals fail) | fail)) rfl rfl rfl ?_
      refine awc_h (hm := []) rfl (wt_none rfl) ?sub17 rfl (st_alloc T0 rfl rfl rfl rfl scA ?_)
      case sub17 => exact rcA
      intro g4
      refine awc_h (hm := _) rfl (wt_none rfl) ?sub20 rfl (st_store_o T0 rfl rfl rfl rfl rfl (by first | assumption | (simp only [cellsA]; rfl)) rfl rfl rfl rcA rcA ?_)
      case sub20 => exact rcA
      refine awc_end ?_
      exact cut_n ⟨_, _, _, rfl, rfl⟩ ssA rcA
    refine awc_h (hm := []) rfl (wt_none rfl) ?sub24 rfl (st_alloc T0 rfl rfl rfl rfl scA ?_)
    case sub24 => exact rcA
    intro g4
    refine awc_h (hm := []) rfl (wt_none rfl) ?sub27 rfl (aop_make T0 rfl rfl rfl rfl rfl rfl rfl rfl (by omega) rfl ?_)
    case sub27 => exact rcA
    intro g47
    refine awc_n1 rfl (wt_none rfl) (pv_build T0 rfl rfl rfl scA (by first | ((repeat' (first | exact BParts.nil | apply BParts.cons | rfl)); all_goals fail) | fail) (by first | ((repeat' (first | exact FillA.nil | exact Sp.done | apply FillA.cons | apply Sp.put | apply Sp.skip | (simp only [cellsA]; rfl) | rfl)); all_goals fail) | fail)) rfl rfl rfl ?_
    refine awc_h (hm := _) rfl (wt_none rfl) ?sub31 rfl (st_store_o T0 rfl rfl rfl rfl rfl (by first | assumption | (simp only [cellsA]; rfl)) rfl rfl rfl rcA rcA ?_)
    case sub31 => exact rcA
    refine awc_end ?_
    exact cut_n ⟨_, _, _, rfl, rfl⟩ ssA rcA
  refine awc_alt ?_ ?_
  · skip
    refine awc_h (hm := []) rfl (wt_none rfl) ?sub37 rfl (aop_make T0 rfl rfl rfl rfl rfl rfl rfl rfl (by omega) rfl ?_)
    case sub37 => exact rcA
    intro g47
    refine awc_alt ?_ ?_
    · skip
      refine awc_h (hm := []) rfl (wt_none rfl) ?sub42 rfl (st_bsl T0 rfl rfl rfl rfl rfl rcA rfl rfl rfl rfl (by simp only [List.map_cons, List.map_nil, cellsA]; rfl) ?_)
      case sub42 => exact rcA
      intro g43
      refine awc_n1 rfl (wt_none rfl) (pv_build T0 rfl rfl rfl scA (by first | ((repeat' (first | exact BParts.nil | apply BParts.cons | rfl)); all_goals fail) | fail) (by first | ((repeat' (first | exact FillA.nil | exact Sp.done | apply FillA.cons | apply Sp.put | apply Sp.skip | (simp only [cellsA]; rfl) | rfl)); all_goals fail) | fail)) rfl rfl rfl ?_
      refine awc_n1 rfl (wt_none rfl) (pv_build T0 rfl rfl rfl scA (by first | ((repeat' (first | exact BParts.nil | apply BParts.cons | rfl)); all_goals fail) | fail) (by first | ((repeat' (first | exact FillA.nil | exact Sp.done | apply FillA.cons | apply Sp.put | apply Sp.skip | (simp only [cellsA]; rfl) | rfl)); all_goals fail) | fail)) rfl rfl rfl ?_
      refine awc_h (hm := []) rfl (wt_none rfl) ?sub47 rfl (st_alloc T0 rfl rfl rfl rfl scA ?_)
      case sub47 => exact rcA
      intro g4
      refine awc_h (hm := _) rfl (wt_none rfl) ?sub50 rfl (st_store_o T0 rfl rfl rfl rfl rfl (by first | assumption | (simp only [cellsA]; rfl)) rfl rfl rfl rcA rcA ?_)
      case sub50 => exact rcA
      refine awc_end ?_
      exact cut_n ⟨_, _, _, rfl, rfl⟩ ssA rcA
    refine awc_h (hm := []) rfl (wt_none rfl) ?sub54 rfl (st_alloc T0 rfl rfl rfl rfl scA ?_)
    case sub54 => exact rcA
    intro g4
    refine awc_h (hm := []) rfl (wt_none rfl) ?sub57 rfl (st_bsl T0 rfl rfl rfl rfl rfl rcA rfl rfl rfl rfl (by simp only [List.map_cons, List.map_nil, cellsA]; rfl) ?_)
    case sub57 => exact rcA
    intro g43
    refine awc_n1 rfl (wt_none rfl) (pv_build T0 rfl rfl rfl scA (by first | ((repeat' (first | exact BParts.nil | apply BParts.cons | rfl)); all_goals fail) | fail) (by first | ((repeat' (first | exact FillA.nil | exact Sp.done | apply FillA.cons | apply Sp.put | apply Sp.skip | (simp only [cellsA]; rfl) | rfl)); all_goals fail) | fail)) rfl rfl rfl ?_
    refine awc_n1 rfl (wt_none rfl) (pv_build T0 rfl rfl rfl scA (by first | ((repeat' (first | exact BParts.nil | apply BParts.cons | rfl)); all_goals fail) | fail) (by first | ((repeat' (first | exact FillA.nil | exact Sp.done | apply FillA.cons | apply Sp.put | apply Sp.skip | (simp only [cellsA]; rfl) | rfl)); all_goals fail) | fail)) rfl rfl rfl ?_
    refine awc_h (hm := _) rfl (wt_none rfl) ?sub62 rfl (st_store_o T0 rfl rfl rfl rfl rfl (by first | assumption | (simp only [cellsA]; rfl)) rfl rfl rfl rcA rcA ?_)
    case sub62 => exact rcA
    refine awc_end ?_
    exact cut_n ⟨_, _, _, rfl, rfl⟩ ssA rcA
  refine awc_h (hm := []) rfl (wt_none rfl) ?sub66 rfl (st_alloc T0 rfl rfl rfl rfl scA ?_)
  case sub66 => exact rcA
  intro g4
  refine awc_alt ?_ ?_
  · skip
    refine awc_h (hm := []) rfl (wt_none rfl) ?sub71 rfl (st_bsl T0 rfl rfl rfl rfl rfl rcA rfl rfl rfl rfl (by simp only [List.map_cons, List.map_nil, cellsA]; rfl) ?_)
    case sub71 => exact rcA
    intro g43
    refine awc_n1 rfl (wt_none rfl) (pv_build T0 rfl rfl rfl scA (by first | ((repeat' (first | exact BParts.nil | apply BParts.cons | rfl)); all_goals fail) | fail) (by first | ((repeat' (first | exact FillA.nil | exact Sp.done | apply FillA.cons | apply Sp.put | apply Sp.skip | (simp only [cellsA]; rfl) | rfl)); all_goals fail) | fail)) rfl rfl rfl ?_
    refine awc_h (hm := []) rfl (wt_none rfl) ?sub75 rfl (aop_make T0 rfl rfl rfl rfl rfl rfl rfl rfl (by omega) rfl ?_)
    case sub75 => exact rcA
    intro g47
    refine awc_n1 rfl (wt_none rfl) (pv_build T0 rfl rfl rfl scA (by first | ((repeat' (first | exact BParts.nil | apply BParts.cons | rfl)); all_goals fail) | fail) (by first | ((repeat' (first | exact FillA.nil | exact Sp.done | apply FillA.cons | apply Sp.put | apply Sp.skip | (simp only [cellsA]; rfl) | rfl)); all_goals fail) | fail)) rfl rfl rfl ?_
    refine awc_h (hm := _) rfl (wt_none rfl) ?sub79 rfl (st_store_o T0 rfl rfl rfl rfl rfl (by first | assumption | (simp only [cellsA]; rfl)) rfl rfl rfl rcA rcA ?_)
    case sub79 => exact rcA
    refine awc_end ?_
    exact cut_n ⟨_, _, _, rfl, rfl⟩ ssA rcA
  refine awc_h (hm := []) rfl (wt_none rfl) ?sub83 rfl (aop_make T0 rfl rfl rfl rfl rfl rfl rfl rfl (by omega) rfl ?_)
  case sub83 => exact rcA
  intro g47
  refine awc_h (hm := []) rfl (wt_none rfl) ?sub86 rfl (st_bsl T0 rfl rfl rfl rfl rfl rcA rfl rfl rfl rfl (by simp only [List.map_cons, List.map_nil, cellsA]; rfl) ?_)
  case sub86 => exact rcA
  intro g43
  refine awc_n1 rfl (wt_none rfl) (pv_build T0 rfl rfl rfl scA (by first | ((repeat' (first | exact BParts.nil | apply BParts.cons | rfl)); all_goals fail) | fail) (by first | ((repeat' (first | exact FillA.nil | exact Sp.done | apply FillA.cons | apply Sp.put | apply Sp.skip | (simp only [cellsA]; rfl) | rfl)); all_goals fail) | fail)) rfl rfl rfl ?_
  refine awc_n1 rfl (wt_none rfl) (pv_build T0 rfl rfl rfl scA (by first | ((repeat' (first | exact BParts.nil | apply BParts.cons | rfl)); all_goals fail) | fail) (by first | ((repeat' (first | exact FillA.nil | exact Sp.done | apply FillA.cons | apply Sp.put | apply Sp.skip | (simp only [cellsA]; rfl) | rfl)); all_goals fail) | fail)) rfl rfl rfl ?_
  refine awc_h (hm := _) rfl (wt_none rfl) ?sub91 rfl (st_store_o T0 rfl rfl rfl rfl rfl (by first | assumption | (simp only [cellsA]; rfl)) rfl rfl rfl rcA rcA ?_)
  case sub91 => exact rcA
  refine awc_end ?_
  exact cut_n ⟨_, _, _, rfl, rfl⟩ ssA rcA
theorem bj_13 (hb : 1 ≤ hn ∧ hn ≤ 4) {ds : List S.DueD} (hv : S.VDue hn ds) {ops : Array Oper} (h : regF Try.f4 13 = some ops) {u7 u8 u9 : AV} {cs : List R.ConD} :
    AWP Try.prog Try.f4.ntmps none (.region 13 ops true) (cutQ (fun s h => ∃ f B, S.BestD hn ds f B ∧ s = [(10, .t (intsT true (R.digL f ds.length))), (11, intA B), (12, intA 0), (3, .v (ptrV g3)), (4, .v (ptrV g4)), (7, u7), (9, u9)] ∧ h = [.cl g3 81 [intA (hn : Int), y1], .cl g4 91 (S.ledC true true true hn ds)]))
      [(1, .v (ptrV g1)), (3, .v (ptrV g3)), (4, .v (ptrV g4)), (7, u7), (9, u9)] [.cl g1 81 [intA (hn : Int), .t (R.consT false cs)], .cl g3 81 [intA (hn : Int), y1], .cl g4 91 (S.ledC true true true hn ds)] := by
  cases h
  have hlen := hv.len
  have hB := S.best_p true true true true hn ds hv
  refine awp_tree T0 [(0, 1), (2, 0), (3, 1), (1, 2), (4, 2), (5, 3), (6, 0), (7, 0), (8, 0), (9, 0), (10, 0), (11, 0), (12, 0)] (.op 0 1 (.op 2 0 (.op 3 1 (.fork 1 (.op 4 2 (.op 5 3 (.op 6 0 (.op 7 0 (.op 8 0 (.op 9 0 (.op 10 0 (.op 11 0 (.op 12 0 .stop))))))))) 4 (.op 1 2 (.op 5 3 (.op 6 0 (.op 7 0 (.op 8 0 (.op 9 0 (.op 10 0 (.op 11 0 (.op 12 0 .stop))))))))))))) [.cl g1 _ _, .cl g4 _ _] rfl (by kernel_rfl) rcA ?_
  refine awt_lo rfl (wt_none rfl) (lv_cla T0 rfl rfl rfl rcA rfl) rfl rfl rfl ?_
  refine awt_po rfl (wt_none rfl) (pv_fa T0 rfl rfl rfl (by simp; rfl)) rfl rfl ?_
  refine awt_lo rfl (wt_none rfl) (lv_cl1 T0 rfl rfl rfl rcA raA) rfl rfl rfl ?_
  refine awt_fork ?_ ?_
  · skip
    refine awt_h (hm := []) rfl (wt_none rfl) rcA rfl (st_call T0 (S.led_p true true true hn ds (by omega) (by omega)) rfl rfl rfl rfl (by first | exact callee_lit | exact callee_v | exact callee_fn | assumption) rcA raA rfl ?_)
    rintro _ rfl
    refine awt_h (hm := []) rfl (wt_none rfl) rcA rfl (aop_make T0 rfl rfl rfl rfl rfl rfl rfl rfl (by omega) rfl ?_)
    intro g96
    refine awt_s (md := fun _ => True) rfl (wt_none rfl) (st_acall T0 ((acall_own2 (E := 3) (rows := List.replicate hn [AV.v (.int .i64 0)]) hB (by simp) (zRow_rep hn))) rfl rfl rfl rfl (by first | exact callee_lit | exact callee_v | exact callee_fn | assumption) rcA raA rfl (by first | ((repeat' (first | exact SubH.refl _ | apply SubH.cons | exact Pick.here | apply Pick.there)); all_goals fail) | fail) (fun _ _ => trivial) ?_)
    rintro r h' ⟨⟨f, B, hb, rfl⟩, rfl⟩
    refine awe_p rfl (wt_none rfl) (pv_move rfl rfl) rfl rfl ?_
    refine awe_p rfl (wt_none rfl) (pv_extract rfl rfl rfl) rfl rfl ?_
    refine awe_p rfl (wt_none rfl) (pv_extract rfl rfl rfl) rfl rfl ?_
    refine awe_p rfl (wt_none rfl) (pv_extract rfl rfl rfl) rfl rfl ?_
    refine awe_p rfl (wt_none rfl) (pv_assign rfl rfl) rfl rfl ?_
    refine awe_p rfl (wt_none rfl) (pv_assign rfl rfl) rfl rfl ?_
    refine awe_p rfl (wt_none rfl) (pv_assign rfl rfl) rfl rfl ?_
    refine awe_end ?_
    exact cut_n ⟨f, B, hb, rfl, rfl⟩ ssA rcA
  · skip
    refine awt_h (hm := []) rfl (wt_none rfl) rcA rfl (aop_make T0 rfl rfl rfl rfl rfl rfl rfl rfl (by omega) rfl ?_)
    intro g96
    refine awt_h (hm := []) rfl (wt_none rfl) rcA rfl (st_call T0 (S.led_p true true true hn ds (by omega) (by omega)) rfl rfl rfl rfl (by first | exact callee_lit | exact callee_v | exact callee_fn | assumption) rcA raA rfl ?_)
    rintro _ rfl
    refine awt_s (md := fun _ => True) rfl (wt_none rfl) (st_acall T0 ((acall_own2 (E := 3) (rows := List.replicate hn [AV.v (.int .i64 0)]) hB (by simp) (zRow_rep hn))) rfl rfl rfl rfl (by first | exact callee_lit | exact callee_v | exact callee_fn | assumption) rcA raA rfl (by first | ((repeat' (first | exact SubH.refl _ | apply SubH.cons | exact Pick.here | apply Pick.there)); all_goals fail) | fail) (fun _ _ => trivial) ?_)
    rintro r h' ⟨⟨f, B, hb, rfl⟩, rfl⟩
    refine awe_p rfl (wt_none rfl) (pv_move rfl rfl) rfl rfl ?_
    refine awe_p rfl (wt_none rfl) (pv_extract rfl rfl rfl) rfl rfl ?_
    refine awe_p rfl (wt_none rfl) (pv_extract rfl rfl rfl) rfl rfl ?_
    refine awe_p rfl (wt_none rfl) (pv_extract rfl rfl rfl) rfl rfl ?_
    refine awe_p rfl (wt_none rfl) (pv_assign rfl rfl) rfl rfl ?_
    refine awe_p rfl (wt_none rfl) (pv_assign rfl rfl) rfl rfl ?_
    refine awe_p rfl (wt_none rfl) (pv_assign rfl rfl) rfl rfl ?_
    refine awe_end ?_
    exact cut_n ⟨f, B, hb, rfl, rfl⟩ ssA rcA
end
theorem TopNetted_p (b : R.BookD) (hb : b.cons.length ≤ maxLen) : PCall Try.prog 4 [R.bookA false b] (fun r => r = boolA true) := by
  have u3 : b.cons.length ≤ 9223372036854775807 := hb
  have hT := R.thin_q (b := b) (r := _) u3 rfl
  clear hb
  refine acall_of_awp T0 Try.func4 rfl rfl rfl ?_
  by_cases t1 : b.cons.length ≤ 12
  case neg =>
    rw [decide_eq_false t1] at hT
    repeat (first | refine awp_seq ?_ | refine awp_region_lit rfl ?_)
    refine awl_hw wtA (st_box rfl rfl raA (by first | assumption | (simp only [cellsA]; rfl)) rfl rfl ?_)
    intro g1
    repeat (first | refine awp_seq ?_ | refine awp_region_lit rfl ?_ | ((first | (show AWL _ _ _ (⟨_, .assign _, _, _, _, _⟩ :: _) _ _ _; refine awl_pw ?wtq (pv_assign rfl rfl) rfl rfl ?_) | (show AWL _ _ _ (⟨_, .load _ _, _, _, _, _⟩ :: _) _ _ _; refine awl_lw ?wtq (lv_cla T0 rfl rfl rfl rcA rfl) rfl rfl rfl ?_)); case wtq => exact wtA) | refine awl_nil ?_)
    refine awl_hw wtA (st_call T0 (hT) rfl rfl rfl rfl (by first | exact callee_lit | exact callee_v | exact callee_fn | assumption) rcA raA rfl ?_)
    rintro _ rfl
    repeat (first | refine awp_seq ?_ | refine awp_region_lit rfl ?_ | with_reducible refine then_n ?_ | refine awp_cond_t rfl (by first | rfl | assumption | exact dT (by omega)) ?_ | ((first | (show AWL _ _ _ (⟨_, .move _, _, _, _, _⟩ :: _) _ _ _; refine awl_pw ?wtq (pv_move rfl rfl) rfl rfl ?_) | (show AWL _ _ _ (⟨_, .load _ _, _, _, _, _⟩ :: _) _ _ _; refine awl_lw ?wtq (lv_cla T0 rfl rfl rfl rcA rfl) rfl rfl rfl ?_) | (show AWL _ _ _ (⟨_, .fieldAddr _ _ _, _, _, _, _⟩ :: _) _ _ _; refine awl_pw ?wtq (pv_fa T0 rfl rfl rfl (by simp; rfl)) rfl rfl ?_) | (show AWL _ _ _ (⟨_, .unOp .not _ _, _, _, _, _⟩ :: _) _ _ _; refine awl_pw ?wtq (pv_not rfl rfl) rfl rfl ?_) | (show AWL _ _ _ (⟨_, .pick _ _ _, _, _, _, _⟩ :: _) _ _ _; refine awl_pw ?wtq (pv_pick_t rfl rfl tfA rfl) rfl rfl ?_)); case wtq => exact wtA) | refine awl_sk (wf_some rfl rfl rfl rfl tfA) rfl rfl ?_ | refine awl_nil ?_)
    refine awl_hw wtA (st_call T0 (netted_p) rfl rfl rfl rfl (by first | exact callee_lit | exact callee_v | exact callee_fn | assumption) rcA raA rfl ?_)
    rintro _ rfl
    repeat (first | refine awp_ret ?_ | with_reducible refine then_r ?_ | ((first | (show AWL _ _ _ (⟨_, .assign _, _, _, _, _⟩ :: _) _ _ _; refine awl_pw ?wtq (pv_assign rfl rfl) rfl rfl ?_)); case wtq => exact wtA) | refine awl_nil ?_)
    exact body_p (.cons rfl .nil) rfl
  rw [decide_eq_true t1] at hT
  have hF := R.fault_p false b (by omega)
  by_cases hf : R.faultN b = 0
  case neg =>
    have d1 := decide_eq_true hf
    repeat (first | refine awp_seq ?_ | refine awp_region_lit rfl ?_)
    refine awl_hw wtA (st_box rfl rfl raA (by first | assumption | (simp only [cellsA]; rfl)) rfl rfl ?_)
    intro g1
    repeat (first | refine awp_seq ?_ | refine awp_region_lit rfl ?_ | ((first | (show AWL _ _ _ (⟨_, .assign _, _, _, _, _⟩ :: _) _ _ _; refine awl_pw ?wtq (pv_assign rfl rfl) rfl rfl ?_) | (show AWL _ _ _ (⟨_, .load _ _, _, _, _, _⟩ :: _) _ _ _; refine awl_lw ?wtq (lv_cla T0 rfl rfl rfl rcA rfl) rfl rfl rfl ?_)); case wtq => exact wtA) | refine awl_nil ?_)
    refine awl_hw wtA (st_call T0 (hT) rfl rfl rfl rfl (by first | exact callee_lit | exact callee_v | exact callee_fn | assumption) rcA raA rfl ?_)
    rintro _ rfl
    repeat (first | ((first | (show AWL _ _ _ (⟨_, .move _, _, _, _, _⟩ :: _) _ _ _; refine awl_pw ?wtq (pv_move rfl rfl) rfl rfl ?_) | (show AWL _ _ _ (⟨_, .load _ _, _, _, _, _⟩ :: _) _ _ _; refine awl_lw ?wtq (lv_cla T0 rfl rfl rfl rcA rfl) rfl rfl rfl ?_) | (show AWL _ _ _ (⟨_, .unOp .not _ _, _, _, _, _⟩ :: _) _ _ _; refine awl_pw ?wtq (pv_not rfl rfl) rfl rfl ?_)); case wtq => exact wtA))
    refine awl_hw wtA (st_call T0 (hF) rfl rfl rfl rfl (by first | exact callee_lit | exact callee_v | exact callee_fn | assumption) rcA raA rfl ?_)
    rintro _ rfl
    repeat (first | refine awp_seq ?_ | refine awp_region_lit rfl ?_ | with_reducible refine then_n ?_ | refine awp_cond_t rfl (by first | rfl | assumption | exact dT (by omega)) ?_ | ((first | (show AWL _ _ _ (⟨_, .move _, _, _, _, _⟩ :: _) _ _ _; refine awl_pw ?wtq (pv_move rfl rfl) rfl rfl ?_) | (show AWL _ _ _ (⟨_, .fieldAddr _ _ _, _, _, _, _⟩ :: _) _ _ _; refine awl_pw ?wtq (pv_fa T0 rfl rfl rfl (by simp; rfl)) rfl rfl ?_) | (show AWL _ _ _ (⟨_, .binOp .neq _ _ _ _, _, _, _, _⟩ :: _) _ _ _; refine awl_pw ?wtq (pv_neq rfl rfl rfl) rfl rfl ?_) | (show AWL _ _ _ (⟨_, .pick _ _ _, _, _, _, _⟩ :: _) _ _ _; refine awl_pw ?wtq (pv_pick_t rfl rfl tfA rfl) rfl rfl ?_) | (show AWL _ _ _ (⟨_, .pick _ _ _, _, _, _, _⟩ :: _) _ _ _; refine awl_pw ?wtq (pv_pick_f rfl rfl tfA rfl) rfl rfl ?_)); case wtq => exact wtA) | refine awl_sk (wf_some rfl rfl rfl rfl tfA) rfl rfl ?_ | refine awl_nil ?_)
    refine awl_hw wtA (st_call T0 (netted_p) rfl rfl rfl rfl (by first | exact callee_lit | exact callee_v | exact callee_fn | assumption) rcA raA rfl ?_)
    rintro _ rfl
    repeat (first | refine awp_ret ?_ | with_reducible refine then_r ?_ | ((first | (show AWL _ _ _ (⟨_, .assign _, _, _, _, _⟩ :: _) _ _ _; refine awl_pw ?wtq (pv_assign rfl rfl) rfl rfl ?_)); case wtq => exact wtA) | refine awl_nil ?_)
    exact body_p (.cons rfl .nil) rfl
  rw [hf] at hF
  have hv := R.vbook hf
  have hblen := hv.len
  have hbh := hv.houses
  by_cases h4 : 4 < b.houses
  · have d1 := decide_eq_true h4
    repeat (first | refine awp_seq ?_ | refine awp_region_lit rfl ?_)
    refine awl_hw wtA (st_box rfl rfl raA (by first | assumption | (simp only [cellsA]; rfl)) rfl rfl ?_)
    intro g1
    repeat (first | refine awp_seq ?_ | refine awp_region_lit rfl ?_ | ((first | (show AWL _ _ _ (⟨_, .assign _, _, _, _, _⟩ :: _) _ _ _; refine awl_pw ?wtq (pv_assign rfl rfl) rfl rfl ?_) | (show AWL _ _ _ (⟨_, .load _ _, _, _, _, _⟩ :: _) _ _ _; refine awl_lw ?wtq (lv_cla T0 rfl rfl rfl rcA rfl) rfl rfl rfl ?_)); case wtq => exact wtA) | refine awl_nil ?_)
    refine awl_hw wtA (st_call T0 (hT) rfl rfl rfl rfl (by first | exact callee_lit | exact callee_v | exact callee_fn | assumption) rcA raA rfl ?_)
    rintro _ rfl
    repeat (first | ((first | (show AWL _ _ _ (⟨_, .move _, _, _, _, _⟩ :: _) _ _ _; refine awl_pw ?wtq (pv_move rfl rfl) rfl rfl ?_) | (show AWL _ _ _ (⟨_, .load _ _, _, _, _, _⟩ :: _) _ _ _; refine awl_lw ?wtq (lv_cla T0 rfl rfl rfl rcA rfl) rfl rfl rfl ?_) | (show AWL _ _ _ (⟨_, .unOp .not _ _, _, _, _, _⟩ :: _) _ _ _; refine awl_pw ?wtq (pv_not rfl rfl) rfl rfl ?_)); case wtq => exact wtA))
    refine awl_hw wtA (st_call T0 (hF) rfl rfl rfl rfl (by first | exact callee_lit | exact callee_v | exact callee_fn | assumption) rcA raA rfl ?_)
    rintro _ rfl
    repeat (first | refine awp_seq ?_ | refine awp_region_lit rfl ?_ | with_reducible refine then_n ?_ | refine awp_cond_t rfl (by first | rfl | assumption | exact dT (by omega)) ?_ | ((first | (show AWL _ _ _ (⟨_, .move _, _, _, _, _⟩ :: _) _ _ _; refine awl_pw ?wtq (pv_move rfl rfl) rfl rfl ?_) | (show AWL _ _ _ (⟨_, .load _ _, _, _, _, _⟩ :: _) _ _ _; refine awl_lw ?wtq (lv_cl1 T0 rfl rfl rfl rcA raA) rfl rfl rfl ?_) | (show AWL _ _ _ (⟨_, .fieldAddr _ _ _, _, _, _, _⟩ :: _) _ _ _; refine awl_pw ?wtq (pv_fa T0 rfl rfl rfl (by simp; rfl)) rfl rfl ?_) | (show AWL _ _ _ (⟨_, .binOp .gtr _ _ _ _, _, _, _, _⟩ :: _) _ _ _; refine awl_pw ?wtq (pv_gtr rfl rfl rfl) rfl rfl ?_) | (show AWL _ _ _ (⟨_, .binOp .neq _ _ _ _, _, _, _, _⟩ :: _) _ _ _; refine awl_pw ?wtq (pv_neq rfl rfl rfl) rfl rfl ?_) | (show AWL _ _ _ (⟨_, .pick _ _ _, _, _, _, _⟩ :: _) _ _ _; refine awl_pw ?wtq (pv_pick_t rfl rfl tfA rfl) rfl rfl ?_) | (show AWL _ _ _ (⟨_, .pick _ _ _, _, _, _, _⟩ :: _) _ _ _; refine awl_pw ?wtq (pv_pick_f rfl rfl tfA rfl) rfl rfl ?_)); case wtq => exact wtA) | refine awl_sk (wf_some rfl rfl rfl rfl tfA) rfl rfl ?_ | refine awl_nil ?_)
    refine awl_hw wtA (st_call T0 (netted_p) rfl rfl rfl rfl (by first | exact callee_lit | exact callee_v | exact callee_fn | assumption) rcA raA rfl ?_)
    rintro _ rfl
    repeat (first | refine awp_ret ?_ | with_reducible refine then_r ?_ | ((first | (show AWL _ _ _ (⟨_, .assign _, _, _, _, _⟩ :: _) _ _ _; refine awl_pw ?wtq (pv_assign rfl rfl) rfl rfl ?_)); case wtq => exact wtA) | refine awl_nil ?_)
    exact body_p (.cons rfl .nil) rfl
  have d1 := decide_eq_false h4
  by_cases h6 : (6 : Int) < b.cons.length
  · have d2 := decide_eq_true h6
    repeat (first | refine awp_seq ?_ | refine awp_region_lit rfl ?_)
    refine awl_hw wtA (st_box rfl rfl raA (by first | assumption | (simp only [cellsA]; rfl)) rfl rfl ?_)
    intro g1
    repeat (first | refine awp_seq ?_ | refine awp_region_lit rfl ?_ | ((first | (show AWL _ _ _ (⟨_, .assign _, _, _, _, _⟩ :: _) _ _ _; refine awl_pw ?wtq (pv_assign rfl rfl) rfl rfl ?_) | (show AWL _ _ _ (⟨_, .load _ _, _, _, _, _⟩ :: _) _ _ _; refine awl_lw ?wtq (lv_cla T0 rfl rfl rfl rcA rfl) rfl rfl rfl ?_)); case wtq => exact wtA) | refine awl_nil ?_)
    refine awl_hw wtA (st_call T0 (hT) rfl rfl rfl rfl (by first | exact callee_lit | exact callee_v | exact callee_fn | assumption) rcA raA rfl ?_)
    rintro _ rfl
    repeat (first | ((first | (show AWL _ _ _ (⟨_, .move _, _, _, _, _⟩ :: _) _ _ _; refine awl_pw ?wtq (pv_move rfl rfl) rfl rfl ?_) | (show AWL _ _ _ (⟨_, .load _ _, _, _, _, _⟩ :: _) _ _ _; refine awl_lw ?wtq (lv_cla T0 rfl rfl rfl rcA rfl) rfl rfl rfl ?_) | (show AWL _ _ _ (⟨_, .unOp .not _ _, _, _, _, _⟩ :: _) _ _ _; refine awl_pw ?wtq (pv_not rfl rfl) rfl rfl ?_)); case wtq => exact wtA))
    refine awl_hw wtA (st_call T0 (hF) rfl rfl rfl rfl (by first | exact callee_lit | exact callee_v | exact callee_fn | assumption) rcA raA rfl ?_)
    rintro _ rfl
    repeat (first | refine awp_seq ?_ | refine awp_region_lit rfl ?_ | with_reducible refine then_n ?_ | refine awp_cond_t rfl (by first | rfl | assumption | exact dT (by omega)) ?_ | ((first | (show AWL _ _ _ (⟨_, .move _, _, _, _, _⟩ :: _) _ _ _; refine awl_pw ?wtq (pv_move rfl rfl) rfl rfl ?_) | (show AWL _ _ _ (⟨_, .load _ _, _, _, _, _⟩ :: _) _ _ _; refine awl_lw ?wtq (lv_cl1 T0 rfl rfl rfl rcA raA) rfl rfl rfl ?_) | (show AWL _ _ _ (⟨_, .fieldAddr _ _ _, _, _, _, _⟩ :: _) _ _ _; refine awl_pw ?wtq (pv_fa T0 rfl rfl rfl (by simp; rfl)) rfl rfl ?_) | (show AWL _ _ _ (⟨_, .binOp .gtr _ _ _ _, _, _, _, _⟩ :: _) _ _ _; refine awl_pw ?wtq (pv_gtr rfl rfl rfl) rfl rfl ?_) | (show AWL _ _ _ (⟨_, .binOp .neq _ _ _ _, _, _, _, _⟩ :: _) _ _ _; refine awl_pw ?wtq (pv_neq rfl rfl rfl) rfl rfl ?_) | (show AWL _ _ _ (⟨_, .call ⟨.builtin .len, _, _⟩, _, _, _, _⟩ :: _) _ _ _; refine awl_pw ?wtq (pv_len_t T0 rfl rfl rfl) rfl rfl ?_) | (show AWL _ _ _ (⟨_, .pick _ _ _, _, _, _, _⟩ :: _) _ _ _; refine awl_pw ?wtq (pv_pick_f rfl rfl tfA rfl) rfl rfl ?_)); case wtq => exact wtA) | refine awl_nil ?_)
    refine awl_hw wtA (st_call T0 (netted_p) rfl rfl rfl rfl (by first | exact callee_lit | exact callee_v | exact callee_fn | assumption) rcA raA rfl ?_)
    rintro _ rfl
    repeat (first | refine awp_ret ?_ | with_reducible refine then_r ?_ | ((first | (show AWL _ _ _ (⟨_, .assign _, _, _, _, _⟩ :: _) _ _ _; refine awl_pw ?wtq (pv_assign rfl rfl) rfl rfl ?_)); case wtq => exact wtA) | refine awl_nil ?_)
    exact body_p (.cons rfl .nil) rfl
  have d2 := decide_eq_false h6
  obtain ⟨hvy, hyn⟩ := y_v hv
  have hyl := y_len b
  have hyf := y_fault hv
  have hvd : S.VDue b.houses.toNat (duesOf (yBook b)) := vdue_of hvy (by show b.houses ≤ 4; omega) (by rw [hyl]; omega) hyn
  have hdl : (duesOf (yBook b)).length = b.cons.length := by rw [dues_len, hyl]
  have hya : ∀ k, k < b.cons.length → (yBook b).cons.getD k default = yCon (b.cons.getD k default) := fun k hk => y_at hk
  have hda : ∀ k, k < b.cons.length → (duesOf (yBook b)).getD k default = dueOf (yCon (b.cons.getD k default)) := fun k hk => by rw [dues_at, hya k hk]
  have hmod : ∀ k, k < b.cons.length → 0 ≤ (b.cons.getD k default).num.tmod 4 ∧ (b.cons.getD k default).num.tmod 4 ≤ 3 := fun k hk => mod4 (by have := hv.num k hk; omega)
  have hnet : ∀ o hs f B, R.isGr (yBook b) o hs → S.BestD b.houses.toNat (duesOf (yBook b)) f B → BestOff (yBook b) o f B := fun o hs f B h1 h2 => best_off hvy h1 h2
  have hoS : S.owS (duesOf (yBook b)) (duesOf (yBook b)).length = R.sumR (yBook b).cons.length (R.numF (yBook b)) := by rw [ow_dues, dues_len]
  have hG := R.greatest_p true (yBook b) (by omega)
  have hW := R.fewest_p true (yBook b) (by omega)
  simp only [if_pos hyf] at hG hW
  have hBk := R.book_w true (yBook b) (by omega)
  obtain ⟨hn, ehn⟩ : ∃ hn : Nat, hn = b.houses.toNat := ⟨_, rfl⟩
  have ehz : b.houses = (hn : Int) := by omega
  rw [← ehn] at hvd hnet
  have hO := S.refowed_p true true true hn (duesOf (yBook b)) hvd
  obtain ⟨bh, bc⟩ := b
  obtain rfl : bh = (hn : Int) := ehz
  dsimp only [yBook] at hvy hyl hyf hdl hya hda hnet hG hW hBk hO hvd hyn hoS
  generalize hY : bc.map yCon = yc at *
  generalize hD : duesOf ⟨(hn : Int), yc⟩ = ds at *
  clear hY hD ehn hyn
  repeat (first | refine awp_seq ?_ | refine awp_region_lit rfl ?_)
  refine awl_hw wtA (st_box rfl rfl raA (by first | assumption | (simp only [cellsA]; rfl)) rfl rfl ?_)
  intro g1
  repeat (first | refine awp_seq ?_ | refine awp_region_lit rfl ?_ | ((first | (show AWL _ _ _ (⟨_, .assign _, _, _, _, _⟩ :: _) _ _ _; refine awl_pw ?wtq (pv_assign rfl rfl) rfl rfl ?_) | (show AWL _ _ _ (⟨_, .load _ _, _, _, _, _⟩ :: _) _ _ _; refine awl_lw ?wtq (lv_cla T0 rfl rfl rfl rcA rfl) rfl rfl rfl ?_)); case wtq => exact wtA) | refine awl_nil ?_)
  refine awl_hw wtA (st_call T0 (hT) rfl rfl rfl rfl (by first | exact callee_lit | exact callee_v | exact callee_fn | assumption) rcA raA rfl ?_)
  rintro _ rfl
  repeat (first | ((first | (show AWL _ _ _ (⟨_, .move _, _, _, _, _⟩ :: _) _ _ _; refine awl_pw ?wtq (pv_move rfl rfl) rfl rfl ?_) | (show AWL _ _ _ (⟨_, .load _ _, _, _, _, _⟩ :: _) _ _ _; refine awl_lw ?wtq (lv_cla T0 rfl rfl rfl rcA rfl) rfl rfl rfl ?_) | (show AWL _ _ _ (⟨_, .unOp .not _ _, _, _, _, _⟩ :: _) _ _ _; refine awl_pw ?wtq (pv_not rfl rfl) rfl rfl ?_)); case wtq => exact wtA))
  refine awl_hw wtA (st_call T0 (hF) rfl rfl rfl rfl (by first | exact callee_lit | exact callee_v | exact callee_fn | assumption) rcA raA rfl ?_)
  rintro _ rfl
  repeat (first | refine awp_seq ?_ | refine awp_region_lit rfl ?_ | refine awp_skip ?_ | with_reducible refine then_n ?_ | refine awp_cond_f rfl (by first | rfl | assumption | exact dF (by omega)) ?_ | ((first | (show AWL _ _ _ (⟨_, .move _, _, _, _, _⟩ :: _) _ _ _; refine awl_pw ?wtq (pv_move rfl rfl) rfl rfl ?_) | (show AWL _ _ _ (⟨_, .load _ _, _, _, _, _⟩ :: _) _ _ _; refine awl_lw ?wtq (lv_cl1 T0 rfl rfl rfl rcA raA) rfl rfl rfl ?_) | (show AWL _ _ _ (⟨_, .fieldAddr _ _ _, _, _, _, _⟩ :: _) _ _ _; refine awl_pw ?wtq (pv_fa T0 rfl rfl rfl (by simp; rfl)) rfl rfl ?_) | (show AWL _ _ _ (⟨_, .build _ _, _, _, _, _⟩ :: _) _ _ _; refine awl_pw ?wtq (pv_build T0 rfl rfl rfl scA (by first | ((repeat' (first | exact BParts.nil | apply BParts.cons | rfl)); all_goals fail) | fail) (by first | ((repeat' (first | exact FillA.nil | exact Sp.done | apply FillA.cons | apply Sp.put | apply Sp.skip | (simp only [cellsA]; rfl) | rfl)); all_goals fail) | fail)) rfl rfl ?_) | (show AWL _ _ _ (⟨_, .binOp .gtr _ _ _ _, _, _, _, _⟩ :: _) _ _ _; refine awl_pw ?wtq (pv_gtr rfl rfl rfl) rfl rfl ?_) | (show AWL _ _ _ (⟨_, .binOp .neq _ _ _ _, _, _, _, _⟩ :: _) _ _ _; refine awl_pw ?wtq (pv_neq rfl rfl rfl) rfl rfl ?_) | (show AWL _ _ _ (⟨_, .call ⟨.builtin .len, _, _⟩, _, _, _, _⟩ :: _) _ _ _; refine awl_pw ?wtq (pv_len_t T0 rfl rfl rfl) rfl rfl ?_) | (show AWL _ _ _ (⟨_, .pick _ _ _, _, _, _, _⟩ :: _) _ _ _; refine awl_pw ?wtq (pv_pick_f rfl rfl tfA rfl) rfl rfl ?_)); case wtq => exact wtA) | refine awl_nil ?_)
  refine awl_hw wtA (st_alloc T0 rfl rfl rfl rfl scA ?_)
  intro g3
  repeat (first | refine awp_seq ?_ | (show AWL _ _ _ (⟨_, .store _ _ _, _, _, _, _⟩ :: _) _ _ _; refine awl_hw wtA (st_store T0 rfl rfl rfl rfl rfl (by first | assumption | (simp only [cellsA]; rfl)) rfl rfl rfl rcA rcA trivial ?_)) | refine awl_nil ?_)
  dsimp only at hblen hbh h4 h6 hmod
  have hyd : ds.length = yc.length := by omega
  have eT : S.duesT true ds = .sl true 3 yc.length (fun q => S.dueL (ds.getD q default)) := by
    unfold S.duesT
    rw [hyd]
  clear hT hF hv hf u3 t1 d1
  refine awp_cut _ (awp_weak ssA rcA (bj_4 (g1 := g1) (g3 := g3) (hn := hn) (y1 := S.nilA) (cs := bc) (by omega) rfl)) ?_
  rintro s h ⟨g4, g43, g47, rfl, rfl⟩
  refine awp_ghost (ghost_freeze_cell (g := g4) (j := 1) (v := .slice (some ⟨g43, 0, none⟩) 1 1) (E := 3) (sz := 1) (n := 1) (rows := [[intA 0]]) (fun q => [.sc (.int .i64 (([0] : List Int).getD q 0))]) rcA rcA rfl rfl rfl (intRows_tree [0])) ?_
  refine awp_ghost (ghost_freeze_cell (g := g4) (j := 5) (v := .slice (some ⟨g47, 0, none⟩) hn hn) (E := 4) (sz := 1) (n := hn) (rows := List.replicate hn [.v (.bool false)]) (fun _ => [.sc (.bool false)]) rcA rcA rfl rfl (by simp) (offRow_rep hn)) ?_
  refine awp_ghost (ghost_nilrow 93 4) ?_
  refine awp_ghost (ghost_nilrow 95 3) ?_
  repeat (first | refine awp_seq ?_ | refine awp_block ?_ | refine awp_region_lit rfl ?_ | ((first | (show AWL _ _ _ (⟨_, .assign _, _, _, _, _⟩ :: _) _ _ _; refine awl_pw ?wtq (pv_assign rfl rfl) rfl rfl ?_)); case wtq => exact wtA) | refine awl_nil ?_)
  refine awp_loop (fun q s h => ∃ (k : Nat) (a1 a2 : Option Addr) (c1 c2 : Nat) (r1 r2 : List (List AV)), k ≤ bc.length ∧ q = bc.length - k ∧ r1.length = k ∧ r2.length = k ∧ r1 = (yc.take k).map R.conRow ∧ r2 = (ds.take k).map S.dueRow ∧
    s = [(1, .v (ptrV g1)), (3, .v (ptrV g3)), (4, .v (ptrV g4)), (5, intA k)] ∧ h = [.cl g1 81 [intA (hn : Int), .t (R.consT false bc)], .cl g3 81 [intA (hn : Int), .v (.slice a1 k c1)], .rw (.slice a1 k c1) 93 4 r1, .cl g4 91 [intA (hn : Int), .t (intsT true [0]), S.nilA, S.nilA, intA 0, .t (S.offT true hn), .v (.slice a2 k c2)], .rw (.slice a2 k c2) 95 3 r2]) ?_ ⟨0, none, none, 0, 0, [], [], Nat.zero_le _, rfl, rfl, rfl, rfl, rfl, rfl, rfl⟩ ssA rcA
  rintro q s h ⟨k, a1, a2, c1, c2, r1, r2, hk, rfl, hl1, hl2, hr1, hr2, rfl, rfl⟩
  by_cases hlt : k < bc.length
  · have hm := hmod k hlt
    have e1 : (1 : Int) + (bc.getD k default).num.tmod 4 ≤ 1000 ∧ 0 ≤ (1 : Int) + (bc.getD k default).num.tmod 4 := by omega
    repeat (first | refine awp_seq ?_ | refine awp_block ?_ | refine awp_region_lit rfl ?_ | refine awp_skip ?_ | with_reducible refine then_n ?_ | refine awp_cond_t rfl (by first | rfl | assumption | exact dT (by omega)) ?_ | ((first | (show AWL _ _ _ (⟨_, .move _, _, _, _, _⟩ :: _) _ _ _; refine awl_pw ?wtq (pv_move rfl rfl) rfl rfl ?_) | (show AWL _ _ _ (⟨_, .load _ _, _, _, _, _⟩ :: _) _ _ _; refine awl_lw ?wtq (lv_cl1 T0 rfl rfl rfl rcA raA) rfl rfl rfl ?_) | (show AWL _ _ _ (⟨_, .load _ _, _, _, _, _⟩ :: _) _ _ _; refine awl_lw ?wtq (lv_elt_ag T0 rfl rfl rfl rfl rcA) rfl rfl rfl ?_) | (show AWL _ _ _ (⟨_, .fieldAddr _ _ _, _, _, _, _⟩ :: _) _ _ _; refine awl_pw ?wtq (pv_fa T0 rfl rfl rfl (by simp; rfl)) rfl rfl ?_) | (show AWL _ _ _ (⟨_, .indexAddr _ _ _, _, _, _, _⟩ :: _) _ _ _; refine awl_pw ?wtq (pv_ix_t T0 rfl rfl rfl rfl (by omega) ixA) rfl rfl ?_) | (show AWL _ _ _ (⟨_, .binOp .lss _ _ _ _, _, _, _, _⟩ :: _) _ _ _; refine awl_pw ?wtq (pv_lss rfl rfl rfl) rfl rfl ?_) | (show AWL _ _ _ (⟨_, .call ⟨.builtin .len, _, _⟩, _, _, _, _⟩ :: _) _ _ _; refine awl_pw ?wtq (pv_len_t T0 rfl rfl rfl) rfl rfl ?_)); case wtq => exact wtA) | refine awl_nil ?_)
    refine awl_hw wtA (st_alloc T0 rfl rfl rfl rfl scA ?_)
    intro g6
    repeat (first | refine awp_seq ?_ | refine awp_region_lit rfl ?_ | ((first | (show AWL _ _ _ (⟨_, .load _ _, _, _, _, _⟩ :: _) _ _ _; refine awl_lw ?wtq (lv_cl1 T0 rfl rfl rfl rcA raA) rfl rfl rfl ?_) | (show AWL _ _ _ (⟨_, .load _ _, _, _, _, _⟩ :: _) _ _ _; refine awl_lw ?wtq (lv_cla T0 rfl rfl rfl rcA rfl) rfl rfl rfl ?_) | (show AWL _ _ _ (⟨_, .fieldAddr _ _ _, _, _, _, _⟩ :: _) _ _ _; refine awl_pw ?wtq (pv_fa T0 rfl rfl rfl (by simp; rfl)) rfl rfl ?_) | (show AWL _ _ _ (⟨_, .binOp .add _ _ _ _, _, _, _, _⟩ :: _) _ _ _; refine awl_pw ?wtq (pv_add rfl rfl rfl (by first | assumption | exact wr64 (by omega))) rfl rfl ?_) | (show AWL _ _ _ (⟨_, .binOp .rem _ _ _ _, _, _, _, _⟩ :: _) _ _ _; refine awl_pw ?wtq (pv_rem rfl rfl rfl (by omega) (by first | assumption | rfl)) rfl rfl ?_)); case wtq => exact wtA) | (show AWL _ _ _ (⟨_, .store _ _ _, _, _, _, _⟩ :: _) _ _ _; refine awl_hw wtA (st_store T0 rfl rfl rfl rfl rfl (by first | assumption | (simp only [cellsA]; rfl)) rfl rfl rfl rcA rcA trivial ?_)) | refine awl_nil ?_)
    refine awl_hw wtA (st_bsl T0 rfl rfl rfl rfl rfl rcA rfl rfl rfl rfl (by simp only [List.map_cons, List.map_nil, cellsA]; rfl) ?_)
    intro g69
    skip
    refine awl_hw wtA (st_app T0 rfl rfl rfl rfl rfl rfl rfl rfl rfl rcA rcA rfl rfl hl1 (by omega) (fun _ _ => trivial) ?_)
    intro a70 c70 p70
    repeat (first | refine awp_region_lit rfl ?_ | ((first | (show AWL _ _ _ (⟨_, .load _ _, _, _, _, _⟩ :: _) _ _ _; refine awl_lw ?wtq (lv_cl1 T0 rfl rfl rfl rcA raA) rfl rfl rfl ?_) | (show AWL _ _ _ (⟨_, .fieldAddr _ _ _, _, _, _, _⟩ :: _) _ _ _; refine awl_pw ?wtq (pv_fa T0 rfl rfl rfl (by simp; rfl)) rfl rfl ?_) | (show AWL _ _ _ (⟨_, .build _ _, _, _, _, _⟩ :: _) _ _ _; refine awl_pw ?wtq (pv_build T0 rfl rfl rfl scA (by first | ((repeat' (first | exact BParts.nil | apply BParts.cons | rfl)); all_goals fail) | fail) (by first | ((repeat' (first | exact FillA.nil | exact Sp.done | apply FillA.cons | apply Sp.put | apply Sp.skip | (simp only [cellsA]; rfl) | rfl)); all_goals fail) | fail)) rfl rfl ?_)); case wtq => exact wtA) | (show AWL _ _ _ (⟨_, .store _ _ _, _, _, _, _⟩ :: _) _ _ _; refine awl_hw wtA (st_store T0 rfl rfl rfl rfl rfl (by first | assumption | (simp only [cellsA]; rfl)) rfl rfl rfl rcA rcA trivial ?_)) | refine awl_nil ?_)
    refine awl_hw wtA (st_bsl T0 rfl rfl rfl rfl rfl rcA rfl rfl rfl rfl (by simp only [List.map_cons, List.map_nil, cellsA]; rfl) ?_)
    intro g81
    skip
    refine awl_hw wtA (st_app T0 rfl rfl rfl rfl rfl rfl rfl rfl rfl rcA rcA rfl rfl hl2 (by omega) (fun _ _ => trivial) ?_)
    intro a82 c82 p82
    repeat (first | refine awp_region_lit rfl ?_ | ((first | (show AWL _ _ _ (⟨_, .move _, _, _, _, _⟩ :: _) _ _ _; refine awl_pw ?wtq (pv_move rfl rfl) rfl rfl ?_) | (show AWL _ _ _ (⟨_, .assign _, _, _, _, _⟩ :: _) _ _ _; refine awl_pw ?wtq (pv_assign rfl rfl) rfl rfl ?_) | (show AWL _ _ _ (⟨_, .fieldAddr _ _ _, _, _, _, _⟩ :: _) _ _ _; refine awl_pw ?wtq (pv_fa T0 rfl rfl rfl (by simp; rfl)) rfl rfl ?_) | (show AWL _ _ _ (⟨_, .binOp .add _ _ _ _, _, _, _, _⟩ :: _) _ _ _; refine awl_pw ?wtq (pv_add rfl rfl rfl (by first | assumption | exact wr64 (by omega))) rfl rfl ?_)); case wtq => exact wtA) | (show AWL _ _ _ (⟨_, .store _ _ _, _, _, _, _⟩ :: _) _ _ _; refine awl_hw wtA (st_store T0 rfl rfl rfl rfl rfl (by first | assumption | (simp only [cellsA]; rfl)) rfl rfl rfl rcA rcA trivial ?_)) | refine awl_nil ?_)
    refine rnd_n _ _ _ ?_ ⟨k + 1, a70, a82, c70, c82, _, _, hlt, rfl, ?_, ?_, ?_, ?_, rfl, rfl⟩ ssA rcA
    · omega
    · rw [List.length_append, hl1]; rfl
    · rw [List.length_append, hl2]; rfl
    · rw [hr1, ycon_step (show k < yc.length by omega), hya k hlt]; rfl
    · rw [hr2, S.due_step (show k < ds.length by omega), hda k hlt]; rfl
  obtain rfl : k = yc.length := by omega
  rw [List.take_length] at hr1
  rw [List.take_of_length_le (by omega)] at hr2
  subst hr1 hr2
  refine awp_ghost (ghost_freeze_cell (g := g3) (j := 1) (v := .slice a1 yc.length c1) (E := 93) (sz := 4) (n := yc.length) (rows := yc.map R.conRow) (fun q => R.conL (yc.getD q default)) rcA rcA rfl rfl hl1 (rows_tree yc R.conRow R.conL (fun _ => rfl))) ?_
  refine awp_ghost (ghost_freeze_cell (g := g4) (j := 6) (v := .slice a2 yc.length c2) (E := 95) (sz := 3) (n := yc.length) (rows := ds.map S.dueRow) (fun q => S.dueL (ds.getD q default)) rcA rcA rfl rfl hl2 (fun k hk => rows_tree ds S.dueRow S.dueL (fun _ => rfl) k (by omega))) ?_
  rw [← eT]
  repeat (first | refine awp_seq ?_ | refine awp_region_lit rfl ?_ | refine awp_exit ?_ | with_reducible refine then_n ?_ | refine awp_cond_f rfl (by first | rfl | assumption | exact dF (by omega)) ?_ | ((first | (show AWL _ _ _ (⟨_, .move _, _, _, _, _⟩ :: _) _ _ _; refine awl_pw ?wtq (pv_move rfl rfl) rfl rfl ?_) | (show AWL _ _ _ (⟨_, .load _ _, _, _, _, _⟩ :: _) _ _ _; refine awl_lw ?wtq (lv_cl1 T0 rfl rfl rfl rcA raA) rfl rfl rfl ?_) | (show AWL _ _ _ (⟨_, .load _ _, _, _, _, _⟩ :: _) _ _ _; refine awl_lw ?wtq (lv_cla T0 rfl rfl rfl rcA rfl) rfl rfl rfl ?_) | (show AWL _ _ _ (⟨_, .fieldAddr _ _ _, _, _, _, _⟩ :: _) _ _ _; refine awl_pw ?wtq (pv_fa T0 rfl rfl rfl (by simp; rfl)) rfl rfl ?_) | (show AWL _ _ _ (⟨_, .binOp .lss _ _ _ _, _, _, _, _⟩ :: _) _ _ _; refine awl_pw ?wtq (pv_lss rfl rfl rfl) rfl rfl ?_) | (show AWL _ _ _ (⟨_, .call ⟨.builtin .len, _, _⟩, _, _, _, _⟩ :: _) _ _ _; refine awl_pw ?wtq (pv_len_t T0 rfl rfl rfl) rfl rfl ?_)); case wtq => exact wtA) | refine awl_nil ?_)
  refine awl_hw wtA (st_call T0 (hBk) rfl rfl rfl rfl (by first | exact callee_lit | exact callee_v | exact callee_fn | assumption) rcA raA rfl ?_)
  rintro _ rfl
  skip
  refine awl_hw wtA (st_call T0 (hG) rfl rfl rfl rfl (by first | exact callee_lit | exact callee_v | exact callee_fn | assumption) rcA raA rfl ?_)
  rintro r ⟨o, hs, rfl, hg⟩
  repeat (first | refine awp_seq ?_ | ((first | (show AWL _ _ _ (⟨_, .move _, _, _, _, _⟩ :: _) _ _ _; refine awl_pw ?wtq (pv_move rfl rfl) rfl rfl ?_) | (show AWL _ _ _ (⟨_, .assign _, _, _, _, _⟩ :: _) _ _ _; refine awl_pw ?wtq (pv_assign rfl rfl) rfl rfl ?_) | (show AWL _ _ _ (⟨_, .extract _ _, _, _, _, _⟩ :: _) _ _ _; refine awl_pw ?wtq (pv_extract rfl rfl rfl) rfl rfl ?_)); case wtq => exact wtA) | refine awl_nil ?_)
  have gf := R.gr_facts hvy hg
  have hol : o.length = yc.length := gf.len
  have hbd := gf.bd
  have hob := S.owS_bd hvd ds.length (Nat.le_refl _)
  refine awp_cut _ (awp_weak ssA rcA (bj_13 (g1 := g1) (g3 := g3) (g4 := g4) (hn := hn) (y1 := .t (R.consT true yc)) (by omega) hvd rfl (u7 := .t (intsT true o)) (u8 := intA 0) (u9 := intA 0) (cs := bc))) ?_
  rintro s h ⟨f, B, hB, rfl, rfl⟩
  have hbo := hnet o hs f B hg hB
  have b1 := hbo.off
  have b2 := hbo.sum
  have b3 := hbo.bought
  dsimp only at b1 b2 b3
  rw [← hoS] at b3
  rw [hyd]
  have hfl : (R.digL f yc.length).length = yc.length := by simp [R.digL]
  have hI1 : PCall Try.prog 28 [R.bookA true ⟨(hn : Int), yc⟩, .t (intsT true o)] (fun r => r = boolA true) := C.acall_args (by have := R.roff_p true ⟨(hn : Int), yc⟩ o hvy (by omega); rwa [gf.isoff] at this) (.cons (R.bookA_le _) (.cons (.refl _) .nil))
  have hI2 : PCall Try.prog 28 [R.bookA true ⟨(hn : Int), yc⟩, .t (intsT true (R.digL f yc.length))] (fun r => r = boolA true) := C.acall_args (by have := R.roff_p true ⟨(hn : Int), yc⟩ (R.digL f yc.length) hvy (by omega); rwa [b1] at this) (.cons (R.bookA_le _) (.cons (.refl _) .nil))
  have hT1 := R.total_v (cp := true) (xs := o) (y := R.sumI o) (by omega) (off_elem hvy gf.isoff) rfl
  have hT2 := R.total_v (cp := true) (xs := R.digL f yc.length) (y := R.sumI o) (by omega) (off_elem hvy b1) b2
  have d7 : decide (B = S.owS ds ds.length - R.sumI o) = true := decide_eq_true b3
  have d8 : decide (R.sumI o = R.sumI o) = true := decide_eq_true rfl
  repeat (first | refine awp_seq ?_ | refine awp_region_lit rfl ?_ | ((first | (show AWL _ _ _ (⟨_, .load _ _, _, _, _, _⟩ :: _) _ _ _; refine awl_lw ?wtq (lv_cla T0 rfl rfl rfl rcA rfl) rfl rfl rfl ?_)); case wtq => exact wtA))
  refine awl_hw wtA (st_call T0 (hBk) rfl rfl rfl rfl (by first | exact callee_lit | exact callee_v | exact callee_fn | assumption) rcA raA rfl ?_)
  rintro _ rfl
  skip
  refine awl_hw wtA (st_call T0 (hW) rfl rfl rfl rfl (by first | exact callee_lit | exact callee_v | exact callee_fn | assumption) rcA raA rfl ?_)
  rintro r ⟨sF, fF, hfw, rfl⟩
  have hdel := R.few_deliv hvy hfw
  have hfl2 : (R.digL fF yc.length).length = yc.length := by simp [R.digL]
  have hI3' : PCall Try.prog 29 [R.bookA false ⟨(hn : Int), yc⟩, .t (intsT true (R.digL fF yc.length))] (fun x => x = .tup [intA (R.aboveN (R.digL fF yc.length)), boolA true]) := by
    have := R.isdel_q true ⟨(hn : Int), yc⟩ (R.digL fF yc.length) hvy (by omega) (r := true) hdel
    simpa only [if_pos] using this
  have hI3 : PCall Try.prog 29 [R.bookA true ⟨(hn : Int), yc⟩, .t (intsT true (R.digL fF yc.length))] (fun x => x = .tup [intA (R.aboveN (R.digL fF yc.length)), boolA true]) := C.acall_args hI3' (.cons (R.bookA_le _) (.cons (.refl _) .nil))
  repeat (first | refine awp_seq ?_ | refine awp_region_lit rfl ?_ | ((first | (show AWL _ _ _ (⟨_, .move _, _, _, _, _⟩ :: _) _ _ _; refine awl_pw ?wtq (pv_move rfl rfl) rfl rfl ?_) | (show AWL _ _ _ (⟨_, .assign _, _, _, _, _⟩ :: _) _ _ _; refine awl_pw ?wtq (pv_assign rfl rfl) rfl rfl ?_) | (show AWL _ _ _ (⟨_, .load _ _, _, _, _, _⟩ :: _) _ _ _; refine awl_lw ?wtq (lv_cla T0 rfl rfl rfl rcA rfl) rfl rfl rfl ?_) | (show AWL _ _ _ (⟨_, .binOp .neq _ _ _ _, _, _, _, _⟩ :: _) _ _ _; refine awl_pw ?wtq (pv_neq rfl rfl rfl) rfl rfl ?_) | (show AWL _ _ _ (⟨_, .extract _ _, _, _, _, _⟩ :: _) _ _ _; refine awl_pw ?wtq (pv_extract rfl rfl rfl) rfl rfl ?_) | (show AWL _ _ _ (⟨_, .pick _ _ _, _, _, _, _⟩ :: _) _ _ _; refine awl_pw ?wtq (pv_pick_f rfl rfl tfA rfl) rfl rfl ?_)); case wtq => exact wtA) | refine awl_nil ?_)
  refine awl_hw wtA (st_call T0 (hI1) rfl rfl rfl rfl (by first | exact callee_lit | exact callee_v | exact callee_fn | assumption) rcA raA rfl ?_)
  rintro _ rfl
  repeat (first | ((first | (show AWL _ _ _ (⟨_, .move _, _, _, _, _⟩ :: _) _ _ _; refine awl_pw ?wtq (pv_move rfl rfl) rfl rfl ?_) | (show AWL _ _ _ (⟨_, .load _ _, _, _, _, _⟩ :: _) _ _ _; refine awl_lw ?wtq (lv_cla T0 rfl rfl rfl rcA rfl) rfl rfl rfl ?_) | (show AWL _ _ _ (⟨_, .unOp .not _ _, _, _, _, _⟩ :: _) _ _ _; refine awl_pw ?wtq (pv_not rfl rfl) rfl rfl ?_) | (show AWL _ _ _ (⟨_, .pick _ _ _, _, _, _, _⟩ :: _) _ _ _; refine awl_pw ?wtq (pv_pick_f rfl rfl tfA rfl) rfl rfl ?_)); case wtq => exact wtA))
  refine awl_hw wtA (st_call T0 (hI2) rfl rfl rfl rfl (by first | exact callee_lit | exact callee_v | exact callee_fn | assumption) rcA raA rfl ?_)
  rintro _ rfl
  repeat (first | refine awp_seq ?_ | refine awp_region_lit rfl ?_ | refine awp_skip ?_ | with_reducible refine then_n ?_ | refine awp_cond_f rfl (by first | rfl | assumption | exact dF (by omega)) ?_ | ((first | (show AWL _ _ _ (⟨_, .move _, _, _, _, _⟩ :: _) _ _ _; refine awl_pw ?wtq (pv_move rfl rfl) rfl rfl ?_) | (show AWL _ _ _ (⟨_, .load _ _, _, _, _, _⟩ :: _) _ _ _; refine awl_lw ?wtq (lv_cla T0 rfl rfl rfl rcA rfl) rfl rfl rfl ?_) | (show AWL _ _ _ (⟨_, .unOp .not _ _, _, _, _, _⟩ :: _) _ _ _; refine awl_pw ?wtq (pv_not rfl rfl) rfl rfl ?_) | (show AWL _ _ _ (⟨_, .pick _ _ _, _, _, _, _⟩ :: _) _ _ _; refine awl_pw ?wtq (pv_pick_f rfl rfl tfA rfl) rfl rfl ?_)); case wtq => exact wtA) | refine awl_nil ?_)
  refine awl_hw wtA (st_call T0 (hI3) rfl rfl rfl rfl (by first | exact callee_lit | exact callee_v | exact callee_fn | assumption) rcA raA rfl ?_)
  rintro _ rfl
  repeat (first | refine awp_seq ?_ | refine awp_region_lit rfl ?_ | ((first | (show AWL _ _ _ (⟨_, .move _, _, _, _, _⟩ :: _) _ _ _; refine awl_pw ?wtq (pv_move rfl rfl) rfl rfl ?_) | (show AWL _ _ _ (⟨_, .assign _, _, _, _, _⟩ :: _) _ _ _; refine awl_pw ?wtq (pv_assign rfl rfl) rfl rfl ?_) | (show AWL _ _ _ (⟨_, .load _ _, _, _, _, _⟩ :: _) _ _ _; refine awl_lw ?wtq (lv_cla T0 rfl rfl rfl rcA rfl) rfl rfl rfl ?_) | (show AWL _ _ _ (⟨_, .extract _ _, _, _, _, _⟩ :: _) _ _ _; refine awl_pw ?wtq (pv_extract rfl rfl rfl) rfl rfl ?_)); case wtq => exact wtA) | refine awl_nil ?_)
  refine awl_hw wtA (st_call T0 (hO) rfl rfl rfl rfl (by first | exact callee_lit | exact callee_v | exact callee_fn | assumption) rcA raA rfl ?_)
  rintro _ rfl
  repeat (first | ((first | (show AWL _ _ _ (⟨_, .move _, _, _, _, _⟩ :: _) _ _ _; refine awl_pw ?wtq (pv_move rfl rfl) rfl rfl ?_)); case wtq => exact wtA))
  refine awl_hw wtA (st_call T0 (hT1) rfl rfl rfl rfl (by first | exact callee_lit | exact callee_v | exact callee_fn | assumption) rcA raA rfl ?_)
  rintro _ rfl
  repeat (first | ((first | (show AWL _ _ _ (⟨_, .move _, _, _, _, _⟩ :: _) _ _ _; refine awl_pw ?wtq (pv_move rfl rfl) rfl rfl ?_) | (show AWL _ _ _ (⟨_, .binOp .sub _ _ _ _, _, _, _, _⟩ :: _) _ _ _; refine awl_pw ?wtq (pv_sub rfl rfl rfl (by first | assumption | exact wr64 (by omega))) rfl rfl ?_) | (show AWL _ _ _ (⟨_, .binOp .eql _ _ _ _, _, _, _, _⟩ :: _) _ _ _; refine awl_pw ?wtq (pv_eql rfl rfl rfl) rfl rfl ?_)); case wtq => exact wtA))
  refine awl_hw wtA (st_call T0 (hT2) rfl rfl rfl rfl (by first | exact callee_lit | exact callee_v | exact callee_fn | assumption) rcA raA rfl ?_)
  rintro _ rfl
  repeat (first | ((first | (show AWL _ _ _ (⟨_, .move _, _, _, _, _⟩ :: _) _ _ _; refine awl_pw ?wtq (pv_move rfl rfl) rfl rfl ?_)); case wtq => exact wtA))
  refine awl_hw wtA (st_call T0 (hT1) rfl rfl rfl rfl (by first | exact callee_lit | exact callee_v | exact callee_fn | assumption) rcA raA rfl ?_)
  rintro _ rfl
  repeat (first | ((first | (show AWL _ _ _ (⟨_, .move _, _, _, _, _⟩ :: _) _ _ _; refine awl_pw ?wtq (pv_move rfl rfl) rfl rfl ?_) | (show AWL _ _ _ (⟨_, .binOp .eql _ _ _ _, _, _, _, _⟩ :: _) _ _ _; refine awl_pw ?wtq (pv_eql rfl rfl rfl) rfl rfl ?_) | (show AWL _ _ _ (⟨_, .pick _ _ _, _, _, _, _⟩ :: _) _ _ _; refine awl_pw ?wtq (pv_pick_t rfl rfl tfA rfl) rfl rfl ?_)); case wtq => exact wtA))
  refine awl_hw wtA (st_call T0 (netted_p) rfl rfl rfl rfl (by first | exact callee_lit | exact callee_v | exact callee_fn | assumption) rcA raA rfl ?_)
  rintro _ rfl
  repeat (first | refine awp_ret ?_ | ((first | (show AWL _ _ _ (⟨_, .assign _, _, _, _, _⟩ :: _) _ _ _; refine awl_pw ?wtq (pv_assign rfl rfl) rfl rfl ?_) | (show AWL _ _ _ (⟨_, .pick _ _ _, _, _, _, _⟩ :: _) _ _ _; refine awl_pw ?wtq (pv_pick_t rfl rfl tfA rfl) rfl rfl ?_)); case wtq => exact wtA) | refine awl_nil ?_)
  exact body_p (.cons rfl .nil) rfl
end Go.Proofs.Ytlpknbneilgjkaa
