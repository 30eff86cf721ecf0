/- The walk over Bank.ends. -/
import Derived.Test.YtfiacjdkdjkiiaaW15
import Derived.Test.YtfiacjdkdjkiiaaWh
import Derived.Laws.EntriesVeiled
namespace Go.Proofs.Ytfiacjdkdjkiiaa
open Go.RowKit
set_option linter.unusedVariables false
set_option linter.unusedSimpArgs false
attribute [local go_sem ↓] Go.wp_at_zero Go.wp_at_succ

/-- an end of a range; the function that gives it -/
def sel (h : Bool) (r : Rng) : Int := if h then r.hi else r.lo
def selF (h : Bool) : Nat := if h then 93 else 92
def fv (h : Bool) : Value := .func (.func (selF h)) #[] #[]
theorem sel_any (h : Bool) (x y : Int) (w : World) : Calls Try.prog (selF h) #[.agg #[.int .i64 x, .int .i64 y]] w fun e w' => e = .returned (.int .i64 (sel h ⟨x, y⟩)) ∧ Below w.heap.size w w' := by
  cases h
  · exact low_any x y w
  · exact high_any x y w
theorem call_sel (h : Bool) (args : Array Value) (w : World) : (callFunc (selF h) args).run Try.prog w = .ok (.enter (selF h) args) w := by
  cases h
  · kernel_rfl
  · kernel_rfl
def endRow (b : BankD) (hi last : Bool) (n i : Nat) : List Int := (b.days.getD i default).prices.map (sel (if i = n then last else hi))
def endPs (b : BankD) (hi last : Bool) (n : Nat) : List (List Int) := (List.range (n + 1)).map (endRow b hi last n)
def endRs (b : BankD) (hi : Bool) (n : Nat) : List Int := (List.range (n + 1)).map fun i => sel hi (b.days.getD i default).rate
theorem endPs_succ (b : BankD) (hi last : Bool) (n i : Nat) (h : i ≤ n) : (endPs b hi last n).take (i + 1) = (endPs b hi last n).take i ++ [endRow b hi last n i] := by
  rw [take_succ_getD [] (by simp [endPs]; omega)]
  congr 2
  simp [endPs, List.getD_eq_getElem?_getD, List.getElem?_map, List.getElem?_range (show i < n + 1 by omega)]
theorem endRs_succ (b : BankD) (hi : Bool) (n i : Nat) (h : i ≤ n) : (endRs b hi n).take (i + 1) = (endRs b hi n).take i ++ [sel hi (b.days.getD i default).rate] := by
  rw [take_succ_getD 0 (by simp [endRs]; omega)]
  congr 2
  simp [endRs, List.getD_eq_getElem?_getD, List.getElem?_map, List.getElem?_range (show i < n + 1 by omega)]
theorem arr4_set (p : List Int) (k : Nat) (hk : k < p.length) (h4 : p.length ≤ 4) : (arr4 (p.take k)).setIfInBounds k (.int .i64 (p.getD k 0)) = arr4 (p.take (k + 1)) := by
  match p, k, hk, h4 with
  | [a], 0, _, _ => rfl
  | [a, b], 0, _, _ => rfl
  | [a, b], 1, _, _ => rfl
  | [a, b, c], 0, _, _ => rfl
  | [a, b, c], 1, _, _ => rfl
  | [a, b, c], 2, _, _ => rfl
  | [a, b, c, d], 0, _, _ => rfl
  | [a, b, c, d], 1, _, _ => rfl
  | [a, b, c, d], 2, _, _ => rfl
  | [a, b, c, d], 3, _, _ => rfl
theorem arr4_get (p : List Int) (k : Nat) (hk : k < 4) : (arr4 p)[k]? = some (.int .i64 (p.getD k 0)) := by
  match k, hk with
  | 0, _ => rfl
  | 1, _ => rfl
  | 2, _ => rfl
  | 3, _ => rfl

theorem OwnL.arrs {w : World} {base : Nat} {v : Value} {xs : List (List Int)} (h : OwnL arrK w base v xs) : ∃ a cap, v = .slice a xs.length cap ∧ ArrsAt w a xs ∧ (∀ b off sp, a = some ⟨b, off, sp⟩ → base ≤ b ∧ b < w.heap.size) := by
  obtain ⟨a, cap, e, hb⟩ := h.form
  refine ⟨a, cap, e, fun k hk => ?_, fun b off sp e' => ⟨(hb _ e').2.2.1, (hb _ e').2.2.2.1⟩⟩
  obtain ⟨g, cap', cs, e2, hr, hc⟩ := h.cells k hk
  rw [e] at e2
  simp only [Value.slice.injEq] at e2
  have h0 := hc 0 (by simp [arrK])
  have h1 := hc 1 (by simp [arrK])
  have h2 := hc 2 (by simp [arrK])
  have h3 := hc 3 (by simp [arrK])
  simp only [arrK] at hr h0 h1 h2 h3
  rw [hr] at h0 h1 h2 h3
  exact ⟨g, 0, e2.1, by simpa [arr4] using h0, by simpa [arr4] using h1, by simpa [arr4] using h2, by simpa [arr4] using h3⟩
structure ERel (w W : World) (nb nx nl B bw : Nat) (st : Int) (da la : Option Addr) (dl dc ll lc : Nat) (hi last : Bool) (av rv : Value) (ps : List (List Int)) (rs : List Int) : Prop where
  below : Below w.heap.size w W
  lo : w.heap.size ≤ nb ∧ nb < nx ∧ nx < nl ∧ nl < B ∧ B < bw
  b : W.heap[nb]? = some (.cells #[.int .i64 st, .slice da dl dc, .slice la ll lc] 38 (0, 0))
  x : W.heap[nx]? = some (.cells #[fv hi] 156 (0, 0))
  l : W.heap[nl]? = some (.cells #[fv last] 156 (0, 0))
  m : W.heap[B]? = some (.map #[] 0)
  k : W.heap[bw]? = some (.cells #[.int .i64 st, .slice da dl dc, .slice la ll lc, av, rv, .map (some B)] 150 (0, 0))
  oa : OwnL arrK W (bw + 1) av ps
  or : OwnL intK W (bw + 1) rv rs
  sep : ∀ g, av.ownBlock = some g → rv.ownBlock ≠ some g
theorem ERel.mk' {w W W' : World} {nb nx nl B bw : Nat} {st : Int} {da la : Option Addr} {dl dc ll lc : Nat} {hi last : Bool} {av rv av' rv' : Value} {ps ps' : List (List Int)} {rs rs' : List Int} (h : ERel w W nb nx nl B bw st da la dl dc ll lc hi last av rv ps rs)
    (hb : Below bw W W') (hk : W'.heap[bw]? = some (.cells #[.int .i64 st, .slice da dl dc, .slice la ll lc, av', rv', .map (some B)] 150 (0, 0))) (ha : OwnL arrK W' (bw + 1) av' ps') (hr : OwnL intK W' (bw + 1) rv' rs') (hs : ∀ g, av'.ownBlock = some g → rv'.ownBlock ≠ some g) :
    ERel w W' nb nx nl B bw st da la dl dc ll lc hi last av' rv' ps' rs' := by
  have hlo := h.lo
  exact ⟨h.below.trans (hb.mono (by omega)), hlo, (hb.block _ (by omega)).trans h.b, (hb.block _ (by omega)).trans h.x, (hb.block _ (by omega)).trans h.l, (hb.block _ (by omega)).trans h.m, hk, ha, hr, hs⟩
theorem ERel.move {w W W' : World} {nb nx nl B bw : Nat} {st : Int} {da la : Option Addr} {dl dc ll lc : Nat} {hi last : Bool} {av rv : Value} {ps : List (List Int)} {rs : List Int} (h : ERel w W nb nx nl B bw st da la dl dc ll lc hi last av rv ps rs)
    (hb : Below W.heap.size W W') : ERel w W' nb nx nl B bw st da la dl dc ll lc hi last av rv ps rs :=
  h.mk' (hb.mono (by have := heap_lt h.k; omega)) (heap_of_below hb h.k) (h.oa.below hb) (h.or.below hb) h.sep

theorem erel_start (w : World) (st : Int) (da la : Option Addr) (dl dc ll lc : Nat) (hi last : Bool) :
    ERel w (((((w.alloc (.cells #[.int .i64 st, .slice da dl dc, .slice la ll lc] 38)).alloc (.cells #[fv hi] 156)).alloc (.cells #[fv last] 156)).alloc (.map #[] 0)).alloc (.cells #[.int .i64 st, .slice da dl dc, .slice la ll lc, .slice none 0 0, .slice none 0 0, .map (some (w.heap.size + 1 + 1 + 1))] 150))
      w.heap.size (w.heap.size + 1) (w.heap.size + 1 + 1) (w.heap.size + 1 + 1 + 1) (w.heap.size + 1 + 1 + 1 + 1) st da la dl dc ll lc hi last (.slice none 0 0) (.slice none 0 0) [] [] := by
  refine ⟨(((((Below.refl _ _).alloc (Nat.le_refl _) _).alloc (by simp) _).alloc (by simp; omega) _).alloc (by simp; omega) _).alloc (by simp; omega) _, by omega, al_old (al_old (al_old (al_old (al_new rfl)))), al_old (al_old (al_old (al_new (by simp)))), al_old (al_old (al_new (by simp))), al_old (al_new (by simp)), al_new (by simp), OwnL.nil _ _ _, OwnL.nil _ _ _, fun g h => by cases h⟩

set_option maxRecDepth 100000 in
set_option maxHeartbeats 2000000 in
theorem ends_any (st : Int) (bd : BankD) (da la : Option Addr) (dc lc : Nat) (hi last : Bool) (n : Nat) (w : World) (hB : BankAt w da la bd) (hn : n < bd.days.length) (hd : bd.days.length ≤ 1000) (hl : bd.loans.length ≤ 1000) (hdc : bd.days.length ≤ dc)
    (hp : ∀ i, i < bd.days.length → (bd.days.getD i default).prices.length ≤ 4) :
    Calls Try.prog 94 #[.agg #[.int .i64 st, .slice da bd.days.length dc, .slice la bd.loans.length lc], .agg #[fv hi], .agg #[fv last], .int .i64 n] w fun e w' => ∃ bw B aa ac ra rc, e = .returned (.pointer (some ⟨bw, 0, none⟩)) ∧
      WorkAt w' bw B bd.loans (endPs bd hi last n) (endRs bd hi n) st da la aa ra bd.days.length dc lc ac rc ∧ w.heap.size ≤ B ∧ Below w.heap.size w w' := by
  have HB := Lib.hid hB; have HP := Lib.hid hp
  clear hB hp
  have hmm := @run_makeMap Try.prog
  have hn1 : n + 1 ≤ dc := by omega
  have hn1' : (n : Int) + 1 ≤ (dc : Int) := by omega
  have hn0' : (0 : Int) ≤ (n : Int) + 1 := by omega
  have HST := Lib.hid (erel_start w st da la bd.days.length dc bd.loans.length lc hi last)
  go_enter Try.func94, Try.ntmps94
  go_wp2
  generalize ((((w.alloc (.cells #[.int .i64 st, .slice da bd.days.length dc, .slice la bd.loans.length lc] 38)).alloc (.cells #[fv hi] 156)).alloc (.cells #[fv last] 156)).alloc (.map #[] 0)).alloc (.cells #[.int .i64 st, .slice da bd.days.length dc, .slice la bd.loans.length lc, .slice none 0 0, .slice none 0 0, .map (some (w.heap.size + 1 + 1 + 1))] 150) = W0 at *
  generalize w.heap.size + 1 + 1 + 1 + 1 = bw at *
  generalize w.heap.size + 1 + 1 + 1 = B at *
  generalize w.heap.size + 1 + 1 = nl at *
  generalize w.heap.size + 1 = nx at *
  generalize hnb : w.heap.size = nb at *
  have HNB := Lib.hid hnb
  clear hnb
  go_loopw [10, 11, 12, 13, 14, 15, 26] (fun _ _ _ _ _ _ i wr => ∃ k : Nat, k ≤ n + 1 ∧ i = .int .i64 k ∧ ∃ av rv, ERel w wr nb nx nl B bw st da la bd.days.length dc bd.loans.length lc hi last av rv ((endPs bd hi last n).take k) ((endRs bd hi n).take k)) (fun _ _ _ _ _ _ i _ => n + 1 - (intOf i).toNat)
  case atStart => exact ⟨0, Nat.zero_le _, rfl, _, _, HST.out⟩
  case round =>
    obtain ⟨k, hk, rfl, av, rv, hrel⟩ := hrel
    have HREL := Lib.hid hrel
    clear hrel
    by_cases hlt : k < n + 1
    · have hkd : k < bd.days.length := by omega
      obtain ⟨b, off, pa, pc, rfl, c1, c2, c3, hq⟩ := HB.out.1 k hkd
      have lb0 : b < w.heap.size := World.block_lt_of_cell? _ _ c1
      have hbw := HREL.out.below
      replace c1 := cell_below hbw c1
      replace c2 := cell_below hbw c2
      replace c3 := cell_below hbw c3
      have HQ := Lib.hid (hq.below hbw)
      have HLP := Lib.hid (HP.out k hkd)
      have x1 : wr.cell? ⟨nx, 0, none⟩ = some (.func (.func (selF hi)) #[] #[]) := (cell_of_heap HREL.out.x).trans rfl
      have x2 : wr.cell? ⟨nl, 0, none⟩ = some (.func (.func (selF last)) #[] #[]) := (cell_of_heap HREL.out.l).trans rfl
      have lbw := heap_lt HREL.out.k
      have hlo := HREL.out.lo
      have HNB2 := HNB.out
      have HPS := Lib.hid (endPs_succ bd hi last n k (by omega))
      have HRS := Lib.hid (endRs_succ bd hi n k (by omega))
      have HROW : Hid (endRow bd hi last n k = (bd.days.getD k default).prices.map (sel (if k = n then last else hi))) := rfl
      clear hq hbw
      generalize hdd : bd.days.getD k default = dd at *
      have HDD := Lib.hid hdd
      clear hdd
      generalize hrow : endRow bd hi last n k = row at *
      have HRW := Lib.hid hrow
      clear hrow
      have lb1 : b < nb := by omega
      have lnx : nx < wr.heap.size := by omega
      have lnl : nl < wr.heap.size := by omega
      have lbr : b < wr.heap.size := by omega
      have HNB3 := Lib.hid HNB2
      clear HNB2
      have hk1 : (k : Int) < (bd.days.length : Int) := by omega
      have hk0 : (0 : Int) ≤ (k : Int) := by omega
      have hdk : decide ((k : Int) < (n : Int) + 1) = true := by simp; omega
      by_cases hkn : k = n
      · have HYL : Hid (row = dd.prices.map (sel last)) := by show row = _; rw [HROW.out, if_pos hkn]
        have e1 : ((k : Int) == (n : Int)) = true := by simp; omega
        clear hkn
        go_wp2
        have HVB : Hid (Below wr.heap.size wr (((wr.alloc (.cells #[.slice pa dd.prices.length pc, .int .i64 dd.rate.lo, .int .i64 dd.rate.hi] 111)).alloc (.cells #[.func (.func (selF last)) #[] #[]] 156)).alloc (.cells #[.int .i64 0, .int .i64 0, .int .i64 0, .int .i64 0] 139))) := (((Below.refl _ _).alloc (Nat.le_refl _) _).alloc (by simp) _).alloc (by simp; omega) _
        have HV1 : Hid ((((wr.alloc (.cells #[.slice pa dd.prices.length pc, .int .i64 dd.rate.lo, .int .i64 dd.rate.hi] 111)).alloc (.cells #[.func (.func (selF last)) #[] #[]] 156)).alloc (.cells #[.int .i64 0, .int .i64 0, .int .i64 0, .int .i64 0] 139)).heap[wr.heap.size]? = some (.cells #[.slice pa dd.prices.length pc, .int .i64 dd.rate.lo, .int .i64 dd.rate.hi] 111 (0, 0))) := al_old (al_old (al_new rfl))
        have HV2 : Hid ((((wr.alloc (.cells #[.slice pa dd.prices.length pc, .int .i64 dd.rate.lo, .int .i64 dd.rate.hi] 111)).alloc (.cells #[.func (.func (selF last)) #[] #[]] 156)).alloc (.cells #[.int .i64 0, .int .i64 0, .int .i64 0, .int .i64 0] 139)).heap[wr.heap.size + 1]? = some (.cells #[.func (.func (selF last)) #[] #[]] 156 (0, 0))) := al_old (al_new (by simp))
        have HV3 : Hid ((((wr.alloc (.cells #[.slice pa dd.prices.length pc, .int .i64 dd.rate.lo, .int .i64 dd.rate.hi] 111)).alloc (.cells #[.func (.func (selF last)) #[] #[]] 156)).alloc (.cells #[.int .i64 0, .int .i64 0, .int .i64 0, .int .i64 0] 139)).heap[wr.heap.size + 1 + 1]? = some (.cells (arr4 (row.take 0)) 139 (0, 0))) := al_new (by simp)
        have hVs : wr.heap.size + 3 ≤ (((wr.alloc (.cells #[.slice pa dd.prices.length pc, .int .i64 dd.rate.lo, .int .i64 dd.rate.hi] 111)).alloc (.cells #[.func (.func (selF last)) #[] #[]] 156)).alloc (.cells #[.int .i64 0, .int .i64 0, .int .i64 0, .int .i64 0] 139)).heap.size := by simp
        generalize ((wr.alloc (.cells #[.slice pa dd.prices.length pc, .int .i64 dd.rate.lo, .int .i64 dd.rate.hi] 111)).alloc (.cells #[.func (.func (selF last)) #[] #[]] 156)).alloc (.cells #[.int .i64 0, .int .i64 0, .int .i64 0, .int .i64 0] 139) = V at *
        have hnpw : wr.heap.size + 1 < wr.heap.size + 1 + 1 := by omega
        have hnyw : wr.heap.size < wr.heap.size + 1 := by omega
        have hVs2 : wr.heap.size + 1 + 1 < V.heap.size := by omega
        generalize wr.heap.size + 1 + 1 = np at *
        generalize wr.heap.size + 1 = ny at *
        have HRL : Hid (row.length = dd.prices.length) := by show row.length = _; rw [HYL.out]; simp
        generalize hmp : dd.prices.length = mp at *
        have HMP := Lib.hid hmp
        clear hmp
        have hmp4 : mp ≤ 4 := HLP.out
        obtain ⟨wo, rfl⟩ : ∃ wo : World, wo = wr := ⟨_, rfl⟩
        go_loopw [14, 15, 39] (fun _ _ i wr => ∃ s : Nat, s ≤ mp ∧ i = .int .i64 s ∧ Below np V wr ∧ wr.heap[np]? = some (.cells (arr4 (row.take s)) 139 (0, 0))) (fun _ _ i _ => mp - (intOf i).toNat)
        case atStart => exact ⟨0, Nat.zero_le _, rfl, Below.refl _ _, HV3.out⟩
        case round =>
          obtain ⟨s, hs, rfl, hbv, hnp⟩ := hrel
          have HBV := Lib.hid hbv; have HNP := Lib.hid hnp
          have lnp := heap_lt hnp
          clear hbv hnp
          by_cases hlts : s < mp
          · have hsn : s < dd.prices.length := by have := HMP.out; omega
            obtain ⟨b2, off2, rfl, p4, p5⟩ := (HQ.out.below HVB.out) s hsn
            have lb2 : b2 < wo.heap.size := by
              obtain ⟨b3, off3, e3, p6, _⟩ := HQ.out s hsn
              simp only [Option.some.injEq, Addr.mk.injEq] at e3
              rw [e3.1]
              exact World.block_lt_of_cell? _ _ p6
            replace p4 := (HBV.out.cell (p := ⟨b2, off2 + s * 2, none⟩) (by simp; omega)).trans p4
            replace p5 := (HBV.out.cell (p := ⟨b2, off2 + s * 2 + 1, none⟩) (by simp; omega)).trans p5
            have yy : wr.cell? ⟨ny, 0, none⟩ = some (.func (.func (selF last)) #[] #[]) := (HBV.out.cell (p := ⟨ny, 0, none⟩) hnpw).trans ((cell_of_heap HV2.out).trans rfl)
            have HSET : Hid ((arr4 (row.take s)).setIfInBounds s (.int .i64 (sel last ⟨(dd.prices.getD s default).lo, (dd.prices.getD s default).hi⟩)) = arr4 (row.take (s + 1))) := by
              have h1 := arr4_set row s (by have := HRL.out; omega) (by have := HRL.out; omega)
              have h2 : row.getD s 0 = sel last (dd.prices.getD s default) := by
                rw [HYL.out]
                simp [List.getD_eq_getElem?_getD, List.getElem?_map, List.getElem?_eq_getElem hsn]
              rw [h2] at h1
              exact h1
            clear hsn
            generalize (dd.prices.getD s default).lo = rlo at *
            generalize (dd.prices.getD s default).hi = rhi at *
            have hs1 : (s : Int) < (mp : Int) := by omega
            have hs0 : (0 : Int) ≤ (s : Int) := by omega
            have hs4 : (s : Int) < 4 := by omega
            have lny : ny < wr.heap.size := by omega
            have lb3 : b2 < wr.heap.size := by omega
            have hcell : wr.cell? ⟨np, s, none⟩ = some (.int .i64 ((row.take s).getD s 0)) := (cell_of_heap HNP.out).trans (arr4_get _ _ (by omega))
            have hfrz : wr.frozen? ⟨np, s, none⟩ = false := frozen_of_heap HNP.out
            have hcf := call_sel last
            have HCE := Lib.hid hcell; have HFZ := Lib.hid hfrz
            clear hcell hfrz
            go_wp2_with fail
            refine (sel_any last _ _ _).mono ?_
            rintro e w5 ⟨rfl, hb5⟩
            have hb6 : Below wr.heap.size wr w5 := ((Below.refl _ _).alloc (Nat.le_refl _) _).trans (hb5.mono (by simp))
            have HB6 := Lib.hid hb6
            have d1 := cell_below hb6 HCE.out
            have d2 := frz_below hb6 HCE.out HFZ.out
            clear hb5 hb6
            have HN1 := Lib.hid ((HBV.out.trans (HB6.out.mono (by omega))).setCell (p := ⟨np, s, none⟩) (Nat.le_refl _) (.int .i64 (sel last ⟨rlo, rhi⟩)))
            have HN2 := Lib.hid (heap_setCell_same w5 np s (arr4 (row.take s)) 139 (.int .i64 (sel last ⟨rlo, rhi⟩)) (heap_of_below HB6.out HNP.out))
            rw [HSET.out] at HN2
            go_wp2
            go_roundw
            case rel => exact ⟨s + 1, by omega, by go_num, HN1.out, HN2.out⟩
            case measure => simp [intOf]; omega
          · have htk : row.take s = row := List.take_of_length_le (by have := HRL.out; omega)
            rw [htk] at HNP
            clear htk
            have HREL2 := Lib.hid (HREL.out.move (HVB.out.trans (HBV.out.mono (by omega))))
            have u1 : wr.cell? ⟨bw, 3, none⟩ = some av := (cell_of_heap HREL2.out.k).trans rfl
            have u2 : wr.cell? ⟨bw, 4, none⟩ = some rv := (cell_of_heap HREL2.out.k).trans rfl
            have f1 : wr.frozen? ⟨bw, 3, none⟩ = false := frozen_of_heap HREL2.out.k
            have f2 : wr.frozen? ⟨bw, 4, none⟩ = false := frozen_of_heap HREL2.out.k
            have u3 : wr.cell? ⟨nx, 0, none⟩ = some (.func (.func (selF hi)) #[] #[]) := (cell_of_heap HREL2.out.x).trans rfl
            have u4 : wr.cell? ⟨wo.heap.size, 1, none⟩ = some (.int .i64 dd.rate.lo) := (HBV.out.cell (p := ⟨wo.heap.size, 1, none⟩) (by simp; omega)).trans ((cell_of_heap HV1.out).trans rfl)
            have u5 : wr.cell? ⟨wo.heap.size, 1 + 1, none⟩ = some (.int .i64 dd.rate.hi) := (HBV.out.cell (p := ⟨wo.heap.size, 1 + 1, none⟩) (by simp; omega)).trans ((cell_of_heap HV1.out).trans rfl)
            obtain ⟨a0, a1, a2, a3, HA⟩ : ∃ a0 a1 a2 a3, Hid (arr4 row = #[.int .i64 a0, .int .i64 a1, .int .i64 a2, .int .i64 a3]) := ⟨_, _, _, _, rfl⟩
            rw [HA.out] at HNP
            have u6 : wr.cell? ⟨np, 0, none⟩ = some (.int .i64 a0) := (cell_of_heap HNP.out).trans rfl
            have u7 : wr.cell? ⟨np, 1, none⟩ = some (.int .i64 a1) := (cell_of_heap HNP.out).trans rfl
            have u8 : wr.cell? ⟨np, 2, none⟩ = some (.int .i64 a2) := (cell_of_heap HNP.out).trans rfl
            have u9 : wr.cell? ⟨np, 3, none⟩ = some (.int .i64 a3) := (cell_of_heap HNP.out).trans rfl
            have hlo2 := HREL2.out.lo
            have NE : Hid (∀ g, av.ownBlock = some g → bw < g ∧ g < wo.heap.size) := fun g h => by
              have h1 := HREL2.out.oa.lt g h
              have h2 := HREL.out.oa.lt g h
              exact ⟨by omega, h2.2⟩
            have NE1 : Hid (some bw ≠ av.ownBlock) := fun e => by have := NE.out _ e.symm; omega
            have NE2 : Hid (some nx ≠ av.ownBlock) := fun e => by have := NE.out _ e.symm; omega
            have NE3 : Hid (some wo.heap.size ≠ av.ownBlock) := fun e => by have := NE.out _ e.symm; omega
            have NE4 : Hid (some np ≠ av.ownBlock) := fun e => by have := NE.out _ e.symm; omega
            have NR : Hid (some bw ≠ rv.ownBlock) := fun e => by have := (HREL2.out.or.lt _ e.symm).1; omega
            have HLK1 : Hid (((endPs bd hi last n).take k).length = k) := by show _ = _; simp [endPs]; omega
            have HLK2 : Hid (((endRs bd hi n).take k).length = k) := by show _ = _; simp [endRs]; omega
            have hcf := call_sel hi
            have lbr2 : bw < wr.heap.size := heap_lt HREL2.out.k
            have hwo : wo.heap.size ≤ wr.heap.size := by omega
            clear hlo2
            go_wp2_with fail
            refine wp_region_plan (fun w' => w'.cell? ⟨bw, 3, none⟩ = some av ∧ w'.cell? ⟨bw, 4, none⟩ = some rv ∧ w'.cell? ⟨nx, 0, none⟩ = some (.func (.func (selF hi)) #[] #[]) ∧ w'.cell? ⟨wo.heap.size, 1, none⟩ = some (.int .i64 dd.rate.lo) ∧ w'.cell? ⟨wo.heap.size, 1 + 1, none⟩ = some (.int .i64 dd.rate.hi) ∧ w'.cell? ⟨np, 0, none⟩ = some (.int .i64 a0) ∧ w'.cell? ⟨np, 1, none⟩ = some (.int .i64 a1) ∧ w'.cell? ⟨np, 2, none⟩ = some (.int .i64 a2) ∧ w'.cell? ⟨np, 3, none⟩ = some (.int .i64 a3))
              [(0, 0), (1, 0), (2, 0), (3, 0), (4, 0), (5, 1), (6, 1), (9, 0), (10, 0), (11, 0), (12, 1), (13, 0), (14, 1), (15, 0), (16, 1), (7, 2), (8, 2), (17, 2), (18, 2), (19, 3), (20, 0), (21, 0), (22, 3), (23, 0), (24, 0), (25, 3)] (by kernel_rfl) (by kernel_rfl) ⟨u1, u2, u3, u4, u5, u6, u7, u8, u9⟩ ?_
            repeat (first
              | (refine plan_look0 (v := ?_) rfl rfl ?_ ?_; rotate_left; focus (intro w'; go_simp; (try with_reducible rfl)); (try simp only [Act.put, List.setIfInBounds_toArray, List.set_cons_zero, List.set_cons_succ]))
              | (refine plan_look1 (v := ?_) rfl rfl ?_ ?_; rotate_left; focus (intro w' hSw; (try dsimp only at hSw); go_simp; (try with_reducible rfl)); (try simp only [Act.put, List.setIfInBounds_toArray, List.set_cons_zero, List.set_cons_succ])))
            refine plan_do2 (by rfl) (fun K hK => ?_)
            go_simp
            refine hK.out _ _ ⟨cell_al (w := wr.drew) u1, cell_al (w := wr.drew) u2, cell_al (w := wr.drew) u3, cell_al (w := wr.drew) u4, cell_al (w := wr.drew) u5, cell_al (w := wr.drew) u6, cell_al (w := wr.drew) u7, cell_al (w := wr.drew) u8, cell_al (w := wr.drew) u9⟩ ?_
            clear hK K
            (try simp only [Act.put, List.setIfInBounds_toArray, List.set_cons_zero, List.set_cons_succ])
            refine plan_do2 (by rfl) (fun K hK => ?_)
            refine step_app (K := arrK) (by rfl) _ _ (by rfl) (bw + 1) av ((endPs bd hi last n).take k) k HLK1.out (by rfl) (HREL2.out.oa.drew.alloc _) wr.heap.size row [.int .i64 a0, .int .i64 a1, .int .i64 a2, .int .i64 a3] (by rfl) (heap_alloc_new wr.drew _) (by show _ = (arr4 row).toList; rw [HA.out]) (fun b h => h.elim) (by omega) (by simp; omega) ?_
            intro g1 cap1 w3 hown3 hgrow3 hat3 hlt3
            have v1 := cell_grown hgrow3 (cell_al (w := wr.drew) u1) NE1.out
            have v2 := cell_grown hgrow3 (cell_al (w := wr.drew) u2) NE1.out
            have v3 := cell_grown hgrow3 (cell_al (w := wr.drew) u3) NE2.out
            have v4 := cell_grown hgrow3 (cell_al (w := wr.drew) u4) NE3.out
            have v5 := cell_grown hgrow3 (cell_al (w := wr.drew) u5) NE3.out
            have v6 := cell_grown hgrow3 (cell_al (w := wr.drew) u6) NE4.out
            have v7 := cell_grown hgrow3 (cell_al (w := wr.drew) u7) NE4.out
            have v8 := cell_grown hgrow3 (cell_al (w := wr.drew) u8) NE4.out
            have v9 := cell_grown hgrow3 (cell_al (w := wr.drew) u9) NE4.out
            have fv1 := frz_grown hgrow3 (cell_al (w := wr.drew) u1) (frz_al (w := wr.drew) u1 f1) NE1.out
            have fv2 := frz_grown hgrow3 (cell_al (w := wr.drew) u2) (frz_al (w := wr.drew) u2 f2) NE1.out
            have HOWN3 := Lib.hid hown3; have HGR3 := Lib.hid hgrow3; have HAT3 := Lib.hid hat3
            have HOR3 := Lib.hid ((HREL2.out.or.drew.alloc (.cells #[.int .i64 a0, .int .i64 a1, .int .i64 a2, .int .i64 a3] 139)).grown hgrow3 (fun g h => .inr ⟨HREL2.out.sep g h, rfl⟩))
            have hs3 : wr.heap.size + 1 ≤ w3.heap.size := by have := hgrow3.size; simpa using this
            clear hown3 hgrow3 hat3
            refine hK.out _ _ ⟨v1, v2, v3, v4, v5, v6, v7, v8, v9⟩ ?_
            clear hK K
            (try simp only [Act.put, List.setIfInBounds_toArray, List.set_cons_zero, List.set_cons_succ])
            refine plan_do2 (by rfl) (fun K hK => ?_)
            go_simp
            refine (sel_any hi _ _ _).mono ?_
            rintro e w4 ⟨rfl, hb4⟩
            have HB4 := Lib.hid hb4
            have z1 := cell_below hb4 v1
            have z2 := cell_below hb4 v2
            have z3 := cell_below hb4 v3
            have z4 := cell_below hb4 v4
            have z5 := cell_below hb4 v5
            have z6 := cell_below hb4 v6
            have z7 := cell_below hb4 v7
            have z8 := cell_below hb4 v8
            have z9 := cell_below hb4 v9
            have fz1 := frz_below hb4 v1 fv1
            have fz2 := frz_below hb4 v2 fv2
            have hs4 : w3.heap.size ≤ w4.heap.size := hb4.size
            clear hb4
            go_wp2_with fail
            refine hK.out _ _ ⟨z1, z2, z3, z4, z5, z6, z7, z8, z9⟩ ?_
            clear hK K
            (try simp only [Act.put, List.setIfInBounds_toArray, List.set_cons_zero, List.set_cons_succ])
            refine plan_do2 (by rfl) (fun K hK => ?_)
            go_simp
            refine hK.out _ _ ⟨cell_al z1, cell_al z2, cell_al z3, cell_al z4, cell_al z5, cell_al z6, cell_al z7, cell_al z8, cell_al z9⟩ ?_
            clear hK K
            (try simp only [Act.put, List.setIfInBounds_toArray, List.set_cons_zero, List.set_cons_succ])
            refine plan_do3 (by rfl) (fun K hK => ?_)
            refine step_app (K := intK) (by rfl) _ _ (by rfl) (bw + 1) rv ((endRs bd hi n).take k) k HLK2.out (by rfl) ((HOR3.out.below HB4.out).alloc _) w4.heap.size (sel hi ⟨dd.rate.lo, dd.rate.hi⟩) [.int .i64 (sel hi ⟨dd.rate.lo, dd.rate.hi⟩)] (by rfl) (heap_alloc_new w4 _) rfl (fun b h => h.elim) (by omega) (by simp; omega) ?_
            intro g2 cap2 w6 hown6 hgrow6 hat6 hlt6
            have y1 := cell_grown hgrow6 (cell_al z1) NR.out
            have y2 := cell_grown hgrow6 (cell_al z2) NR.out
            have fy1 := frz_grown hgrow6 (cell_al z1) (frz_al z1 fz1) NR.out
            have fy2 := frz_grown hgrow6 (cell_al z2) (frz_al z2 fz2) NR.out
            have HOWN6 := Lib.hid hown6; have HGR6 := Lib.hid hgrow6; have HAT6 := Lib.hid hat6
            clear hown6 hgrow6 hat6
            refine hK.out _ _ ?_
            clear hK K
            (try simp only [Act.put, List.setIfInBounds_toArray, List.set_cons_zero, List.set_cons_succ])
            repeat (first
              | (refine plan_look0 (v := ?_) rfl rfl ?_ ?_; rotate_left; focus (intro w'; go_simp; (try with_reducible rfl)); (try simp only [Act.put, List.setIfInBounds_toArray, List.set_cons_zero, List.set_cons_succ]))
              | (refine plan_look1 (v := ?_) rfl rfl ?_ ?_; rotate_left; focus (intro w' hSw; (try dsimp only at hSw); go_simp; (try with_reducible rfl)); (try simp only [Act.put, List.setIfInBounds_toArray, List.set_cons_zero, List.set_cons_succ])))
            refine plan_do3 (by rfl) (fun K hK => ?_)
            go_simp
            refine hK.out _ _ ?_
            clear hK K
            (try simp only [Act.put, List.setIfInBounds_toArray, List.set_cons_zero, List.set_cons_succ])
            repeat (first
              | (refine plan_look0 (v := ?_) rfl rfl ?_ ?_; rotate_left; focus (intro w'; go_simp; (try with_reducible rfl)); (try simp only [Act.put, List.setIfInBounds_toArray, List.set_cons_zero, List.set_cons_succ]))
              | (refine plan_look1 (v := ?_) rfl rfl ?_ ?_; rotate_left; focus (intro w' hSw; (try dsimp only at hSw); go_simp; (try with_reducible rfl)); (try simp only [Act.put, List.setIfInBounds_toArray, List.set_cons_zero, List.set_cons_succ])))
            refine plan_do3 (by rfl) (fun K hK => ?_)
            go_simp
            refine hK.out _ _ ?_
            clear hK K
            (try simp only [Act.put, List.setIfInBounds_toArray, List.set_cons_zero, List.set_cons_succ])
            refine plan_end ?_
            have HG1 : Hid (Below bw wr ((w6.setCell ⟨bw, 3, none⟩ (.slice (some ⟨g1, 0, none⟩) (k + 1) cap1)).setCell ⟨bw, 4, none⟩ (.slice (some ⟨g2, 0, none⟩) (k + 1) cap2))) := by
              have h1 : Below bw wr w3 := ((Below.refl _ _).drew.alloc (show bw ≤ wr.heap.size by omega) _).grown HGR3.out (by simp; omega) (fun g h => by have := NE.out g h; omega)
              have h2 : Below bw wr w4 := h1.trans (HB4.out.mono (by omega))
              exact (((h2.alloc (by omega) _).grown HGR6.out (by simp; omega) (fun g h => by have := (HREL2.out.or.lt g h).1; omega)).setCell (by simp) _).setCell (by simp) _
            have HG2 : Hid (((w6.setCell ⟨bw, 3, none⟩ (.slice (some ⟨g1, 0, none⟩) (k + 1) cap1)).setCell ⟨bw, 4, none⟩ (.slice (some ⟨g2, 0, none⟩) (k + 1) cap2)).heap[bw]? = some (.cells #[.int .i64 st, .slice (some ⟨b, off, none⟩) bd.days.length dc, .slice la bd.loans.length lc, .slice (some ⟨g1, 0, none⟩) (k + 1) cap1, .slice (some ⟨g2, 0, none⟩) (k + 1) cap2, .map (some B)] 150 (0, 0))) :=
              heap_setCell_same _ _ 4 #[.int .i64 st, .slice (some ⟨b, off, none⟩) bd.days.length dc, .slice la bd.loans.length lc, .slice (some ⟨g1, 0, none⟩) (k + 1) cap1, rv, .map (some B)] _ _ (heap_setCell_same _ _ 3 #[.int .i64 st, .slice (some ⟨b, off, none⟩) bd.days.length dc, .slice la bd.loans.length lc, av, rv, .map (some B)] _ _
                (heap_app HGR6.out (heap_of_below HB4.out (heap_app_drew HGR3.out HREL2.out.k lbr2 NE1.out)) (by omega) NR.out))
            have HN := Lib.hid (HREL2.out.mk' HG1.out HG2.out
              (((((HOWN3.out.below HB4.out).alloc _).grown HGR6.out (fun g h => .inr ⟨fun e => by
                  simp only [Value.ownBlock, Option.some.injEq] at e
                  subst e
                  rcases HAT3.out with h3 | h3
                  · exact HREL2.out.sep _ h3 h
                  · have := (HREL2.out.or.lt _ h).2; simp at h3; omega, rfl⟩)).setCell (by simp) _).setCell (by simp) _)
              ((HOWN6.out.setCell (by simp) _).setCell (by simp) _)
              (fun g h h' => by
                simp only [Value.ownBlock, Option.some.injEq] at h h'
                subst h
                subst h'
                rcases HAT6.out with h6 | h6
                · rcases HAT3.out with h3 | h3
                  · exact HREL2.out.sep _ h3 h6
                  · have := (HREL2.out.or.lt _ h6).2; simp at h3; omega
                · have := HB4.out.size; simp at h6; omega))
            have HNN : Hid (ERel w ((w6.setCell ⟨bw, 3, none⟩ (.slice (some ⟨g1, 0, none⟩) (k + 1) cap1)).setCell ⟨bw, 4, none⟩ (.slice (some ⟨g2, 0, none⟩) (k + 1) cap2)) nb nx nl B bw st (some ⟨b, off, none⟩) la bd.days.length dc bd.loans.length lc hi last (.slice (some ⟨g1, 0, none⟩) (k + 1) cap1) (.slice (some ⟨g2, 0, none⟩) (k + 1) cap2) ((endPs bd hi last n).take (k + 1)) ((endRs bd hi n).take (k + 1))) := by
              show ERel _ _ _ _ _ _ _ _ _ _ _ _ _ _ _ _ _ _ _ _
              rw [HPS.out, HRS.out]
              exact HN.out
            go_wp2
            go_roundw
            case rel => exact ⟨k + 1, by omega, by go_num, _, _, HNN.out⟩
            case measure => simp [intOf]; omega
      · have HYL : Hid (row = dd.prices.map (sel hi)) := by show row = _; rw [HROW.out, if_neg hkn]
        have e1 : ((k : Int) == (n : Int)) = false := by simp; omega
        clear hkn
        go_wp2
        have HVB : Hid (Below wr.heap.size wr (((wr.alloc (.cells #[.slice pa dd.prices.length pc, .int .i64 dd.rate.lo, .int .i64 dd.rate.hi] 111)).alloc (.cells #[.func (.func (selF hi)) #[] #[]] 156)).alloc (.cells #[.int .i64 0, .int .i64 0, .int .i64 0, .int .i64 0] 139))) := (((Below.refl _ _).alloc (Nat.le_refl _) _).alloc (by simp) _).alloc (by simp; omega) _
        have HV1 : Hid ((((wr.alloc (.cells #[.slice pa dd.prices.length pc, .int .i64 dd.rate.lo, .int .i64 dd.rate.hi] 111)).alloc (.cells #[.func (.func (selF hi)) #[] #[]] 156)).alloc (.cells #[.int .i64 0, .int .i64 0, .int .i64 0, .int .i64 0] 139)).heap[wr.heap.size]? = some (.cells #[.slice pa dd.prices.length pc, .int .i64 dd.rate.lo, .int .i64 dd.rate.hi] 111 (0, 0))) := al_old (al_old (al_new rfl))
        have HV2 : Hid ((((wr.alloc (.cells #[.slice pa dd.prices.length pc, .int .i64 dd.rate.lo, .int .i64 dd.rate.hi] 111)).alloc (.cells #[.func (.func (selF hi)) #[] #[]] 156)).alloc (.cells #[.int .i64 0, .int .i64 0, .int .i64 0, .int .i64 0] 139)).heap[wr.heap.size + 1]? = some (.cells #[.func (.func (selF hi)) #[] #[]] 156 (0, 0))) := al_old (al_new (by simp))
        have HV3 : Hid ((((wr.alloc (.cells #[.slice pa dd.prices.length pc, .int .i64 dd.rate.lo, .int .i64 dd.rate.hi] 111)).alloc (.cells #[.func (.func (selF hi)) #[] #[]] 156)).alloc (.cells #[.int .i64 0, .int .i64 0, .int .i64 0, .int .i64 0] 139)).heap[wr.heap.size + 1 + 1]? = some (.cells (arr4 (row.take 0)) 139 (0, 0))) := al_new (by simp)
        have hVs : wr.heap.size + 3 ≤ (((wr.alloc (.cells #[.slice pa dd.prices.length pc, .int .i64 dd.rate.lo, .int .i64 dd.rate.hi] 111)).alloc (.cells #[.func (.func (selF hi)) #[] #[]] 156)).alloc (.cells #[.int .i64 0, .int .i64 0, .int .i64 0, .int .i64 0] 139)).heap.size := by simp
        generalize ((wr.alloc (.cells #[.slice pa dd.prices.length pc, .int .i64 dd.rate.lo, .int .i64 dd.rate.hi] 111)).alloc (.cells #[.func (.func (selF hi)) #[] #[]] 156)).alloc (.cells #[.int .i64 0, .int .i64 0, .int .i64 0, .int .i64 0] 139) = V at *
        have hnpw : wr.heap.size + 1 < wr.heap.size + 1 + 1 := by omega
        have hnyw : wr.heap.size < wr.heap.size + 1 := by omega
        have hVs2 : wr.heap.size + 1 + 1 < V.heap.size := by omega
        generalize wr.heap.size + 1 + 1 = np at *
        generalize wr.heap.size + 1 = ny at *
        have HRL : Hid (row.length = dd.prices.length) := by show row.length = _; rw [HYL.out]; simp
        generalize hmp : dd.prices.length = mp at *
        have HMP := Lib.hid hmp
        clear hmp
        have hmp4 : mp ≤ 4 := HLP.out
        obtain ⟨wo, rfl⟩ : ∃ wo : World, wo = wr := ⟨_, rfl⟩
        go_loopw [14, 15, 39] (fun _ _ i wr => ∃ s : Nat, s ≤ mp ∧ i = .int .i64 s ∧ Below np V wr ∧ wr.heap[np]? = some (.cells (arr4 (row.take s)) 139 (0, 0))) (fun _ _ i _ => mp - (intOf i).toNat)
        case atStart => exact ⟨0, Nat.zero_le _, rfl, Below.refl _ _, HV3.out⟩
        case round =>
          obtain ⟨s, hs, rfl, hbv, hnp⟩ := hrel
          have HBV := Lib.hid hbv; have HNP := Lib.hid hnp
          have lnp := heap_lt hnp
          clear hbv hnp
          by_cases hlts : s < mp
          · have hsn : s < dd.prices.length := by have := HMP.out; omega
            obtain ⟨b2, off2, rfl, p4, p5⟩ := (HQ.out.below HVB.out) s hsn
            have lb2 : b2 < wo.heap.size := by
              obtain ⟨b3, off3, e3, p6, _⟩ := HQ.out s hsn
              simp only [Option.some.injEq, Addr.mk.injEq] at e3
              rw [e3.1]
              exact World.block_lt_of_cell? _ _ p6
            replace p4 := (HBV.out.cell (p := ⟨b2, off2 + s * 2, none⟩) (by simp; omega)).trans p4
            replace p5 := (HBV.out.cell (p := ⟨b2, off2 + s * 2 + 1, none⟩) (by simp; omega)).trans p5
            have yy : wr.cell? ⟨ny, 0, none⟩ = some (.func (.func (selF hi)) #[] #[]) := (HBV.out.cell (p := ⟨ny, 0, none⟩) hnpw).trans ((cell_of_heap HV2.out).trans rfl)
            have HSET : Hid ((arr4 (row.take s)).setIfInBounds s (.int .i64 (sel hi ⟨(dd.prices.getD s default).lo, (dd.prices.getD s default).hi⟩)) = arr4 (row.take (s + 1))) := by
              have h1 := arr4_set row s (by have := HRL.out; omega) (by have := HRL.out; omega)
              have h2 : row.getD s 0 = sel hi (dd.prices.getD s default) := by
                rw [HYL.out]
                simp [List.getD_eq_getElem?_getD, List.getElem?_map, List.getElem?_eq_getElem hsn]
              rw [h2] at h1
              exact h1
            clear hsn
            generalize (dd.prices.getD s default).lo = rlo at *
            generalize (dd.prices.getD s default).hi = rhi at *
            have hs1 : (s : Int) < (mp : Int) := by omega
            have hs0 : (0 : Int) ≤ (s : Int) := by omega
            have hs4 : (s : Int) < 4 := by omega
            have lny : ny < wr.heap.size := by omega
            have lb3 : b2 < wr.heap.size := by omega
            have hcell : wr.cell? ⟨np, s, none⟩ = some (.int .i64 ((row.take s).getD s 0)) := (cell_of_heap HNP.out).trans (arr4_get _ _ (by omega))
            have hfrz : wr.frozen? ⟨np, s, none⟩ = false := frozen_of_heap HNP.out
            have hcf := call_sel hi
            have HCE := Lib.hid hcell; have HFZ := Lib.hid hfrz
            clear hcell hfrz
            go_wp2_with fail
            refine (sel_any hi _ _ _).mono ?_
            rintro e w5 ⟨rfl, hb5⟩
            have hb6 : Below wr.heap.size wr w5 := ((Below.refl _ _).alloc (Nat.le_refl _) _).trans (hb5.mono (by simp))
            have HB6 := Lib.hid hb6
            have d1 := cell_below hb6 HCE.out
            have d2 := frz_below hb6 HCE.out HFZ.out
            clear hb5 hb6
            have HN1 := Lib.hid ((HBV.out.trans (HB6.out.mono (by omega))).setCell (p := ⟨np, s, none⟩) (Nat.le_refl _) (.int .i64 (sel hi ⟨rlo, rhi⟩)))
            have HN2 := Lib.hid (heap_setCell_same w5 np s (arr4 (row.take s)) 139 (.int .i64 (sel hi ⟨rlo, rhi⟩)) (heap_of_below HB6.out HNP.out))
            rw [HSET.out] at HN2
            go_wp2
            go_roundw
            case rel => exact ⟨s + 1, by omega, by go_num, HN1.out, HN2.out⟩
            case measure => simp [intOf]; omega
          · have htk : row.take s = row := List.take_of_length_le (by have := HRL.out; omega)
            rw [htk] at HNP
            clear htk
            have HREL2 := Lib.hid (HREL.out.move (HVB.out.trans (HBV.out.mono (by omega))))
            have u1 : wr.cell? ⟨bw, 3, none⟩ = some av := (cell_of_heap HREL2.out.k).trans rfl
            have u2 : wr.cell? ⟨bw, 4, none⟩ = some rv := (cell_of_heap HREL2.out.k).trans rfl
            have f1 : wr.frozen? ⟨bw, 3, none⟩ = false := frozen_of_heap HREL2.out.k
            have f2 : wr.frozen? ⟨bw, 4, none⟩ = false := frozen_of_heap HREL2.out.k
            have u3 : wr.cell? ⟨nx, 0, none⟩ = some (.func (.func (selF hi)) #[] #[]) := (cell_of_heap HREL2.out.x).trans rfl
            have u4 : wr.cell? ⟨wo.heap.size, 1, none⟩ = some (.int .i64 dd.rate.lo) := (HBV.out.cell (p := ⟨wo.heap.size, 1, none⟩) (by simp; omega)).trans ((cell_of_heap HV1.out).trans rfl)
            have u5 : wr.cell? ⟨wo.heap.size, 1 + 1, none⟩ = some (.int .i64 dd.rate.hi) := (HBV.out.cell (p := ⟨wo.heap.size, 1 + 1, none⟩) (by simp; omega)).trans ((cell_of_heap HV1.out).trans rfl)
            obtain ⟨a0, a1, a2, a3, HA⟩ : ∃ a0 a1 a2 a3, Hid (arr4 row = #[.int .i64 a0, .int .i64 a1, .int .i64 a2, .int .i64 a3]) := ⟨_, _, _, _, rfl⟩
            rw [HA.out] at HNP
            have u6 : wr.cell? ⟨np, 0, none⟩ = some (.int .i64 a0) := (cell_of_heap HNP.out).trans rfl
            have u7 : wr.cell? ⟨np, 1, none⟩ = some (.int .i64 a1) := (cell_of_heap HNP.out).trans rfl
            have u8 : wr.cell? ⟨np, 2, none⟩ = some (.int .i64 a2) := (cell_of_heap HNP.out).trans rfl
            have u9 : wr.cell? ⟨np, 3, none⟩ = some (.int .i64 a3) := (cell_of_heap HNP.out).trans rfl
            have hlo2 := HREL2.out.lo
            have NE : Hid (∀ g, av.ownBlock = some g → bw < g ∧ g < wo.heap.size) := fun g h => by
              have h1 := HREL2.out.oa.lt g h
              have h2 := HREL.out.oa.lt g h
              exact ⟨by omega, h2.2⟩
            have NE1 : Hid (some bw ≠ av.ownBlock) := fun e => by have := NE.out _ e.symm; omega
            have NE2 : Hid (some nx ≠ av.ownBlock) := fun e => by have := NE.out _ e.symm; omega
            have NE3 : Hid (some wo.heap.size ≠ av.ownBlock) := fun e => by have := NE.out _ e.symm; omega
            have NE4 : Hid (some np ≠ av.ownBlock) := fun e => by have := NE.out _ e.symm; omega
            have NR : Hid (some bw ≠ rv.ownBlock) := fun e => by have := (HREL2.out.or.lt _ e.symm).1; omega
            have HLK1 : Hid (((endPs bd hi last n).take k).length = k) := by show _ = _; simp [endPs]; omega
            have HLK2 : Hid (((endRs bd hi n).take k).length = k) := by show _ = _; simp [endRs]; omega
            have hcf := call_sel hi
            have lbr2 : bw < wr.heap.size := heap_lt HREL2.out.k
            have hwo : wo.heap.size ≤ wr.heap.size := by omega
            clear hlo2
            go_wp2_with fail
            refine wp_region_plan (fun w' => w'.cell? ⟨bw, 3, none⟩ = some av ∧ w'.cell? ⟨bw, 4, none⟩ = some rv ∧ w'.cell? ⟨nx, 0, none⟩ = some (.func (.func (selF hi)) #[] #[]) ∧ w'.cell? ⟨wo.heap.size, 1, none⟩ = some (.int .i64 dd.rate.lo) ∧ w'.cell? ⟨wo.heap.size, 1 + 1, none⟩ = some (.int .i64 dd.rate.hi) ∧ w'.cell? ⟨np, 0, none⟩ = some (.int .i64 a0) ∧ w'.cell? ⟨np, 1, none⟩ = some (.int .i64 a1) ∧ w'.cell? ⟨np, 2, none⟩ = some (.int .i64 a2) ∧ w'.cell? ⟨np, 3, none⟩ = some (.int .i64 a3))
              [(0, 0), (1, 0), (2, 0), (3, 0), (4, 0), (5, 1), (6, 1), (9, 0), (10, 0), (11, 0), (12, 1), (13, 0), (14, 1), (15, 0), (16, 1), (7, 2), (8, 2), (17, 2), (18, 2), (19, 3), (20, 0), (21, 0), (22, 3), (23, 0), (24, 0), (25, 3)] (by kernel_rfl) (by kernel_rfl) ⟨u1, u2, u3, u4, u5, u6, u7, u8, u9⟩ ?_
            repeat (first
              | (refine plan_look0 (v := ?_) rfl rfl ?_ ?_; rotate_left; focus (intro w'; go_simp; (try with_reducible rfl)); (try simp only [Act.put, List.setIfInBounds_toArray, List.set_cons_zero, List.set_cons_succ]))
              | (refine plan_look1 (v := ?_) rfl rfl ?_ ?_; rotate_left; focus (intro w' hSw; (try dsimp only at hSw); go_simp; (try with_reducible rfl)); (try simp only [Act.put, List.setIfInBounds_toArray, List.set_cons_zero, List.set_cons_succ])))
            refine plan_do2 (by rfl) (fun K hK => ?_)
            go_simp
            refine hK.out _ _ ⟨cell_al (w := wr.drew) u1, cell_al (w := wr.drew) u2, cell_al (w := wr.drew) u3, cell_al (w := wr.drew) u4, cell_al (w := wr.drew) u5, cell_al (w := wr.drew) u6, cell_al (w := wr.drew) u7, cell_al (w := wr.drew) u8, cell_al (w := wr.drew) u9⟩ ?_
            clear hK K
            (try simp only [Act.put, List.setIfInBounds_toArray, List.set_cons_zero, List.set_cons_succ])
            refine plan_do2 (by rfl) (fun K hK => ?_)
            refine step_app (K := arrK) (by rfl) _ _ (by rfl) (bw + 1) av ((endPs bd hi last n).take k) k HLK1.out (by rfl) (HREL2.out.oa.drew.alloc _) wr.heap.size row [.int .i64 a0, .int .i64 a1, .int .i64 a2, .int .i64 a3] (by rfl) (heap_alloc_new wr.drew _) (by show _ = (arr4 row).toList; rw [HA.out]) (fun b h => h.elim) (by omega) (by simp; omega) ?_
            intro g1 cap1 w3 hown3 hgrow3 hat3 hlt3
            have v1 := cell_grown hgrow3 (cell_al (w := wr.drew) u1) NE1.out
            have v2 := cell_grown hgrow3 (cell_al (w := wr.drew) u2) NE1.out
            have v3 := cell_grown hgrow3 (cell_al (w := wr.drew) u3) NE2.out
            have v4 := cell_grown hgrow3 (cell_al (w := wr.drew) u4) NE3.out
            have v5 := cell_grown hgrow3 (cell_al (w := wr.drew) u5) NE3.out
            have v6 := cell_grown hgrow3 (cell_al (w := wr.drew) u6) NE4.out
            have v7 := cell_grown hgrow3 (cell_al (w := wr.drew) u7) NE4.out
            have v8 := cell_grown hgrow3 (cell_al (w := wr.drew) u8) NE4.out
            have v9 := cell_grown hgrow3 (cell_al (w := wr.drew) u9) NE4.out
            have fv1 := frz_grown hgrow3 (cell_al (w := wr.drew) u1) (frz_al (w := wr.drew) u1 f1) NE1.out
            have fv2 := frz_grown hgrow3 (cell_al (w := wr.drew) u2) (frz_al (w := wr.drew) u2 f2) NE1.out
            have HOWN3 := Lib.hid hown3; have HGR3 := Lib.hid hgrow3; have HAT3 := Lib.hid hat3
            have HOR3 := Lib.hid ((HREL2.out.or.drew.alloc (.cells #[.int .i64 a0, .int .i64 a1, .int .i64 a2, .int .i64 a3] 139)).grown hgrow3 (fun g h => .inr ⟨HREL2.out.sep g h, rfl⟩))
            have hs3 : wr.heap.size + 1 ≤ w3.heap.size := by have := hgrow3.size; simpa using this
            clear hown3 hgrow3 hat3
            refine hK.out _ _ ⟨v1, v2, v3, v4, v5, v6, v7, v8, v9⟩ ?_
            clear hK K
            (try simp only [Act.put, List.setIfInBounds_toArray, List.set_cons_zero, List.set_cons_succ])
            refine plan_do2 (by rfl) (fun K hK => ?_)
            go_simp
            refine (sel_any hi _ _ _).mono ?_
            rintro e w4 ⟨rfl, hb4⟩
            have HB4 := Lib.hid hb4
            have z1 := cell_below hb4 v1
            have z2 := cell_below hb4 v2
            have z3 := cell_below hb4 v3
            have z4 := cell_below hb4 v4
            have z5 := cell_below hb4 v5
            have z6 := cell_below hb4 v6
            have z7 := cell_below hb4 v7
            have z8 := cell_below hb4 v8
            have z9 := cell_below hb4 v9
            have fz1 := frz_below hb4 v1 fv1
            have fz2 := frz_below hb4 v2 fv2
            have hs4 : w3.heap.size ≤ w4.heap.size := hb4.size
            clear hb4
            go_wp2_with fail
            refine hK.out _ _ ⟨z1, z2, z3, z4, z5, z6, z7, z8, z9⟩ ?_
            clear hK K
            (try simp only [Act.put, List.setIfInBounds_toArray, List.set_cons_zero, List.set_cons_succ])
            refine plan_do2 (by rfl) (fun K hK => ?_)
            go_simp
            refine hK.out _ _ ⟨cell_al z1, cell_al z2, cell_al z3, cell_al z4, cell_al z5, cell_al z6, cell_al z7, cell_al z8, cell_al z9⟩ ?_
            clear hK K
            (try simp only [Act.put, List.setIfInBounds_toArray, List.set_cons_zero, List.set_cons_succ])
            refine plan_do3 (by rfl) (fun K hK => ?_)
            refine step_app (K := intK) (by rfl) _ _ (by rfl) (bw + 1) rv ((endRs bd hi n).take k) k HLK2.out (by rfl) ((HOR3.out.below HB4.out).alloc _) w4.heap.size (sel hi ⟨dd.rate.lo, dd.rate.hi⟩) [.int .i64 (sel hi ⟨dd.rate.lo, dd.rate.hi⟩)] (by rfl) (heap_alloc_new w4 _) rfl (fun b h => h.elim) (by omega) (by simp; omega) ?_
            intro g2 cap2 w6 hown6 hgrow6 hat6 hlt6
            have y1 := cell_grown hgrow6 (cell_al z1) NR.out
            have y2 := cell_grown hgrow6 (cell_al z2) NR.out
            have fy1 := frz_grown hgrow6 (cell_al z1) (frz_al z1 fz1) NR.out
            have fy2 := frz_grown hgrow6 (cell_al z2) (frz_al z2 fz2) NR.out
            have HOWN6 := Lib.hid hown6; have HGR6 := Lib.hid hgrow6; have HAT6 := Lib.hid hat6
            clear hown6 hgrow6 hat6
            refine hK.out _ _ ?_
            clear hK K
            (try simp only [Act.put, List.setIfInBounds_toArray, List.set_cons_zero, List.set_cons_succ])
            repeat (first
              | (refine plan_look0 (v := ?_) rfl rfl ?_ ?_; rotate_left; focus (intro w'; go_simp; (try with_reducible rfl)); (try simp only [Act.put, List.setIfInBounds_toArray, List.set_cons_zero, List.set_cons_succ]))
              | (refine plan_look1 (v := ?_) rfl rfl ?_ ?_; rotate_left; focus (intro w' hSw; (try dsimp only at hSw); go_simp; (try with_reducible rfl)); (try simp only [Act.put, List.setIfInBounds_toArray, List.set_cons_zero, List.set_cons_succ])))
            refine plan_do3 (by rfl) (fun K hK => ?_)
            go_simp
            refine hK.out _ _ ?_
            clear hK K
            (try simp only [Act.put, List.setIfInBounds_toArray, List.set_cons_zero, List.set_cons_succ])
            repeat (first
              | (refine plan_look0 (v := ?_) rfl rfl ?_ ?_; rotate_left; focus (intro w'; go_simp; (try with_reducible rfl)); (try simp only [Act.put, List.setIfInBounds_toArray, List.set_cons_zero, List.set_cons_succ]))
              | (refine plan_look1 (v := ?_) rfl rfl ?_ ?_; rotate_left; focus (intro w' hSw; (try dsimp only at hSw); go_simp; (try with_reducible rfl)); (try simp only [Act.put, List.setIfInBounds_toArray, List.set_cons_zero, List.set_cons_succ])))
            refine plan_do3 (by rfl) (fun K hK => ?_)
            go_simp
            refine hK.out _ _ ?_
            clear hK K
            (try simp only [Act.put, List.setIfInBounds_toArray, List.set_cons_zero, List.set_cons_succ])
            refine plan_end ?_
            have HG1 : Hid (Below bw wr ((w6.setCell ⟨bw, 3, none⟩ (.slice (some ⟨g1, 0, none⟩) (k + 1) cap1)).setCell ⟨bw, 4, none⟩ (.slice (some ⟨g2, 0, none⟩) (k + 1) cap2))) := by
              have h1 : Below bw wr w3 := ((Below.refl _ _).drew.alloc (show bw ≤ wr.heap.size by omega) _).grown HGR3.out (by simp; omega) (fun g h => by have := NE.out g h; omega)
              have h2 : Below bw wr w4 := h1.trans (HB4.out.mono (by omega))
              exact (((h2.alloc (by omega) _).grown HGR6.out (by simp; omega) (fun g h => by have := (HREL2.out.or.lt g h).1; omega)).setCell (by simp) _).setCell (by simp) _
            have HG2 : Hid (((w6.setCell ⟨bw, 3, none⟩ (.slice (some ⟨g1, 0, none⟩) (k + 1) cap1)).setCell ⟨bw, 4, none⟩ (.slice (some ⟨g2, 0, none⟩) (k + 1) cap2)).heap[bw]? = some (.cells #[.int .i64 st, .slice (some ⟨b, off, none⟩) bd.days.length dc, .slice la bd.loans.length lc, .slice (some ⟨g1, 0, none⟩) (k + 1) cap1, .slice (some ⟨g2, 0, none⟩) (k + 1) cap2, .map (some B)] 150 (0, 0))) :=
              heap_setCell_same _ _ 4 #[.int .i64 st, .slice (some ⟨b, off, none⟩) bd.days.length dc, .slice la bd.loans.length lc, .slice (some ⟨g1, 0, none⟩) (k + 1) cap1, rv, .map (some B)] _ _ (heap_setCell_same _ _ 3 #[.int .i64 st, .slice (some ⟨b, off, none⟩) bd.days.length dc, .slice la bd.loans.length lc, av, rv, .map (some B)] _ _
                (heap_app HGR6.out (heap_of_below HB4.out (heap_app_drew HGR3.out HREL2.out.k lbr2 NE1.out)) (by omega) NR.out))
            have HN := Lib.hid (HREL2.out.mk' HG1.out HG2.out
              (((((HOWN3.out.below HB4.out).alloc _).grown HGR6.out (fun g h => .inr ⟨fun e => by
                  simp only [Value.ownBlock, Option.some.injEq] at e
                  subst e
                  rcases HAT3.out with h3 | h3
                  · exact HREL2.out.sep _ h3 h
                  · have := (HREL2.out.or.lt _ h).2; simp at h3; omega, rfl⟩)).setCell (by simp) _).setCell (by simp) _)
              ((HOWN6.out.setCell (by simp) _).setCell (by simp) _)
              (fun g h h' => by
                simp only [Value.ownBlock, Option.some.injEq] at h h'
                subst h
                subst h'
                rcases HAT6.out with h6 | h6
                · rcases HAT3.out with h3 | h3
                  · exact HREL2.out.sep _ h3 h6
                  · have := (HREL2.out.or.lt _ h6).2; simp at h3; omega
                · have := HB4.out.size; simp at h6; omega))
            have HNN : Hid (ERel w ((w6.setCell ⟨bw, 3, none⟩ (.slice (some ⟨g1, 0, none⟩) (k + 1) cap1)).setCell ⟨bw, 4, none⟩ (.slice (some ⟨g2, 0, none⟩) (k + 1) cap2)) nb nx nl B bw st (some ⟨b, off, none⟩) la bd.days.length dc bd.loans.length lc hi last (.slice (some ⟨g1, 0, none⟩) (k + 1) cap1) (.slice (some ⟨g2, 0, none⟩) (k + 1) cap2) ((endPs bd hi last n).take (k + 1)) ((endRs bd hi n).take (k + 1))) := by
              show ERel _ _ _ _ _ _ _ _ _ _ _ _ _ _ _ _ _ _ _ _
              rw [HPS.out, HRS.out]
              exact HN.out
            go_wp2
            go_roundw
            case rel => exact ⟨k + 1, by omega, by go_num, _, _, HNN.out⟩
            case measure => simp [intOf]; omega
    · have HA1 := Lib.hid HREL.out.oa
      have HR1 := Lib.hid HREL.out.or
      rw [List.take_of_length_le (by simp [endPs]; omega)] at HA1
      rw [List.take_of_length_le (by simp [endRs]; omega)] at HR1
      obtain ⟨aa, ac, e1, harr, _⟩ := HA1.out.arrs
      obtain ⟨ra, rc, e2, hint, _⟩ := HR1.out.ints
      have HARR := Lib.hid harr; have HINT := Lib.hid hint; have HE1 := Lib.hid e1; have HE2 := Lib.hid e2
      clear harr hint e1 e2
      go_wp2
      go_ret
      have hlo := HREL.out.lo
      have hbx := HREL.out.k
      rw [HE1.out, HE2.out] at hbx
      exact ⟨bw, B, aa, ac, ra, rc, rfl, ⟨hbx, HB.out.2.below HREL.out.below, HARR.out, HINT.out, ⟨#[], 0, HREL.out.m, fun e he => by cases he⟩⟩, by have := HNB.out; omega, HREL.out.below⟩
end Go.Proofs.Ytfiacjdkdjkiiaa
