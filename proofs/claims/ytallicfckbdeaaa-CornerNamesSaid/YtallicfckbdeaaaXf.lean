/- What Settle returns: plain. -/
import Derived.Test.YtallicfckbdeaaaJb
import Derived.Test.YtallicfckbdeaaaXc
namespace Go.Proofs.Ytallicfckbdeaaa
open Go Go.RowKit Go.Tl
set_option linter.unusedVariables false
set_option linter.unusedSimpArgs false
theorem needs_val {m : MktD} {t : List Int} (hf : faultN m = 0) (ht : truthB m t = true) : needsR m t = (needL m t m.hou.length, spareL m t m.hou.length, 0) := by
  unfold needsR
  rw [if_neg (fun h => h hf), if_pos ht]
theorem mx_zero {m : MktD} {t : List Int} (hv : VMkt m) : (0 < mxL ((List.range m.hou.length).map (outerS m t (cheapL m)).nd) (m.hou.length - 1)) ↔ ¬ ∀ i, i < m.hou.length → (outerS m t (cheapL m)).nd i = 0 := by
  have hpos := hv.pos
  have hs := (gr_end t hv).sst
  rw [mx_iff]
  constructor
  · rintro ⟨i, hi, h⟩ hz
    have hi2 : i < m.hou.length := by omega
    have e : ((List.range m.hou.length).map (outerS m t (cheapL m)).nd).getD i 0 = (outerS m t (cheapL m)).nd i := by simp [List.getD_eq_getElem?_getD, hi2]
    rw [e, hz i hi2] at h
    exact absurd h (Int.lt_irrefl _)
  · intro h
    refine Classical.byContradiction fun hn => h fun i hi => ?_
    have e : ((List.range m.hou.length).map (outerS m t (cheapL m)).nd).getD i 0 = (outerS m t (cheapL m)).nd i := by simp [List.getD_eq_getElem?_getD, hi]
    have h1 := hs.bn i hi
    refine Classical.byContradiction fun hne => hn ⟨i, by omega, ?_⟩
    rw [e]
    omega
theorem cheap_len {m : MktD} (hv : VMkt m) : (cheapL m).length ≤ 6 := by
  have h := pigeon m.hou.length (cheapL m) (srt_nodup (ord_srt _)) (fun i hi => (cheap_mem hv).1 hi)
  have := hv.len
  omega
theorem setl_yes {m : MktD} {t : List Int} (hf : faultN m = 0) (ht : truthB m t = true) (hs : shortT m t ≤ 0) : ∃ S co, setlR m t = (S, co, 0) ∧ SetS m t S ∧ coK m S S.length = co ∧ S.length ≤ 36 ∧ (0 ≤ co ∧ co ≤ 100000000) ∧ ∀ l, SetS m t l → co ≤ coK m l l.length := by
  have hv := vmkt hf
  have hlen := hv.len
  have hz := (gr_short hv (truth_iff.1 ht).1).2 hs
  have hg := gr_set hv hz
  have hc := fun l hl => gr_cheapest hv hz (l := l) hl
  have hok := outer_ok hv ht (cheapL m) (fun f hf => (cheap_mem hv).1 hf)
  have hcl := cheap_len hv
  have hK : m.hou.length * (cheapL m).length ≤ 36 := Nat.le_trans (Nat.mul_le_mul hlen hcl) (by decide)
  have h1 := hok.len
  have h2 := hok.cost
  refine ⟨(outerS m t (cheapL m)).sales, (outerS m t (cheapL m)).cost, ?_, hg.1, hg.2, by omega, by omega, hc⟩
  unfold setlR
  rw [needs_val hf ht, if_neg (fun h => h rfl), if_neg (fun h => (mx_zero hv).1 h hz)]
theorem setl_no {m : MktD} {t : List Int} (hf : faultN m = 0) (ht : truthB m t = true) (hs : 0 < shortT m t) : setlR m t = ([], 0, 10) := by
  have hv := vmkt hf
  have hz : ¬ ∀ i, i < m.hou.length → (outerS m t (cheapL m)).nd i = 0 := fun h => by
    have := (gr_short hv (truth_iff.1 ht).1).1 h
    omega
  unfold setlR
  rw [needs_val hf ht, if_neg (fun h => h rfl), if_pos ((mx_zero hv).2 hz)]
theorem proves_yes {m : MktD} {t : List Int} {l : List SalC} {c : Int} (hf : faultN m = 0) (ht : truthB m t = true) (h : SetS m t l) (hc : coK m l l.length ≤ c) : provesB m t l c = true := by
  unfold provesB
  rw [needs_val hf ht, decide_eq_true rfl, Bool.true_and]
  exact setB_iff.2 ⟨h, hc⟩
theorem proves_no {m : MktD} {t : List Int} {l : List SalC} {c : Int} (h : ¬ (SetS m t l ∧ coK m l l.length ≤ c)) : provesB m t l c = false := by
  unfold provesB
  cases e : setB m t l c
  · rw [Bool.and_false]
  · exact absurd (setB_iff.1 e) h
end Go.Proofs.Ytallicfckbdeaaa
