/- One more order, that comes last: plain. -/
import Derived.Test.YteaoclpikdmkiaaGQd
namespace Go.Proofs.Yteaoclpikdmkiaa
open Go Go.RowKit Go.Tl
set_option linter.unusedVariables false
set_option linter.unusedSimpArgs false
abbrev moreP (p : PostD) (m : OrdD) : PostD := ⟨p.ords ++ [m]⟩
theorem more_at {p : PostD} {m : OrdD} {i : Nat} (h : i < p.ords.length) : oAt (moreP p m) i = oAt p i := by
  show (p.ords ++ [m]).getD i default = p.ords.getD i default
  rw [List.getD_eq_getElem?_getD, List.getElem?_append_left h, ← List.getD_eq_getElem?_getD]
theorem more_last {p : PostD} {m : OrdD} : oAt (moreP p m) p.ords.length = m := by
  show (p.ords ++ [m]).getD p.ords.length default = m
  simp [List.getD_eq_getElem?_getD]
theorem more_getI {t : List Int} {x : Int} {i : Nat} (h : i < t.length) : (t ++ [x]).getD i 0 = t.getD i 0 := by
  rw [List.getD_eq_getElem?_getD, List.getElem?_append_left h, ← List.getD_eq_getElem?_getD]
theorem more_truth {p : PostD} {m : OrdD} {t : List Int} (hv : VPost (moreP p m)) (ht : truthB p t = true) (hm : m.hi = 30) : truthB (moreP p m) (t ++ [30]) = true := by
  obtain ⟨h1, h2⟩ := truth_iff.1 ht
  have hl : (moreP p m).ords.length = p.ords.length + 1 := by simp
  refine truth_iff.2 ⟨by rw [hl]; simp [h1], fun k hk => ?_⟩
  have hk' : k < t.length + 1 := by simpa using hk
  have e : (moreP p m).ords.getD k default = oAt (moreP p m) k := rfl
  rw [e]
  by_cases c : k < t.length
  · rw [more_getI c, more_at (by omega)]
    exact h2 k c
  · obtain rfl : k = p.ords.length := by omega
    have h3 := hv.min p.ords.length (by omega)
    have e2 : (moreP p m).ords.getD p.ords.length default = m := more_last
    rw [e2] at h3
    rw [more_last, show (t ++ [(30 : Int)]).getD p.ords.length 0 = 30 from by rw [← h1]; simp [List.getD_eq_getElem?_getD]]
    exact inB_iff.2 ⟨by omega, by omega⟩
theorem more_comes {p : PostD} {m : OrdD} {t : List Int} (hv : VPost (moreP p m)) (hv' : VPost p) (ht : truthB p t = true) (hm : m.hi = 30) : comesN (t ++ [30]) = comesN t ++ [p.ords.length] := by
  obtain ⟨h1, h2⟩ := truth_iff.1 ht
  have hr : ∀ i, i < t.length → 0 ≤ t.getD i 0 ∧ t.getD i 0 ≤ 30 := fun i hi => by
    have h3 := inB_iff.1 (h2 i hi)
    have h4 := hv'.min i (by omega)
    exact ⟨by omega, by omega⟩
  refine comes_of_srt hv (more_truth hv ht hm) ?_ fun i => ?_
  · rw [List.pairwise_append]
    refine ⟨?_, by simp, fun a ha b hb => ?_⟩
    · refine List.Pairwise.imp_of_mem ?_ (comes_srt t)
      intro a b ha hb hab
      unfold KB at *
      rw [more_getI (comes_mem.1 ha).1, more_getI (comes_mem.1 hb).1]
      exact hab
    · obtain rfl := List.mem_singleton.1 hb
      have h5 := comes_mem.1 ha
      unfold KB
      rw [more_getI h5.1, show (t ++ [(30 : Int)]).getD p.ords.length 0 = 30 from by rw [← h1]; simp [List.getD_eq_getElem?_getD]]
      omega
  · rw [List.mem_append, List.mem_singleton, comes_mem]
    have hl : (t ++ [(30 : Int)]).length = t.length + 1 := by simp
    rw [hl]
    constructor
    · rintro (h | h) <;> omega
    · intro h
      by_cases c : i < t.length
      · exact .inl ⟨c, hr i c⟩
      · right; omega
/-- what an order that comes adds to the sales -/
theorem match_adds {p : PostD} {o : OrdD} {i : Nat} {came : List Int} : ∀ (f : Nat) (s : (Nat → Int) × List SaleD), ∃ l, (matchN p o i came f s).2 = s.2 ++ l ∧ ∀ x ∈ l, x.buyer = i ∨ x.seller = i
  | 0, s => ⟨[], by simp [matchN], fun _ h => by cases h⟩
  | f + 1, s => by
    simp only [matchN]
    split
    · split
      · exact ⟨[], by simp, fun _ h => by cases h⟩
      · generalize restN p s.1 o came came.length = k at *
        obtain ⟨l, h1, h2⟩ := match_adds (p := p) (o := o) (i := i) (came := came) f (takeN s.1 i k.toNat (min (s.1 i) (s.1 k.toNat)), s.2 ++ [saleN p o i k.toNat (min (s.1 i) (s.1 k.toNat))])
        refine ⟨saleN p o i k.toNat (min (s.1 i) (s.1 k.toNat)) :: l, by rw [h1]; simp, fun x hx => ?_⟩
        rcases List.mem_cons.1 hx with e | hx
        · rw [e]; unfold saleN; split
          · exact .inl rfl
          · exact .inr rfl
        · exact h2 x hx
    · exact ⟨[], by simp, fun _ h => by cases h⟩
theorem more_play {p : PostD} {m : OrdD} {t : List Int} (hv : VPost (moreP p m)) (hv' : VPost p) (ht : truthB p t = true) (hm : m.hi = 30) : ∃ l, playT (moreP p m) (t ++ [30]) = playT p t ++ l ∧ ∀ x ∈ l, x.buyer = p.ords.length ∨ x.seller = p.ords.length := by
  obtain ⟨h1, h2⟩ := truth_iff.1 ht
  have hr := rel_run (z := false) (p := p) (x := moreP p m) (comesN t) fun i hi => by
    have := (comes_mem.1 hi).1
    rw [more_at (by omega)]
    exact rel_refl _ _ rfl rfl rfl
  have e : playT (moreP p m) (t ++ [30]) = (comeN (moreP p m) (runN (moreP p m) (comesN t)) p.ords.length).log := by
    unfold playT
    rw [more_comes hv hv' ht hm, run_snoc]
  rw [e]
  obtain ⟨l, h3, h4⟩ := match_adds (p := moreP p m) (o := oAt (moreP p m) p.ords.length) (i := p.ords.length) (came := (runN (moreP p m) (comesN t)).came) 20 (fun q => if q = p.ords.length then (oAt (moreP p m) p.ords.length).num else (runN (moreP p m) (comesN t)).left q, (runN (moreP p m) (comesN t)).log)
  refine ⟨l, ?_, h4⟩
  have e2 : (comeN (moreP p m) (runN (moreP p m) (comesN t)) p.ords.length).log = (runN (moreP p m) (comesN t)).log ++ l := h3
  rw [e2, hr.2.2, map_turn_no]
  rfl
end Go.Proofs.Yteaoclpikdmkiaa
