/- Odd as a call over trees. -/
import Derived.Test.YtfiacjdkdjkiiaaZsBl
import Derived.Test.YtfiacjdkdjkiiaaZsW20
namespace Go.Proofs.Ytfiacjdkdjkiiaa
open Go Go.RowKit Go.Tl
set_option linter.unusedVariables false
/-- records, as data -/
def recL (r : RecD) : List Tr := [.sc (.int .i64 r.loan), .sc (.int .i64 r.day), .sc (.int .i64 r.pence)]
def recsT (cp : Bool) (rs : List RecD) : Tr := .sl cp 3 rs.length (fun k => recL (rs.getD k default))
theorem recs_at {w : World} {S : Nat → Prop} {cp : Bool} {xs : List RecD} {v : Value} (h : Tl.TRel w S (recsT cp xs) v) : ∃ a c, v = .slice a xs.length c ∧ RecsAt w a xs := by
  obtain ⟨a, c, val, rfl, hc, h⟩ := sl_inv h
  refine ⟨a, c, rfl, fun k hk => ?_⟩
  obtain ⟨b, off, e, _, hcell, hr⟩ := h k hk
  refine ⟨b, off, e, ?_, ?_, ?_⟩
  · rw [← sc_inv (hr 0 _ rfl)]
    simpa using hcell 0 (by omega)
  · rw [← sc_inv (hr 1 _ rfl)]
    exact hcell 1 (by omega)
  · rw [← sc_inv (hr 2 _ rfl)]
    exact hcell 2 (by omega)
theorem odd_p (b : BankD) (cp : Bool) (l : List RecD) (hS : Short b) (hf : faultN b = 0) (hl : l.length ≤ 1000) (hr : spotsB b l = true) : PCall Try.prog 35 [bankA true b, .t (recsT cp l)] (fun r => r = .tup [.t (intsT false (oddN b l l.length)), intA 0]) := pcall_below fun w S vs hvs => by
  obtain ⟨v, us, rfl, h1, hvs⟩ := rels1 hvs
  obtain ⟨v2, us, rfl, h2, hvs⟩ := rels1 hvs
  obtain rfl := rels0 hvs
  obtain ⟨da, dc, la, lc, rfl, hc, hB⟩ := bank_at h1
  obtain ⟨ra, rc, rfl, hR⟩ := recs_at (t_inv h2)
  refine (odd_ok b da la dc lc ra rc l w hB hS hf hl hR hr (hc rfl)).mono fun e w' ⟨a, c, e1, r1, f1, hb⟩ => ⟨_, _, e1, rfl, hb, ?_⟩
  exact .tup (vs := [_, _]) rfl ((VRels.cons (ints_fresh r1 f1) (.cons (.v _) .nil)).2)
theorem odd_bad_p (b : BankD) (cp cp' : Bool) (l : List RecD) (hS : Short b) (hf : faultN b ≠ 0) : PCall Try.prog 35 [bankA cp' b, .t (recsT cp l)] (fun r => r = .tup [noneA, intA (faultN b)]) := pcall_below fun w S vs hvs => by
  obtain ⟨v, us, rfl, h1, hvs⟩ := rels1 hvs
  obtain ⟨v2, us, rfl, h2, hvs⟩ := rels1 hvs
  obtain rfl := rels0 hvs
  obtain ⟨da, dc, la, lc, rfl, hc, hB⟩ := bank_at h1
  obtain ⟨ra, rc, rfl, hR⟩ := recs_at (t_inv h2)
  exact (odd_bad b da la dc lc ra rc l w hB hS hf).mono fun e w' ⟨e1, hb⟩ => ⟨_, _, e1, rfl, hb, .tup (vs := [_, _]) rfl (VRels.lits [_, _]).2⟩
theorem odd_range_p (b : BankD) (cp cp' : Bool) (l : List RecD) (hS : Short b) (hf : faultN b = 0) (hl : l.length ≤ 1000) (hr : spotsB b l = false) : PCall Try.prog 35 [bankA cp' b, .t (recsT cp l)] (fun r => r = .tup [noneA, intA 2]) := pcall_below fun w S vs hvs => by
  obtain ⟨v, us, rfl, h1, hvs⟩ := rels1 hvs
  obtain ⟨v2, us, rfl, h2, hvs⟩ := rels1 hvs
  obtain rfl := rels0 hvs
  obtain ⟨da, dc, la, lc, rfl, hc, hB⟩ := bank_at h1
  obtain ⟨ra, rc, rfl, hR⟩ := recs_at (t_inv h2)
  exact (odd_range b da la dc lc ra rc l w hB hS hf hl hR hr).mono fun e w' ⟨e1, hb⟩ => ⟨_, _, e1, rfl, hb, .tup (vs := [_, _]) rfl (VRels.lits [_, _]).2⟩
end Go.Proofs.Ytfiacjdkdjkiiaa
