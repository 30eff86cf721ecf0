/- A post with one truth: plain. -/
import Derived.Test.YteaoclpikdmkiaaGQd
namespace Go.Proofs.Yteaoclpikdmkiaa
open Go Go.RowKit Go.Tl
set_option linter.unusedVariables false
set_option linter.unusedSimpArgs false
def certF (t : List Int) (i : Nat) (o : OrdD) : OrdD := ⟨o.buy, o.lim, o.num, t.getD i 0, t.getD i 0⟩
abbrev certP (p : PostD) (t : List Int) : PostD := mixF p (certF t) p.ords.length
theorem cert_at {p : PostD} {t : List Int} {i : Nat} (h : i < p.ords.length) : oAt (certP p t) i = certF t i (oAt p i) := by rw [mix_at h, if_pos h]
theorem cert_ok {p : PostD} (hv : VPost p) {t : List Int} (ht : ∀ i, i < p.ords.length → 0 ≤ t.getD i 0 ∧ t.getD i 0 ≤ 30) : faultN (certP p t) = 0 := by
  refine valid_of hv (mix_len _ _ _) fun i hi => ?_
  have h1 := hv.lim i hi
  have h2 := hv.num i hi
  have h3 := ht i hi
  rw [cert_at hi]
  exact ⟨h1, h2, h3.1, Int.le_refl _, h3.2⟩
theorem cert_truth {p : PostD} {t : List Int} (hl : t.length = p.ords.length) : truthB (certP p t) t = true := by
  refine truth_iff.2 ⟨by rw [hl, mix_len], fun k hk => ?_⟩
  have e : (certP p t).ords.getD k default = certF t k (oAt p k) := cert_at (by omega)
  rw [e]
  exact inB_iff.2 ⟨Int.le_refl _, Int.le_refl _⟩
end Go.Proofs.Yteaoclpikdmkiaa
