/- A post with one truth; a post that is turned: bounds. Plain. -/
import Derived.Test.YteaoclpikdmkiaaQd
import Derived.Test.YteaoclpikdmkiaaOt
import Derived.Test.YteaoclpikdmkiaaOw
namespace Go.Proofs.Yteaoclpikdmkiaa
open Go Go.RowKit Go.Tl
set_option linter.unusedVariables false
set_option linter.unusedSimpArgs false
def certF (t : List Int) (i : Nat) (o : OrdD) : OrdD := ⟨o.buy, o.lim, o.num, t.getD i 0, t.getD i 0⟩
abbrev certP (p : PostD) (t : List Int) : PostD := mixF p (certF t) p.ords.length
theorem cert_at {p : PostD} {t : List Int} {i : Nat} (h : i < p.ords.length) : oAt (certP p t) i = certF t i (oAt p i) := by rw [mix_at h, if_pos h]
theorem cert_ok {p : PostD} (hv : VPost p) {t : List Int} (ht : ∀ i, i < p.ords.length → 0 ≤ t.getD i 0 ∧ t.getD i 0 ≤ 30) : faultN (certP p t) = 0 := by
  refine valid_of hv (mix_len _ _ _) fun i hi => ?_
  have h1 := hv.lim i hi
  have h2 := hv.num i hi
  have h3 := ht i hi
  rw [cert_at hi]
  exact ⟨h1, h2, h3.1, Int.le_refl _, h3.2⟩
theorem cert_truth {p : PostD} {t : List Int} (hl : t.length = p.ords.length) : truthB (certP p t) t = true := by
  refine truth_iff.2 ⟨by rw [hl, mix_len], fun k hk => ?_⟩
  have e : (certP p t).ords.getD k default = certF t k (oAt p k) := cert_at (by omega)
  rw [e]
  exact inB_iff.2 ⟨Int.le_refl _, Int.le_refl _⟩
theorem cert_only {p : PostD} {t s : List Int} (hl : t.length = p.ords.length) (hs : truthB (certP p t) s = true) : s = t := by
  obtain ⟨h1, h2⟩ := truth_iff.1 hs
  rw [mix_len] at h1
  refine List.ext_getElem (by omega) fun k k1 k2 => ?_
  have h := h2 k k1
  have e : (certP p t).ords.getD k default = certF t k (oAt p k) := cert_at (by omega)
  rw [e] at h
  have h := inB_iff.1 h
  have h3 : t.getD k 0 ≤ s.getD k 0 := h.1
  have h4 : s.getD k 0 ≤ t.getD k 0 := h.2
  have h5 : s.getD k 0 = t.getD k 0 := by omega
  simpa [List.getD_eq_getElem?_getD, k1, k2] using h5
theorem bnd_one {p : PostD} (hv : VPost p) {f : Leaf → Int} {a : Int} (h : ∀ x ∈ leaves p, f x = a) : (bndL f (leaves p)).2 = (a, a) := by
  obtain ⟨h1, h2, _⟩ := (bnd_isB f (leaves p) (leaves_ne hv)).2
  obtain ⟨x, hx, ex⟩ := h1
  obtain ⟨y, hy, ey⟩ := h2
  exact Prod.ext (by rw [← ex, h x hx]) (by rw [← ey, h y hy])
theorem cert_leaf {p : PostD} {t : List Int} (hv : VPost (certP p t)) (hl : t.length = p.ords.length) {x : Leaf} (hx : x ∈ leaves (certP p t)) : x.1 = playT (certP p t) t := by
  obtain ⟨h1, h2⟩ := leaves_sound hv hx
  rw [h2, cert_only hl h1]
theorem cert_bdF {p : PostD} {t : List Int} (hv : VPost (certP p t)) (hl : t.length = p.ords.length) (i : Nat) : (bndL (filF i) (leaves (certP p t))).2 = ((filR (playT (certP p t) t) i (playT (certP p t) t).length).1, (filR (playT (certP p t) t) i (playT (certP p t) t).length).1) :=
  bnd_one hv fun x hx => by
    show (filP x.1 i x.1.length).1 = _
    rw [cert_leaf hv hl hx, fil_eq (fun s hs => sok_ne (play_sok hv (cert_truth hl) s hs)) i _ (Nat.le_refl _)]
theorem cert_bdM {p : PostD} {t : List Int} (hv : VPost (certP p t)) (hl : t.length = p.ords.length) (i : Nat) : (bndL (filM i) (leaves (certP p t))).2 = ((filR (playT (certP p t) t) i (playT (certP p t) t).length).2, (filR (playT (certP p t) t) i (playT (certP p t) t).length).2) :=
  bnd_one hv fun x hx => by
    show (filP x.1 i x.1.length).2 = _
    rw [cert_leaf hv hl hx, fil_eq (fun s hs => sok_ne (play_sok hv (cert_truth hl) s hs)) i _ (Nat.le_refl _)]
def turnF (i : Nat) (o : OrdD) : OrdD := ⟨!o.buy, 101 - o.lim, o.num, o.lo, o.hi⟩
abbrev turnP (p : PostD) : PostD := mixF p turnF p.ords.length
theorem turn_at {p : PostD} {i : Nat} (h : i < p.ords.length) : oAt (turnP p) i = turnF i (oAt p i) := by rw [mix_at h, if_pos h]
theorem turn_ok {p : PostD} (hv : VPost p) : faultN (turnP p) = 0 := by
  refine valid_of hv (mix_len _ _ _) fun i hi => ?_
  have h1 := hv.lim i hi
  have h2 := hv.num i hi
  have h3 := hv.min i hi
  rw [turn_at hi]
  refine ⟨?_, h2, h3.1, h3.2.1, h3.2.2⟩
  show 1 ≤ 101 - (oAt p i).lim ∧ 101 - (oAt p i).lim ≤ 100
  have h4 : 1 ≤ (oAt p i).lim ∧ (oAt p i).lim ≤ 100 := h1
  omega
theorem turn_truth {p : PostD} {t : List Int} : truthB (turnP p) t = true ↔ truthB p t = true := by
  rw [truth_iff, truth_iff, mix_len]
  refine and_congr_right fun hl => forall_congr' fun k => forall_congr' fun hk => ?_
  have e : (turnP p).ords.getD k default = turnF k (oAt p k) := turn_at (by omega)
  rw [e]
  exact Iff.rfl
theorem turn_play {p : PostD} {t : List Int} (ht : truthB p t = true) : playT (turnP p) t = (playT p t).map (turnS true) :=
  rel_play fun i hi => by
    have : i < p.ords.length := by rw [← (truth_iff.1 ht).1]; exact hi
    rw [turn_at this]
    exact ⟨by show (!(oAt p i).buy) = (true != (oAt p i).buy); cases (oAt p i).buy <;> rfl, rfl, rfl⟩
theorem fil_turn (l : List SaleD) (i : Int) : ∀ k, k ≤ l.length → (filR (l.map (turnS true)) i k).1 = (filR l i k).1
  | 0, _ => rfl
  | k + 1, hk => by
    have ih := fil_turn l i k (by omega)
    have e : (l.map (turnS true)).getD k default = turnS true (l.getD k default) := by
      have : k < l.length := by omega
      simp [List.getD_eq_getElem?_getD, this]
    simp only [filR]
    rw [e, turnS_yes]
    by_cases c : (l.getD k default).buyer = i ∨ (l.getD k default).seller = i
    · rw [if_pos c, if_pos (Or.symm c), ih]
    · rw [if_neg c, if_neg (fun h => c (Or.symm h)), ih]
theorem turn_bdF {p : PostD} (hv : VPost p) (i : Nat) : (bndL (filF i) (leaves (turnP p))).2 = (bndL (filF i) (leaves p)).2 := by
  have hv' := vpost (turn_ok hv)
  refine isB_one (isB_iff (fun v => ?_) (bnd_isB (filF i) (leaves (turnP p)) (leaves_ne hv')).2) (bnd_isB (filF i) (leaves p) (leaves_ne hv)).2
  have key : ∀ t, truthB p t = true → (filP (playT (turnP p) t) i (playT (turnP p) t).length).1 = (filP (playT p t) i (playT p t).length).1 := fun t ht => by
    rw [fil_eq (fun s hs => sok_ne (play_sok hv' (turn_truth.2 ht) s hs)) i _ (Nat.le_refl _), fil_eq (fun s hs => sok_ne (play_sok hv ht s hs)) i _ (Nat.le_refl _), turn_play ht, List.length_map, fil_turn _ _ _ (Nat.le_refl _)]
  constructor
  · rintro ⟨x, hx, e⟩
    obtain ⟨h1, h2⟩ := leaves_sound hv' hx
    obtain ⟨y, hy, e2⟩ := leaves_complete hv (turn_truth.1 h1)
    refine ⟨y, hy, ?_⟩
    rw [← e]
    show (filP y.1 i y.1.length).1 = (filP x.1 i x.1.length).1
    rw [e2, h2, key _ (turn_truth.1 h1)]
  · rintro ⟨x, hx, e⟩
    obtain ⟨h1, h2⟩ := leaves_sound hv hx
    obtain ⟨y, hy, e2⟩ := leaves_complete hv' (turn_truth.2 h1)
    refine ⟨y, hy, ?_⟩
    rw [← e]
    show (filP y.1 i y.1.length).1 = (filP x.1 i x.1.length).1
    rw [e2, h2, key _ h1]
end Go.Proofs.Yteaoclpikdmkiaa
