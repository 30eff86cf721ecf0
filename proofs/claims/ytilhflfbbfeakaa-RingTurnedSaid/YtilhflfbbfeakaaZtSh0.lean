/- Joined texts: Fc, Fe, Sh0. -/
import Derived.Test.YtilhflfbbfeakaaZtDg
import Derived.Test.YtilhflfbbfeakaaZtDe
import Derived.Test.YtilhflfbbfeakaaZtGTs
import Derived.Test.YtilhflfbbfeakaaZtDh
import Derived.Test.YtilhflfbbfeakaaGTx
import Derived.Test.YtilhflfbbfeakaaTz
import Derived.Test.YtilhflfbbfeakaaZtGs
section
namespace Go.Proofs.Ytilhflfbbfeakaa
open Go Go.RowKit Go.Tl
set_option linter.unusedVariables false
set_option linter.unusedSimpArgs false
set_option maxRecDepth 100000
set_option maxHeartbeats 4000000
theorem ext_len {n : Nat} {s : List Int} (h : Ext n s 0) : s.length ≤ n := by
  cases s with
  | nil => simp
  | cons x t =>
    have h1 := ext_room h
    have h2 := (ext_cons.1 h).1
    simp only [List.length_cons]
    omega
attribute [local irreducible] AWP AWL AOp PV LV AWT AWE
end Go.Proofs.Ytilhflfbbfeakaa
end
section
namespace Go.Proofs.Ytilhflfbbfeakaa
open Go Go.RowKit Go.Tl
set_option linter.unusedVariables false
set_option linter.unusedSimpArgs false
/-- what a set of houses needs, contract by contract -/
theorem need_edges {b : BookD} (hv : VBook b) (Z : Nat → Bool) : needF b Z b.houses.toNat = sumR b.cons.length (fun i => numF b i * (indZ Z (b.cons.getD i default).to.toNat - indZ Z (b.cons.getD i default).frm.toNat)) := by
  rw [need_sum]
  exact (wsum hv (numF b) (indZ Z) b.cons.length (Nat.le_refl _)).symm
theorem enoughZ {b : BookD} (hv : VBook b) {S : Nat → Bool} : EnoughS b S ↔ ∀ Z : Nat → Bool, sumR b.cons.length (fun i => numF b i * (indZ Z (b.cons.getD i default).to.toNat - indZ Z (b.cons.getD i default).frm.toNat)) ≤ canF b S Z b.cons.length := by
  constructor
  · intro h Z
    obtain ⟨set, hs, hset⟩ := set_ex Z b.houses.toNat
    have h1 := h set hs
    rw [need_congr hset, can_congr hv hset (Nat.le_refl _) (fun _ _ => rfl), need_edges hv] at h1
    exact h1
  · intro h set hs
    rw [need_edges hv]
    exact h _
def turnC (c : ConD) : ConD := ⟨c.to, c.frm, c.num, c.price⟩
/-- a house in another order -/
def sig (H B v : Nat) : Nat := (v + B) % H
def rotC (H B : Nat) (c : ConD) : ConD := ⟨(sig H B c.frm.toNat : Nat), (sig H B c.to.toNat : Nat), c.num, c.price⟩
theorem mapB_len (b : BookD) (g : ConD → ConD) : (mapB b g).cons.length = b.cons.length := by simp [mapB]
theorem turn_valid {b : BookD} (hv : VBook b) : VBook (mapB b turnC) := by
  have hl := mapB_len b turnC
  refine ⟨hv.houses, by rw [hl]; exact hv.len, fun i hi => ?_, fun i hi => ?_, fun i hi => ?_, fun i hi => ?_, fun i hi => ?_⟩ <;> rw [hl] at hi <;> rw [map_at hi]
  · exact hv.to i hi
  · exact hv.frm i hi
  · exact fun e => hv.ne i hi e.symm
  · exact hv.num i hi
  · exact hv.price i hi
/-- back -/
def tau (H B v : Nat) : Nat := (v + (H - B % H)) % H
theorem tau_sig {H B v : Nat} (hH : 1 ≤ H ∧ H ≤ 6) (hv : v < H) : tau H B (sig H B v) = v := by
  unfold tau sig
  rcases (show H = 1 ∨ H = 2 ∨ H = 3 ∨ H = 4 ∨ H = 5 ∨ H = 6 by omega) with rfl | rfl | rfl | rfl | rfl | rfl <;> omega
theorem sig_lt {H B v : Nat} (hH : 1 ≤ H ∧ H ≤ 6) : sig H B v < H := Nat.mod_lt _ (by omega)
theorem sig_inj {H B u v : Nat} (hH : 1 ≤ H ∧ H ≤ 6) (hu : u < H) (hv : v < H) (e : sig H B u = sig H B v) : u = v := by
  rw [← tau_sig (B := B) hH hu, ← tau_sig (B := B) hH hv, e]
theorem rot_valid {b : BookD} (hv : VBook b) (B : Nat) : VBook (mapB b (rotC b.houses.toNat B)) := by
  have hl := mapB_len b (rotC b.houses.toNat B)
  have hh := hv.houses
  have hH : 1 ≤ b.houses.toNat ∧ b.houses.toNat ≤ 6 := by omega
  refine ⟨hv.houses, by rw [hl]; exact hv.len, fun i hi => ?_, fun i hi => ?_, fun i hi => ?_, fun i hi => ?_, fun i hi => ?_⟩ <;> rw [hl] at hi <;> rw [map_at hi]
  · have := sig_lt (B := B) (v := (b.cons.getD i default).frm.toNat) hH
    show 0 ≤ ((sig _ _ _ : Nat) : Int) ∧ ((sig _ _ _ : Nat) : Int) < b.houses
    omega
  · have := sig_lt (B := B) (v := (b.cons.getD i default).to.toNat) hH
    show 0 ≤ ((sig _ _ _ : Nat) : Int) ∧ ((sig _ _ _ : Nat) : Int) < b.houses
    omega
  · intro e
    have e' : ((sig b.houses.toNat B (b.cons.getD i default).frm.toNat : Nat) : Int) = ((sig b.houses.toNat B (b.cons.getD i default).to.toNat : Nat) : Int) := e
    have h1 := hv.frm i hi
    have h2 := hv.to i hi
    have := sig_inj (B := B) hH (u := (b.cons.getD i default).frm.toNat) (v := (b.cons.getD i default).to.toNat) (by omega) (by omega) (by omega)
    exact hv.ne i hi (by omega)
  · exact hv.num i hi
  · exact hv.price i hi
theorem can_sum (b : BookD) (S Z : Nat → Bool) : ∀ k, canF b S Z k = sumR k (fun i => if S i && (Z (b.cons.getD i default).to.toNat && !(Z (b.cons.getD i default).frm.toNat)) then numF b i else 0)
  | 0 => rfl
  | k + 1 => by rw [sumR_succ, ← can_sum b S Z k]; rfl
/-- as many shares can be brought -/
theorem turn_enough {b : BookD} (hv : VBook b) {S : Nat → Bool} : EnoughS (mapB b turnC) S ↔ EnoughS b S := by
  have hl := mapB_len b turnC
  have key : ∀ Z Z' : Nat → Bool, (∀ v, Z' v = !Z v) → sumR (mapB b turnC).cons.length (fun i => numF (mapB b turnC) i * (indZ Z ((mapB b turnC).cons.getD i default).to.toNat - indZ Z ((mapB b turnC).cons.getD i default).frm.toNat)) = sumR b.cons.length (fun i => numF b i * (indZ Z' (b.cons.getD i default).to.toNat - indZ Z' (b.cons.getD i default).frm.toNat)) ∧
      canF (mapB b turnC) S Z (mapB b turnC).cons.length = canF b S Z' b.cons.length := fun Z Z' hZ => by
    rw [hl, can_sum, can_sum]
    refine ⟨sumR_congr fun i hi => ?_, sumR_congr fun i hi => ?_⟩
    · unfold numF
      rw [map_at hi]
      show (b.cons.getD i default).num * (indZ Z (b.cons.getD i default).frm.toNat - indZ Z (b.cons.getD i default).to.toNat) = _
      congr 1
      unfold indZ
      rw [hZ, hZ]
      cases Z (b.cons.getD i default).frm.toNat <;> cases Z (b.cons.getD i default).to.toNat <;> rfl
    · unfold numF
      rw [map_at hi]
      show (if S i && (Z (b.cons.getD i default).frm.toNat && !Z (b.cons.getD i default).to.toNat) then (b.cons.getD i default).num else 0) = _
      rw [hZ, hZ]
      cases Z (b.cons.getD i default).frm.toNat <;> cases Z (b.cons.getD i default).to.toNat <;> simp
  rw [enoughZ hv, enoughZ (turn_valid hv)]
  constructor
  · intro h Z
    obtain ⟨h1, h2⟩ := key (fun v => !Z v) Z (fun v => by simp)
    have := h (fun v => !Z v)
    omega
  · intro h Z
    obtain ⟨h1, h2⟩ := key Z (fun v => !Z v) (fun v => rfl)
    have := h (fun v => !Z v)
    omega
theorem rot_enough {b : BookD} (hv : VBook b) (B : Nat) {S : Nat → Bool} : EnoughS (mapB b (rotC b.houses.toNat B)) S ↔ EnoughS b S := by
  have hl := mapB_len b (rotC b.houses.toNat B)
  have hh := hv.houses
  have hH : 1 ≤ b.houses.toNat ∧ b.houses.toNat ≤ 6 := by omega
  have key : ∀ Z Z' : Nat → Bool, (∀ v, v < b.houses.toNat → Z' v = Z (sig b.houses.toNat B v)) → sumR (mapB b (rotC b.houses.toNat B)).cons.length (fun i => numF (mapB b (rotC b.houses.toNat B)) i * (indZ Z ((mapB b (rotC b.houses.toNat B)).cons.getD i default).to.toNat - indZ Z ((mapB b (rotC b.houses.toNat B)).cons.getD i default).frm.toNat)) = sumR b.cons.length (fun i => numF b i * (indZ Z' (b.cons.getD i default).to.toNat - indZ Z' (b.cons.getD i default).frm.toNat)) ∧
      canF (mapB b (rotC b.houses.toNat B)) S Z (mapB b (rotC b.houses.toNat B)).cons.length = canF b S Z' b.cons.length := fun Z Z' hZ => by
    rw [hl, can_sum, can_sum]
    refine ⟨sumR_congr fun i hi => ?_, sumR_congr fun i hi => ?_⟩
    · have hf := hv.frm i hi
      have ht := hv.to i hi
      unfold numF
      rw [map_at hi]
      show (b.cons.getD i default).num * (indZ Z (sig b.houses.toNat B (b.cons.getD i default).to.toNat) - indZ Z (sig b.houses.toNat B (b.cons.getD i default).frm.toNat)) = _
      congr 1
      unfold indZ
      rw [hZ _ (show (b.cons.getD i default).to.toNat < b.houses.toNat by omega), hZ _ (show (b.cons.getD i default).frm.toNat < b.houses.toNat by omega)]
    · have hf := hv.frm i hi
      have ht := hv.to i hi
      unfold numF
      rw [map_at hi]
      show (if S i && (Z (sig b.houses.toNat B (b.cons.getD i default).to.toNat) && !Z (sig b.houses.toNat B (b.cons.getD i default).frm.toNat)) then (b.cons.getD i default).num else 0) = _
      rw [hZ _ (show (b.cons.getD i default).to.toNat < b.houses.toNat by omega), hZ _ (show (b.cons.getD i default).frm.toNat < b.houses.toNat by omega)]
  rw [enoughZ hv, enoughZ (rot_valid hv B)]
  constructor
  · intro h Z
    obtain ⟨h1, h2⟩ := key (fun v => Z (tau b.houses.toNat B v)) Z (fun v hv' => by rw [tau_sig hH hv'])
    have := h (fun v => Z (tau b.houses.toNat B v))
    omega
  · intro h Z
    obtain ⟨h1, h2⟩ := key Z (fun v => Z (sig b.houses.toNat B v)) (fun v _ => rfl)
    have := h (fun v => Z (sig b.houses.toNat B v))
    omega
theorem min_iff {b x : BookD} (hl : x.cons.length = b.cons.length) (hE : ∀ S, EnoughS x S ↔ EnoughS b S) {s : List Int} (h : MinS x s) : MinS b s :=
  ⟨by rw [← hl]; exact h.ext, (hE _).1 h.en, fun e he hE' => h.min e (by rw [hl]; exact he) ((hE _).2 hE')⟩
theorem turn_prov {b : BookD} (F : Nat → Int) : ∀ k, k ≤ b.cons.length → provF (mapB b turnC) F k = provF b (fun v => -(F v)) k
  | 0, _ => rfl
  | k + 1, hk => by
    simp only [provF]
    rw [turn_prov F k (by omega), map_at (by omega)]
    show _ + (b.cons.getD k default).num * max 0 (1 + F (b.cons.getD k default).to.toNat - F (b.cons.getD k default).frm.toNat) = _
    congr 2
    omega
theorem rot_prov {b : BookD} (hv : VBook b) (B : Nat) {F G : Nat → Int} (hG : ∀ v, v < b.houses.toNat → G v = F (sig b.houses.toNat B v)) : ∀ k, k ≤ b.cons.length → provF (mapB b (rotC b.houses.toNat B)) F k = provF b G k
  | 0, _ => rfl
  | k + 1, hk => by
    have hf := hv.frm k (by omega)
    have ht := hv.to k (by omega)
    simp only [provF]
    rw [rot_prov hv B hG k (by omega), map_at (by omega), hG _ (show (b.cons.getD k default).to.toNat < b.houses.toNat by omega), hG _ (show (b.cons.getD k default).frm.toNat < b.houses.toNat by omega)]
    rfl
theorem gr_same {b x : BookD} {o1 h1 o2 h2 : List Int} (g1 : GrFacts b o1 h1) (g2 : GrFacts x o2 h2) (e1 : ∀ F : Nat → Int, ∃ G : Nat → Int, provF b G b.cons.length = provF x F x.cons.length) (e2 : ∀ F : Nat → Int, ∃ G : Nat → Int, provF x G x.cons.length = provF b F b.cons.length) : sumI o1 = sumI o2 := by
  obtain ⟨F, _, _, hF⟩ := g2.ex
  obtain ⟨G, _, _, hG⟩ := g1.ex
  obtain ⟨F', hF'⟩ := e1 F
  obtain ⟨G', hG'⟩ := e2 G
  have := g1.low F'
  have := g2.low G'
  omega
theorem turn_gr {b : BookD} {o1 h1 o2 h2 : List Int} (g1 : GrFacts b o1 h1) (g2 : GrFacts (mapB b turnC) o2 h2) : sumI o1 = sumI o2 := by
  have hl := mapB_len b turnC
  refine gr_same g1 g2 (fun F => ⟨fun v => -(F v), ?_⟩) (fun F => ⟨fun v => -(F v), ?_⟩)
  · rw [hl, turn_prov F _ (Nat.le_refl _)]
  · rw [hl, turn_prov (fun v => -(F v)) _ (Nat.le_refl _)]
    congr 1; funext v; omega
theorem rot_gr {b : BookD} (hv : VBook b) (B : Nat) {o1 h1 o2 h2 : List Int} (g1 : GrFacts b o1 h1) (g2 : GrFacts (mapB b (rotC b.houses.toNat B)) o2 h2) : sumI o1 = sumI o2 := by
  have hl := mapB_len b (rotC b.houses.toNat B)
  have hh := hv.houses
  have hH : 1 ≤ b.houses.toNat ∧ b.houses.toNat ≤ 6 := by omega
  refine gr_same g1 g2 (fun F => ⟨fun v => F (sig b.houses.toNat B v), ?_⟩) (fun F => ⟨fun v => F (tau b.houses.toNat B v), ?_⟩)
  · rw [hl, rot_prov hv B (fun v _ => rfl) _ (Nat.le_refl _)]
  · rw [hl]
    exact rot_prov hv B (fun v hv' => by rw [tau_sig hH hv']) _ (Nat.le_refl _)
theorem turn_acc {b : BookD} (f : Nat → Int) (h : Nat) : ∀ k, k ≤ b.cons.length → accN (mapB b turnC).cons f k h = -(accN b.cons f k h)
  | 0, _ => rfl
  | k + 1, hk => by
    simp only [accN]
    rw [turn_acc f h k (by omega), map_at (by omega)]
    show _ + (if (b.cons.getD k default).frm = (h : Int) then _ else _) - (if (b.cons.getD k default).to = (h : Int) then _ else _) = _
    omega
theorem turn_net {b : BookD} {f g : Nat → Int} (hfg : ∀ i, i < b.cons.length → g i = f i) {h : Nat} (hh : h < b.houses.toNat) : (netL b f).getD h 0 = 0 - (netL (mapB b turnC) g).getD h 0 := by
  have hh2 : h < (mapB b turnC).houses.toNat := hh
  rw [net_at hh, net_at hh2, mapB_len, turn_acc g h _ (Nat.le_refl _), accN_congr _ _ (fun i hi => (hfg i hi).symm)]
  omega
end Go.Proofs.Ytilhflfbbfeakaa
end
section
namespace Go.Tl
open Go Go.RowKit
end Go.Tl
namespace Go.Proofs.Ytilhflfbbfeakaa
open Go Go.RowKit Go.Tl
set_option linter.unusedVariables false
set_option linter.unusedSimpArgs false
set_option maxRecDepth 100000
set_option maxHeartbeats 4000000
structure YOk (b Y : BookD) : Prop where
  houses : Y.houses = b.houses
  len : Y.cons.length = b.cons.length
  valid : VBook Y
  le : ∀ F : Nat → Int, provF b F b.cons.length ≤ provF Y F Y.cons.length
theorem tree_at {l : List ConD} : ∀ k, k < l.length → (l.map conRow).getD k [] = ((fun q => conL (l.getD q default)) k).map AV.ofTr := rows_tree l conRow conL (fun _ => rfl)
attribute [local irreducible] AWP AWL AOp PV LV AWT AWE
section
variable {b : BookD} {g4 g5 g9 g10 n k : Nat} {u2 u3 u11 : AV} {more : ConD} {x y z : Ent} {w : Int}
end
end Go.Proofs.Ytilhflfbbfeakaa
end
