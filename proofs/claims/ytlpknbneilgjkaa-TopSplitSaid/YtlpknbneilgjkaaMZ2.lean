/- The law TopSplit: what its calls answer, all together. -/
import Derived.Test.YtlpknbneilgjkaaMZ0
namespace Go.Proofs.Ytlpknbneilgjkaa.M
open Go Go.RowKit Go.Tl
set_option linter.unusedVariables false
set_option linter.unusedSimpArgs false
set_option maxRecDepth 100000
abbrev truth2 (R : List Int) (T : List (List Int)) : AV := .ag [.t (.sl true 1 T.length (fun k => [intsT true (T.getD k [])])), .t (intsT true R)]
theorem truth2_le (R : List Int) (T : List (List Int)) : AVLe (truth2 R T) (truthA ⟨T, R⟩) := truth1_le ⟨T, R⟩
/-- what is said of the two banks -/
structure Two (b x y : BankD) (n d : Int) : Prop where
  xd : x.days = b.days.map (dayM n)
  xl : x.loans = b.loans.map (loanM d)
  yd : y.days = b.days.map (dayM d)
  yl : y.loans = b.loans.map (loanM n)
  x7 : PCall Try.prog 7 [bank2 b.stocks x] (fun r => r = intA 0)
  y7 : PCall Try.prog 7 [bank2 b.stocks y] (fun r => r = intA 0)
  x16 : PCall Try.prog 16 [bank2 b.stocks x] (fun r => r = bankA true x)
  y16 : PCall Try.prog 16 [bank2 b.stocks y] (fun r => r = bankA true y)
/-- what is said of the truths -/
structure TwoT (b x y : BankD) (n d : Int) (ws : List Int) (ps : List (List Int)) (R : List Int) (T U D C : List (List Int)) : Prop where
  len : ps.length = b.days.length
  row : ∀ i, i < ps.length → 1 ≤ (ps.getD i []).length ∧ (ps.getD i []).length ≤ 4 ∧ 0 ≤ (ps.getD i []).getD 0 0 ∧ (ps.getD i []).getD 0 0 ≤ 1000
  tt : T = ps.map (tRow n)
  uu : U = ps.map (uRow n d)
  pick : ACall Try.prog 13 [bank2 b.stocks x, .t (wordsT false ws)] [] (fun r h' => ∃ ga c, r = .ag [.v (.slice (some ⟨ga, 0, none⟩) b.days.length c), .t (intsT true R)] ∧ h' = [.rw (.slice (some ⟨ga, 0, none⟩) b.days.length c) 29 1 (ps.map lstRow)])
  x14 : PCall Try.prog 14 [bank2 b.stocks x, truth2 R T] (fun r => r = boolA true)
  y14 : PCall Try.prog 14 [bank2 b.stocks y, truth2 R U] (fun r => r = boolA true)
  x17 : PCall Try.prog 17 [truth2 R T] (fun r => r = truthA ⟨T, R⟩)
  y17 : PCall Try.prog 17 [truth2 R U] (fun r => r = truthA ⟨U, R⟩)
  x15 : PCall Try.prog 15 [bankA true x, truthA ⟨T, R⟩] (fun r => r = .tup [.t (rowsT false D), .t (rowsT false C), intA 0])
  y15 : PCall Try.prog 15 [bankA true y, truthA ⟨U, R⟩] (fun r => r = .tup [.t (rowsT false D), .t (rowsT false C), intA 0])
  dl : D.length = b.loans.length
  cl : C.length = b.loans.length
  dr : ∀ i, (D.getD i []).length ≤ 1000
  cr : ∀ i, (C.getD i []).length ≤ 1000
/-- the rows of what Play returns -/
theorem debts_row (x : BankD) (t : TruthD) (k : Nat) (hx : x.days.length ≤ 1000) (i : Nat) : ((debtsP x t k).getD i []).length ≤ 1000 := by
  rcases Nat.lt_or_ge i k with h | h
  · rw [show (debtsP x t k).getD i [] = debtsR x t i x.days.length from range_getD h]
    simp [debtsR]; omega
  · rw [List.getD_eq_getElem?_getD, List.getElem?_eq_none (by simp [debtsP]; omega)]
    simp
theorem calls_row (x : BankD) (t : TruthD) (k : Nat) (hx : x.days.length ≤ 1000) (i : Nat) : ((callsP x t k).getD i []).length ≤ 1000 := by
  rcases Nat.lt_or_ge i k with h | h
  · rw [show (callsP x t k).getD i [] = callsR x t i x.days.length from range_getD h]
    simp [callsR]; omega
  · rw [List.getD_eq_getElem?_getD, List.getElem?_eq_none (by simp [callsP]; omega)]
    simp
theorem two_all {b : BankD} {n d : Int} (hv : Valid b) (hn : 1 ≤ n ∧ n ≤ 6) (hd : 1 ≤ d ∧ d ≤ 4) : ∃ x y, Two b x y n d ∧ ∀ (ws : List Int), Words ws → ws.length ≤ 9223372036854775807 →
    ∃ ps R T U D C, TwoT b x y n d ws ps R T U D C ∧ ∀ K : Nat, K < b.loans.length → ∃ V W, V.length = b.days.length ∧ W.length = V.length ∧
      PCall Try.prog 18 [bankA true x, intA K] (fun r => r = .tup [.t (rngsT true V), .t (rngsT true W), intA 0]) ∧ PCall Try.prog 18 [bankA true y, intA K] (fun r => r = .tup [.t (rngsT true V), .t (rngsT true W), intA 0]) := by
  have fx := bankM_v (m := n) (s := d) hv hn (by omega)
  have fy := bankM_v (m := d) (s := n) hv (by omega) hn
  have vx := valid_of fx
  have vy := valid_of fy
  have sx := short_v vx
  have sy := short_v vy
  obtain ⟨lx1, lx2⟩ := bankM_len n d b
  obtain ⟨ly1, ly2⟩ := bankM_len d n b
  have hdays := hv.days
  have hloans := hv.loans
  have hst := hv.st
  refine ⟨bankM n d b, bankM d n b, ⟨rfl, rfl, rfl, rfl, arg1 (by have := reffault_p true _ sx; rwa [fx] at this) (bank2_le true rfl), arg1 (by have := reffault_p true _ sy; rwa [fy] at this) (bank2_le true rfl), arg1 (bank_p true _ sx) (bank2_le false rfl), arg1 (bank_p true _ sy) (bank2_le false rfl)⟩, fun ws hw hwl => ?_⟩
  have ht := picked_truth (b := bankM n d b) (ws := ws) vx hw
  have h1 := tT_truth hv hn.1 ht
  have h2 := uT_truth (d := d) (s' := n) hv hn.1 hd.1 ht
  have hlen : (pickPs (bankM n d b) ws (bankM n d b).days.length).length = b.days.length := by simp [pickPs, lx1]
  have rlen : (pickRs (bankM n d b) ws (bankM n d b).days.length).length = b.days.length := by simp [pickRs, lx1]
  have hsm := truth_small vx ht
  have hrow : ∀ i, i < (pickPs (bankM n d b) ws (bankM n d b).days.length).length → ((pickPs (bankM n d b) ws (bankM n d b).days.length).getD i []).length = b.stocks.toNat := fun i hi => by
    have hd1 := truthB_day ht (k := i) (by omega)
    have : (((pickPs (bankM n d b) ws (bankM n d b).days.length).getD i []).length : Int) = b.stocks := hd1.1
    omega
  have pl : ∀ (f : List Int → List Int) (k : Nat), (∀ r, (f r).length = r.length) → f [] = [] → ∀ i, (((pickPs (bankM n d b) ws (bankM n d b).days.length).map f).getD i []).length ≤ 1000 := fun f k hf h0 i => by
    rw [map_getD f _ [] [] h0, hf]
    rcases Nat.lt_or_ge i (pickPs (bankM n d b) ws (bankM n d b).days.length).length with h | h
    · rw [hrow i h]; omega
    · rw [List.getD_eq_getElem?_getD, List.getElem?_eq_none h]; simp
  have pT := pl (tRow n) 0 (fun r => List.length_set) rfl
  have pU := pl (uRow n d) 0 (fun r => by rw [uRow_eq hn.1]; exact List.length_set) rfl
  have eP : ∀ (z : BankD) (t : TruthD), faultN z = 0 → truthB z t = true → playA z t = .tup [.t (rowsT false (debtsP z t z.loans.length)), .t (rowsT false (callsP z t z.loans.length)), intA 0] := fun z t h1 h2 => by
    unfold playA
    rw [if_neg (by omega), if_neg (by rw [h2]; decide)]
  have hp0 : (pickedD (bankM n d b) ws).prices.length ≤ 1000 := by show (pickPs _ _ _).length ≤ 1000; omega
  have P1 := play_p true (bankM n d b) (tT n (pickedD (bankM n d b) ws)) sx (by show (List.map _ _).length ≤ 1000; rw [List.length_map]; omega) (by show (pickRs _ _ _).length ≤ 1000; omega) (fun k _ => pT k)
  have P2 := play_p true (bankM d n b) (uT n d (pickedD (bankM n d b) ws)) sy (by show (List.map _ _).length ≤ 1000; rw [List.length_map]; omega) (by show (pickRs _ _ _).length ≤ 1000; omega) (fun k _ => pU k)
  rw [eP _ _ fx h1, lx2] at P1
  rw [eP _ _ fy h2, ly2, ← debts_same hn.1, ← calls_same hn.1] at P2
  have T1 := truth_p (tT n (pickedD (bankM n d b) ws)) (by show (List.map _ _).length ≤ 1000; rw [List.length_map]; omega) (by show (pickRs _ _ _).length ≤ 1000; omega) (fun k _ => pT k)
  have T2 := truth_p (uT n d (pickedD (bankM n d b) ws)) (by show (List.map _ _).length ≤ 1000; rw [List.length_map]; omega) (by show (pickRs _ _ _).length ≤ 1000; omega) (fun k _ => pU k)
  have I1 := istruth_p true _ _ vx h1
  have I2 := istruth_p true _ _ vy h2
  have pk := picked_o true false (bankM n d b) ws vx hw hwl
  rw [lx1] at pk
  rw [lx1] at hlen rlen hrow
  refine ⟨pickPs (bankM n d b) ws b.days.length, pickRs (bankM n d b) ws b.days.length, _, _, debtsP (bankM n d b) (tT n (pickedD (bankM n d b) ws)) b.loans.length, callsP (bankM n d b) (tT n (pickedD (bankM n d b) ws)) b.loans.length,
    ⟨hlen, fun i hi => ?_, rfl, rfl, acall_args pk (.cons (bank2_le true rfl) (.cons (.refl _) .nil)), ?_, ?_, ?_, ?_, ?_, ?_, by simp [debtsP], by simp [callsP], debts_row _ _ _ (by omega), calls_row _ _ _ (by omega)⟩, fun K hK => ?_⟩
  · have e1 := hrow i hi
    have e2 := hsm.1 i ((pickPs (bankM n d b) ws b.days.length).getD i [] |>.getD 0 0) (by
      show _ ∈ (pickPs (bankM n d b) ws (bankM n d b).days.length).getD i []
      rw [lx1]
      exact mem_at (by omega))
    exact ⟨by omega, by omega, e2.1, e2.2⟩
  · refine acall_args ?_ (.cons (bank2_le true rfl) (.cons (truth2_le _ _) .nil))
    have := I1
    unfold tT pickedD at this
    rwa [lx1] at this
  · refine acall_args ?_ (.cons (bank2_le true rfl) (.cons (truth2_le _ _) .nil))
    have := I2
    unfold uT pickedD at this
    rwa [lx1] at this
  · refine arg1 ?_ (truth2_le _ _)
    have := T1
    unfold tT pickedD at this
    rwa [lx1] at this
  · refine arg1 ?_ (truth2_le _ _)
    have := T2
    unfold uT pickedD at this
    rwa [lx1] at this
  · simp only [tT, pickedD, lx1] at P1 ⊢
    exact P1
  · simp only [uT, tT, pickedD, lx1] at P2 ⊢
    exact P2
  · have B1 := bounds_p (bankM n d b) sx fx K (by omega)
    have B2 := bounds_p (bankM d n b) sy fy K (by omega)
    rw [← debtsL_same, ← callsL_same] at B2
    refine ⟨_, _, by simp [debtsL, lx1], by simp [debtsL, callsL], B1, B2⟩
end Go.Proofs.Ytlpknbneilgjkaa.M
