/- Sell: its walk. -/
import Derived.Test.YtfiacjdkdjkiiaaZfSl2
import Derived.Test.YtfiacjdkdjkiiaaMh
namespace Go.Proofs.Ytfiacjdkdjkiiaa
open Go Go.RowKit Go.Tl
set_option linter.unusedVariables false
set_option linter.unusedSimpArgs false
set_option maxRecDepth 100000
set_option maxHeartbeats 4000000
attribute [local irreducible] AWP AWL AOp PV LV AWT AWE
/-- the error of a sale -/
def saleE (b : BankD) (t : TruthD) (loan day : Int) : Int :=
  if faultN b ≠ 0 then faultN b else if truthB b t = false ∨ spotB b.loans.length b.days.length loan day = false then 2 else if (allSt b.loans t.prices t.rates loan.toNat day.toNat).call = 0 then 7 else 0
theorem called_form (b : BankD) (t : TruthD) (loan day : Int) : ∃ (bf va cl : Int) (p : List Int), calledA b t loan day = .tup [.ag [intA bf, intA va, intA cl], .ag [intA (p.getD 0 0), intA (p.getD 1 0), intA (p.getD 2 0), intA (p.getD 3 0)], intA (saleE b t loan day)] ∧
    (saleE b t loan day = 0 → bf = (allSt b.loans t.prices t.rates loan.toNat day.toNat).before ∧ va = (allSt b.loans t.prices t.rates loan.toNat day.toNat).value ∧ p = t.prices.getD day.toNat []) := by
  unfold calledA saleE
  by_cases h1 : faultN b ≠ 0
  · rw [if_pos h1, if_pos h1]; exact ⟨0, 0, 0, [], rfl, fun h => absurd h h1⟩
  rw [if_neg h1, if_neg h1]
  by_cases h2 : truthB b t = false ∨ spotB b.loans.length b.days.length loan day = false
  · rw [if_pos h2, if_pos h2]; exact ⟨0, 0, 0, [], rfl, fun h => absurd h (by decide)⟩
  rw [if_neg h2, if_neg h2]
  by_cases h3 : (allSt b.loans t.prices t.rates loan.toNat day.toNat).call = 0
  · rw [if_pos h3, if_pos h3]; exact ⟨_, _, _, [], rfl, fun h => absurd h (by decide)⟩
  rw [if_neg h3, if_neg h3]
  exact ⟨_, _, _, _, rfl, fun _ => ⟨rfl, rfl, rfl⟩⟩
theorem called_y {cp : Bool} {b : BankD} {t : TruthD} {loan day : Int} {v : AV} (hS : Short b) (h1 : t.prices.length ≤ 1000) (h2 : t.rates.length ≤ 1000) (h3 : ∀ k, k < t.prices.length → (t.prices.getD k []).length ≤ 1000) (h : calledA b t loan day = v) :
    PCall Try.prog 78 [bankA cp b, truthA t, .ag [intA loan, intA day]] (fun r => r = v) := by subst h; exact called_p cp b t loan day hS h1 h2 h3
/-- a sale that can be asked for: the loan, the day, the bounds of all that matters -/
structure CanSell (b : BankD) (t : TruthD) (loan day : Int) : Prop where
  valid : Valid b
  truth : truthB b t = true
  fault : faultN b = 0
  loan0 : 0 ≤ loan ∧ loan.toNat < b.loans.length
  day0 : 0 ≤ day ∧ day.toNat < b.days.length
  st : b.stocks = ((b.loans.getD loan.toNat default).shares.length : Int)
  one : 1 ≤ (b.loans.getD loan.toNat default).shares.length ∧ (b.loans.getD loan.toNat default).shares.length ≤ 4
  len : (t.prices.getD day.toNat []).length = (b.loans.getD loan.toNat default).shares.length
  sh : ∀ x ∈ (b.loans.getD loan.toNat default).shares, 0 ≤ x ∧ x ≤ 100
  pr : ∀ x ∈ t.prices.getD day.toNat [], 0 ≤ x ∧ x ≤ 1000
  bf : 0 ≤ (allSt b.loans t.prices t.rates loan.toNat day.toNat).before ∧ (allSt b.loans t.prices t.rates loan.toNat day.toNat).before ≤ 1000000
  va : 0 ≤ (allSt b.loans t.prices t.rates loan.toNat day.toNat).value ∧ (allSt b.loans t.prices t.rates loan.toNat day.toNat).value ≤ 1000000
  ma : 0 ≤ (b.loans.getD loan.toNat default).margin ∧ (b.loans.getD loan.toNat default).margin ≤ 100
  vd : (allSt b.loans t.prices t.rates loan.toNat day.toNat).value = dot (b.loans.getD loan.toNat default).shares (t.prices.getD day.toNat [])
  call : (allSt b.loans t.prices t.rates loan.toNat day.toNat).call ≠ 0
theorem can_sell {b : BankD} {t : TruthD} {loan day : Int} (h : saleE b t loan day = 0) : CanSell b t loan day := by
  unfold saleE at h
  by_cases h1 : faultN b ≠ 0
  · rw [if_pos h1] at h; exact absurd h h1
  rw [if_neg h1] at h
  by_cases h2 : truthB b t = false ∨ spotB b.loans.length b.days.length loan day = false
  · rw [if_pos h2] at h; exact absurd h (by decide)
  rw [if_neg h2] at h
  by_cases h3 : (allSt b.loans t.prices t.rates loan.toNat day.toNat).call = 0
  · rw [if_pos h3] at h; exact absurd h (by decide)
  have hf : faultN b = 0 := by omega
  have hv := valid_of hf
  rw [not_or] at h2
  have ht : truthB b t = true := by simpa using h2.1
  have hsp : (0 ≤ loan ∧ loan ≤ (b.loans.length : Int) - 1) ∧ (0 ≤ day ∧ day ≤ (b.days.length : Int) - 1) := by simpa [spotB, inB, and_assoc] using h2.2
  have hL := hv.loan loan.toNat (by omega)
  have hT := truth_small hv ht
  have hst := hv.st
  have hd := hv.days
  obtain ⟨l1, l2⟩ := truthB_len ht
  have hday := truthB_day ht (k := day.toNat) (by omega)
  have hbd := st_bd hL.1 hT day.toNat
  have hb2 := hbd.2.1 (by omega)
  exact ⟨hv, ht, hf, ⟨hsp.1.1, by omega⟩, ⟨hsp.2.1, by omega⟩, hL.2.symm, by omega, by omega, hL.1.2.2.2.2, fun x hx => hT.1 _ x hx, ⟨hbd.1, by show (stN _ _ _ _).before ≤ _; omega⟩, ⟨hbd.2.2.1, by show (stN _ _ _ _).value ≤ _; omega⟩, ⟨hL.1.2.2.1, hL.1.2.2.2.1⟩, stN_value _ _ _ _, h3⟩
/-- what the sale of a loan on a day comes to -/
abbrev resS (b : BankD) (t : TruthD) (loan day : Int) : Int → Bool := resB (allSt b.loans t.prices t.rates loan.toNat day.toNat).before (allSt b.loans t.prices t.rates loan.toNat day.toNat).value (b.loans.getD loan.toNat default).margin
def SellOut (b : BankD) (t : TruthD) (loan day : Int) (r : AV) : Prop :=
  (saleE b t loan day ≠ 0 ∧ r = .tup [noneA, intA (saleE b t loan day)]) ∨ (saleE b t loan day = 0 ∧
    ((∃ sold, SellR (b.loans.getD loan.toNat default).shares (t.prices.getD day.toNat []) (resS b t loan day) sold ∧ r = .tup [.t (intsT true sold), intA 0]) ∨
      (NoSell (b.loans.getD loan.toNat default).shares (t.prices.getD day.toNat []) (resS b t loan day) ∧ r = .tup [noneA, intA 10])))
theorem pre_split {pre : List (List AV)} {y : List AV} {ys : List Int} {k : Nat} (h : pre ++ [y] = (ys.take k).map intRow) (hk : k ≤ ys.length) : ∃ q, k = q + 1 ∧ pre = (ys.take q).map intRow ∧ y = intRow (ys.getD q 0) := by
  cases k with
  | zero => simp at h
  | succ q =>
    rw [← take_snoc (by omega)] at h
    have := List.append_inj' h rfl
    exact ⟨q, rfl, this.1, by simpa using this.2⟩
abbrev slI (g8 g9 g10 g13 g11 g14 g15 gs n c : Nat) (bf va cl mo ma : Int) (sh p : List Int) (res : Int → Bool) (pre : List (List AV)) (h : List Ent) : Prop :=
  ∃ sold, (∀ ys k, Order n ys → SortTo p ys n → k ≤ n → pre = (ys.take k).map intRow → SellI sh p res ys k sold) ∧ h = .cl g8 27 [noneA] :: .cl g9 32 [intA 0] :: slH g10 g13 g11 g14 g15 gs n c bf va cl mo ma sh p sold
abbrev slX (g8 g9 gs n c : Nat) (sh p : List Int) (res : Int → Bool) (e : Exit) (h : List Ent) : Prop :=
  e = .ret ∧ ∃ sold, SellR sh p res sold ∧ h = [.cl g8 27 [.v (.slice (some ⟨gs, 0, none⟩) n c)], .cl g9 32 [intA 0], .rw (.slice (some ⟨gs, 0, none⟩) n c) 3 1 (sold.map intRow)]
theorem sell_p (cp : Bool) (b : BankD) (t : TruthD) (loan day : Int) (hS : Short b) (h1 : t.prices.length ≤ 1000) (h2 : t.rates.length ≤ 1000) (h3 : ∀ k, k < t.prices.length → (t.prices.getD k []).length ≤ 1000) :
    PCall Try.prog 47 [bankA cp b, truthA t, intA loan, intA day] (SellOut b t loan day) := by
  obtain ⟨bf, va, cl, p, hform, hp⟩ := called_form b t loan day
  refine acall_of_awp T0 Try.func47 rfl rfl rfl ?_
  repeat (first | refine awp_seq ?_ | refine awp_region_lit rfl ?_)
  refine awl_hw (wt_none rfl) (st_box rfl rfl rfl (by simp only [cellsA]; rfl) rfl rfl ?_)
  intro g4
  skip
  refine awl_hw (wt_none rfl) (st_box rfl rfl rfl (by simp only [cellsA]; rfl) rfl rfl ?_)
  intro g5
  skip
  refine awl_hw (wt_none rfl) (st_alloc T0 rfl rfl rfl rfl (by simp only [Value.cells, List.toList_toArray, List.map_cons, List.map_nil]; rfl) ?_)
  intro g8
  skip
  refine awl_hw (wt_none rfl) (st_alloc T0 rfl rfl rfl rfl (by simp only [Value.cells, List.toList_toArray, List.map_cons, List.map_nil]; rfl) ?_)
  intro g9
  repeat (first | refine awp_seq ?_ | refine awp_region_lit rfl ?_ | (show AWL _ _ _ (⟨_, .move _, _, _, _, _⟩ :: _) _ _ _; refine awl_pw (wt_none rfl) (pv_move rfl rfl) rfl rfl ?_) | (show AWL _ _ _ (⟨_, .load _ _, _, _, _, _⟩ :: _) _ _ _; refine awl_lw (wt_none rfl) (lv_cla T0 rfl rfl rfl (by solve | repeat' constructor) rfl) rfl rfl rfl ?_) | (show AWL _ _ _ (⟨_, .build _ _, _, _, _, _⟩ :: _) _ _ _; refine awl_pw (wt_none rfl) (pv_build T0 rfl rfl rfl (by simp only [Value.cells, List.toList_toArray, List.map_cons, List.map_nil]; rfl) (by first | ((repeat' (first | exact BParts.nil | apply BParts.cons | rfl)); all_goals fail) | fail) (by first | ((repeat' (first | exact FillA.nil | exact Sp.done | apply FillA.cons | apply Sp.put | apply Sp.skip | (simp only [cellsA]; rfl) | rfl)); all_goals fail) | fail)) rfl rfl ?_) | refine awl_nil ?_)
  refine awl_hw (wt_none rfl) (st_call T0 (called_y hS h1 h2 h3 hform) rfl rfl rfl rfl (by first | exact callee_lit | exact callee_v | exact callee_fn) (by solve | repeat' constructor) rfl rfl ?_)
  rintro _ rfl
  repeat (first | (show AWL _ _ _ (⟨_, .move _, _, _, _, _⟩ :: _) _ _ _; refine awl_pw (wt_none rfl) (pv_move rfl rfl) rfl rfl ?_) | (show AWL _ _ _ (⟨_, .extract _ _, _, _, _, _⟩ :: _) _ _ _; refine awl_pw (wt_none rfl) (pv_extract rfl rfl rfl) rfl rfl ?_))
  refine awl_hw (wt_none rfl) (st_alloc T0 rfl rfl rfl rfl (by simp only [Value.cells, List.toList_toArray, List.map_cons, List.map_nil]; rfl) ?_)
  intro g10
  skip
  refine awl_hw (wt_none rfl) (st_alloc T0 rfl rfl rfl rfl (by simp only [Value.cells, List.toList_toArray, List.map_cons, List.map_nil]; rfl) ?_)
  intro g11
  repeat (first | refine awp_seq ?_ | refine awp_region_lit rfl ?_ | refine then_n ?_ | (show AWL _ _ _ (⟨_, .move _, _, _, _, _⟩ :: _) _ _ _; refine awl_pw (wt_none rfl) (pv_move rfl rfl) rfl rfl ?_) | (show AWL _ _ _ (⟨_, .assign _, _, _, _, _⟩ :: _) _ _ _; refine awl_pw (wt_none rfl) (pv_assign rfl rfl) rfl rfl ?_) | (show AWL _ _ _ (⟨_, .binOp .neq _ _ _ _, _, _, _, _⟩ :: _) _ _ _; refine awl_pw (wt_none rfl) (pv_neq rfl rfl rfl) rfl rfl ?_) | (show AWL _ _ _ (⟨_, .store _ _ _, _, _, _, _⟩ :: _) _ _ _; refine awl_hw (wt_none rfl) (st_store T0 rfl rfl rfl rfl rfl (by simp only [cellsA]; rfl) rfl rfl rfl (by solve | repeat' constructor) (by solve | repeat' constructor) trivial ?_)) | refine awl_nil ?_)
  by_cases he : saleE b t loan day = 0
  case neg =>
    repeat (first | refine awp_seq ?_ | refine awp_region_lit rfl ?_ | refine awp_ret ?_ | refine then_r ?_ | refine awp_cond_t rfl (by first | rfl | assumption | exact dT (by omega)) ?_ | (show AWL _ _ _ (⟨_, .move _, _, _, _, _⟩ :: _) _ _ _; refine awl_pw (wt_none rfl) (pv_move rfl rfl) rfl rfl ?_) | (show AWL _ _ _ (⟨_, .store _ _ _, _, _, _, _⟩ :: _) _ _ _; refine awl_hw (wt_none rfl) (st_store T0 rfl rfl rfl rfl rfl (by simp only [cellsA]; rfl) rfl rfl rfl (by solve | repeat' constructor) (by solve | repeat' constructor) trivial ?_)) | refine awl_nil ?_)
    refine body_p (.cons ⟨g8, _, _, _, _, rfl, rfl, (by solve | repeat' constructor), by simp, .inr rfl, rfl⟩ (.cons ⟨g9, _, _, _, _, rfl, rfl, (by solve | repeat' constructor), by simp, .inr rfl, rfl⟩ .nil)) ?_
    exact (.inl ⟨he, rfl⟩)
  obtain ⟨rfl, rfl, rfl⟩ := hp he
  have hC := can_sell he
  have hst := hC.st
  have hl0 := hC.loan0
  have hone := hC.one
  rw [he]
  obtain ⟨i, rfl⟩ : ∃ i : Nat, loan = i := ⟨loan.toNat, by omega⟩
  rw [Int.toNat_natCast] at *
  repeat (first | refine awp_seq ?_ | refine awp_region_lit rfl ?_ | refine awp_skip ?_ | refine awp_cond_f rfl (by first | rfl | assumption | exact dF (by omega)) ?_ | (show AWL _ _ _ (⟨_, .move _, _, _, _, _⟩ :: _) _ _ _; refine awl_pw (wt_none rfl) (pv_move rfl rfl) rfl rfl ?_) | (show AWL _ _ _ (⟨_, .load _ _, _, _, _, _⟩ :: _) _ _ _; refine awl_lw (wt_none rfl) (lv_cl1 T0 rfl rfl rfl (by solve | repeat' constructor) (by first | rfl | assumption)) rfl rfl rfl ?_) | (show AWL _ _ _ (⟨_, .load _ _, _, _, _, _⟩ :: _) _ _ _; refine awl_lw (wt_none rfl) (lv_elt_ag T0 rfl rfl rfl rfl (by solve | repeat' constructor)) rfl rfl rfl ?_) | (show AWL _ _ _ (⟨_, .fieldAddr _ _ _, _, _, _, _⟩ :: _) _ _ _; refine awl_pw (wt_none rfl) (pv_fa T0 rfl rfl rfl (by simp; rfl)) rfl rfl ?_) | (show AWL _ _ _ (⟨_, .indexAddr _ _ _, _, _, _, _⟩ :: _) _ _ _; refine awl_pw (wt_none rfl) (pv_ix_t T0 rfl rfl rfl rfl (by omega) (by first | exact Int.toNat_natCast _ | rfl)) rfl rfl ?_))
  refine awl_hw (wt_none rfl) (st_alloc T0 rfl rfl rfl rfl (by simp only [Value.cells, List.toList_toArray, List.map_cons, List.map_nil]; rfl) ?_)
  intro g13
  repeat (first | refine awp_seq ?_ | refine awp_region_lit rfl ?_ | (show AWL _ _ _ (⟨_, .load _ _, _, _, _, _⟩ :: _) _ _ _; refine awl_lw (wt_none rfl) (lv_cl1 T0 rfl rfl rfl (by solve | repeat' constructor) (by first | rfl | assumption)) rfl rfl rfl ?_) | (show AWL _ _ _ (⟨_, .fieldAddr _ _ _, _, _, _, _⟩ :: _) _ _ _; refine awl_pw (wt_none rfl) (pv_fa T0 rfl rfl rfl (by simp; rfl)) rfl rfl ?_) | (show AWL _ _ _ (⟨_, .store _ _ _, _, _, _, _⟩ :: _) _ _ _; refine awl_hw (wt_none rfl) (st_store T0 rfl rfl rfl rfl rfl (by simp only [cellsA]; rfl) rfl rfl rfl (by solve | repeat' constructor) (by solve | repeat' constructor) trivial ?_)) | refine awl_nil ?_)
  rw [hst]
  refine awl_hw (wt_none rfl) (aop_make T0 rfl rfl rfl rfl rfl rfl rfl rfl (by omega) rfl ?_)
  intro gs
  skip
  refine awl_hw (wt_none rfl) (st_alloc T0 rfl rfl rfl rfl (by simp only [Value.cells, List.toList_toArray, List.map_cons, List.map_nil]; rfl) ?_)
  intro g14
  repeat (first | refine awp_seq ?_ | refine awp_region_lit rfl ?_ | (show AWL _ _ _ (⟨_, .store _ _ _, _, _, _, _⟩ :: _) _ _ _; refine awl_hw (wt_none rfl) (st_store T0 rfl rfl rfl rfl rfl (by simp only [cellsA]; rfl) rfl rfl rfl (by solve | repeat' constructor) (by solve | repeat' constructor) trivial ?_)) | refine awl_nil ?_)
  refine awl_hw (wt_none rfl) (st_alloc T0 rfl rfl rfl rfl (by simp only [Value.cells, List.toList_toArray, List.map_cons, List.map_nil]; rfl) ?_)
  intro g15
  repeat (first | refine awp_seq ?_ | refine awp_region_lit rfl ?_ | refine awl_nil ?_)
  refine awl_pw (wt_none rfl) (pv_makeFunc_v (fs := []) (cs := [ptrV g10, ptrV g13, ptrV g11, ptrV g14, ptrV g15]) rfl rfl rfl) rfl rfl ?_
  repeat (first | refine awp_seq ?_ | refine awp_region_lit rfl ?_ | (show AWL _ _ _ (⟨_, .load _ _, _, _, _, _⟩ :: _) _ _ _; refine awl_lw (wt_none rfl) (lv_cl1 T0 rfl rfl rfl (by solve | repeat' constructor) (by first | rfl | assumption)) rfl rfl rfl ?_) | (show AWL _ _ _ (⟨_, .load _ _, _, _, _, _⟩ :: _) _ _ _; refine awl_lw (wt_none rfl) (lv_cla T0 rfl rfl rfl (by solve | repeat' constructor) rfl) rfl rfl rfl ?_) | (show AWL _ _ _ (⟨_, .fieldAddr _ _ _, _, _, _, _⟩ :: _) _ _ _; refine awl_pw (wt_none rfl) (pv_fa T0 rfl rfl rfl (by simp; rfl)) rfl rfl ?_) | (show AWL _ _ _ (⟨_, .store _ _ _, _, _, _, _⟩ :: _) _ _ _; refine awl_hw (wt_none rfl) (st_store T0 rfl rfl rfl rfl rfl (by simp only [cellsA]; rfl) rfl rfl rfl (by solve | repeat' constructor) (by solve | repeat' constructor) trivial ?_)) | refine awl_nil ?_)
  refine awl_hw (wt_none rfl) (st_acall T0 (dear_p (b.loans.getD i default).shares.length (t.prices.getD day.toNat [])) rfl rfl rfl rfl (by first | exact callee_lit | exact callee_v | exact callee_fn) (by solve | repeat' constructor) rfl rfl (by first | ((repeat' (first | exact SubH.refl _ | apply SubH.cons | exact Pick.here | apply Pick.there)); all_goals fail) | fail) (fun _ _ => trivial) ?_)
  rintro r h ⟨np, ns, rfl, rfl⟩
  simp only [List.cons_append, List.nil_append]
  repeat (first | refine awp_block ?_ | refine awl_nil ?_)
  have hrep : List.replicate (b.loans.getD i default).shares.length [AV.v (Value.int .i64 0)] = (List.replicate (b.loans.getD i default).shares.length (0 : Int)).map intRow := by simp [intRow]
  rw [hrep]
  have hres : ∀ x y, x ≤ y → resB (allSt b.loans t.prices t.rates i day.toNat).before (allSt b.loans t.prices t.rates i day.toNat).value (b.loans.getD i default).margin y = false → resB (allSt b.loans t.prices t.rates i day.toNat).before (allSt b.loans t.prices t.rates i day.toNat).value (b.loans.getD i default).margin x = false :=
    fun x y hxy h => resB_anti hC.ma.1 hxy h
  have hsh := hC.sh
  have hpr := hC.pr
  have hpl := hC.len
  have hbf := hC.bf
  have hva := hC.va
  have hma := hC.ma
  rw [Int.toNat_natCast] at hsh hpl hbf hva hma
  have hout1 : ∀ sold, SellR (b.loans.getD i default).shares (t.prices.getD day.toNat []) (resB (allSt b.loans t.prices t.rates i day.toNat).before (allSt b.loans t.prices t.rates i day.toNat).value (b.loans.getD i default).margin) sold → SellOut b t i day (.tup [.t (intsT true sold), intA 0]) :=
    fun sold h => .inr ⟨he, .inl ⟨sold, h, rfl⟩⟩
  have hout2 : NoSell (b.loans.getD i default).shares (t.prices.getD day.toNat []) (resB (allSt b.loans t.prices t.rates i day.toNat).before (allSt b.loans t.prices t.rates i day.toNat).value (b.loans.getD i default).margin) → SellOut b t i day (.tup [noneA, intA 10]) :=
    fun h => .inr ⟨he, .inr ⟨h, rfl⟩⟩
  clear hC hform hp hst he hl0
  generalize (allSt b.loans t.prices t.rates i day.toNat).before = bf at *
  generalize (allSt b.loans t.prices t.rates i day.toNat).value = va at *
  generalize t.prices.getD day.toNat [] = p at *
  generalize (b.loans.getD i default).margin = ma at *
  generalize (b.loans.getD i default).money = mo at *
  generalize (b.loans.getD i default).shares = sh at *
  have hres' : ∀ x y, x ≤ y → resB bf va ma y = false → resB bf va ma x = false := hres
  refine awp_rangeFuncP T0 (Pre := PreO p sh.length) (Full := FullO p sh.length) (hf := .cl g8 27 [noneA] :: .cl g9 32 [intA 0] :: slH g10 g13 g11 g14 g15 gs sh.length sh.length bf va cl mo ma sh p (List.replicate sh.length 0))
    (slI g8 g9 g10 g13 g11 g14 g15 gs sh.length sh.length bf va cl mo ma sh p (resB bf va ma)) (fun _ => slX g8 g9 gs sh.length sh.length sh p (resB bf va ma)) rfl (callee_v (a := []) (b := [ptrV ns, ptrV np])) rfl (dear1_p np ns sh.length p hone.1 hone.2) (by solve | repeat' constructor) ?_ ?_ rfl ?_ ?_ ?_ ?_
  · refine ⟨_, fun ys k hO hso hk e => ?_, rfl⟩
    have hk0 : k = 0 := by
      cases k with
      | zero => rfl
      | succ q =>
        have := congrArg List.length e
        simp [hO.1] at this
        omega
    subst hk0
    exact sell_start (fun x hx => (hsh x hx).1) hO
  · rintro pre y ⟨ys, k, hO, _, hk, e⟩
    obtain ⟨q, rfl, rfl, rfl⟩ := pre_split e (by rw [hO.1]; exact hk)
    rfl
  · rintro l pre y h' ⟨ys, k, hO, hso, hk, e⟩ ⟨sold, hI, rfl⟩
    obtain ⟨q, rfl, rfl, rfl⟩ := pre_split e (by rw [hO.1]; exact hk)
    have hq := hO.2.1 q (by omega)
    have hIq := hI ys q hO hso (by omega) rfl
    have hz := hIq.2.2.1 q (Nat.le_refl _) (by omega)
    obtain ⟨j, hj⟩ : ∃ j : Nat, ys.getD q 0 = j := ⟨(ys.getD q 0).toNat, by omega⟩
    rw [hj, Int.toNat_natCast] at hz
    have hself : sold.getD j 0 = 0 := hz
    have hjn : j < sh.length := by omega
    rw [hj]
    repeat (first | refine awp_region_lit rfl ?_ | (show AWL _ _ _ (⟨_, .assign _, _, _, _, _⟩ :: _) _ _ _; refine awl_pw (wt_none rfl) (pv_assign rfl rfl) rfl rfl ?_) | refine awl_nil ?_)
    refine ⟨rfl, ?_⟩
    repeat (first | refine awp_seq ?_ | refine awp_block ?_ | refine awp_region_lit rfl ?_ | (show AWL _ _ _ (⟨_, .move _, _, _, _, _⟩ :: _) _ _ _; refine awl_pw (wt_none rfl) (pv_move rfl rfl) rfl rfl ?_) | (show AWL _ _ _ (⟨_, .load _ _, _, _, _, _⟩ :: _) _ _ _; refine awl_lw (wt_none rfl) (lv_cl1 T0 rfl rfl rfl (by solve | repeat' constructor) (by first | rfl | assumption)) rfl rfl rfl ?_))
    refine awl_hw (wt_none rfl) (st_acall T0 (sell1_p g10 g13 g11 g14 g15 gs sh.length sh.length j bf va cl mo ma sh p rfl hone.2 hpl.symm hjn hbf hva hma hsh hpr _ sold rfl hIq.1) rfl rfl rfl rfl (by first | exact callee_lit | exact callee_v | exact callee_fn) (by solve | repeat' constructor) rfl rfl (by first | ((repeat' (first | exact SubH.refl _ | apply SubH.cons | exact Pick.here | apply Pick.there)); all_goals fail) | fail) (fun _ _ => trivial) ?_)
    rintro r h ⟨ok, v, rfl, rfl, q1, q2, q3, q4, q5⟩
    simp only [List.cons_append, List.nil_append]
    rw [hself] at q1 q3
    cases ok
    · repeat (first | refine awp_skip ?_ | refine then_n ?_ | refine blk_n ?_ | refine awp_cond_f rfl (by first | rfl | assumption | exact dF (by omega)) ?_ | refine awl_nil ?_)
      refine ⟨_, (by solve | repeat' constructor), sold.set j v, fun ys' k' hO' hso' hk' e' => ?_, rfl⟩
      rw [← hj] at e'
      obtain ⟨q', rfl, e1, e2⟩ := pre_split e' (by rw [hO'.1]; exact hk')
      have hI' := hI ys' q' hO' hso' (by omega) e1
      have e3 : ys'.getD q' 0 = j := by
        rw [hj] at e2
        simpa [intRow] using e2.symm
      have hv := q5 rfl
      subst hv
      have := sell_step hI' hO' (by omega) (by rw [e3, Int.toNat_natCast]; exact q4)
      rw [e3, Int.toNat_natCast] at this
      exact this
    · repeat (first | refine awp_seq ?_ | refine awp_region_lit rfl ?_ | refine awp_ret ?_ | refine then_n ?_ | refine blk_r ?_ | refine awp_cond_t rfl (by first | rfl | assumption | exact dT (by omega)) ?_ | (show AWL _ _ _ (⟨_, .load _ _, _, _, _, _⟩ :: _) _ _ _; refine awl_lw (wt_none rfl) (lv_cl1 T0 rfl rfl rfl (by solve | repeat' constructor) (by first | rfl | assumption)) rfl rfl rfl ?_) | (show AWL _ _ _ (⟨_, .store _ _ _, _, _, _, _⟩ :: _) _ _ _; refine awl_hw (wt_none rfl) (st_store T0 rfl rfl rfl rfl rfl (by simp only [cellsA]; rfl) rfl rfl rfl (by solve | repeat' constructor) (by solve | repeat' constructor) trivial ?_)) | refine awl_nil ?_)
      refine ⟨_, (by solve | repeat' constructor), rfl, sold.set j v, ?_, rfl⟩
      have := sell_done hIq hO (by omega) hso hpl (fun x hx => (hpr x hx).1) hres' (v := v) q1 (by rw [hj, Int.toNat_natCast]; exact q2) (fun u hu hu' => by rw [hj, Int.toNat_natCast]; exact q3 u hu hu') (by rw [hj, Int.toNat_natCast]; exact q4)
      rw [hj, Int.toNat_natCast] at this
      exact this
  · rintro L h' ⟨ys, hO, hso, rfl⟩ ⟨sold, hI, rfl⟩
    have hIn := hI ys sh.length hO hso (Nat.le_refl _) (by rw [List.take_of_length_le (by rw [hO.1]; exact Nat.le_refl _)])
    have hnone := sell_none hIn hO hone.1 hpl (fun x hx => (hpr x hx).1) hres'
    repeat (first | refine awp_seq ?_ | refine awp_region_lit rfl ?_ | refine awp_ret ?_ | (show AWL _ _ _ (⟨_, .store _ _ _, _, _, _, _⟩ :: _) _ _ _; refine awl_hw (wt_none rfl) (st_store T0 rfl rfl rfl rfl rfl (by simp only [cellsA]; rfl) rfl rfl rfl (by solve | repeat' constructor) (by solve | repeat' constructor) trivial ?_)) | refine awl_nil ?_)
    refine body_p (.cons ⟨g8, _, _, _, _, rfl, rfl, (by solve | repeat' constructor), by simp, .inr rfl, rfl⟩ (.cons ⟨g9, _, _, _, _, rfl, rfl, (by solve | repeat' constructor), by simp, .inr rfl, rfl⟩ .nil)) ?_
    exact (hout2 hnone)
  · rintro L h' _ ⟨_, sold, hR, rfl⟩
    repeat (first | refine then_r ?_ | refine blk_r ?_)
    refine bodyQ_ghost (ghost_freeze_cell (g := g8) (j := 0) (v := .slice (some ⟨gs, 0, none⟩) sh.length sh.length) (E := 3) (sz := 1) (n := sold.length) (rows := sold.map intRow) (fun q => [.sc (.int .i64 (sold.getD q 0))]) (by solve | repeat' constructor) (by solve | repeat' constructor) rfl rfl (by simp) (intRows_tree sold)) ?_
    refine body_p (.cons ⟨g8, _, _, _, _, rfl, rfl, (by solve | repeat' constructor), by simp, .inr rfl, rfl⟩ (.cons ⟨g9, _, _, _, _, rfl, rfl, (by solve | repeat' constructor), by simp, .inr rfl, rfl⟩ .nil)) ?_
    exact (hout1 sold hR)
  · rintro L id h' _ ⟨h, _⟩
    cases h
end Go.Proofs.Ytfiacjdkdjkiiaa
