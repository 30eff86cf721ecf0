/- An order comes: the walk. -/
import Derived.Test.YteaoclpikdmkiaaNf
import Derived.Test.YteaoclpikdmkiaaTz
namespace Go.Tl
open Go Go.RowKit
section
variable {P : Program} {N : Nat} {o : Oper} {md : Nat → Prop} {s : Slots} {h : List Ent} {K : Slots → List Ent → Prop}
theorem st_flo8 (T : TT P) {t g : Nat} {x y : Operand} {T' : TypeId} {z U V : AV} {a : Option Addr} {n c : Nat} {d : Nat → Int} {h' : List Ent} (ho : o.op = .store t x y) (hx : evA s x = some (.v (.pointer (some ⟨g, 8, none⟩)))) (hy : evA s y = some (.v (.slice a n c)))
    (ht : f2 T.siz t = some (1, false)) (hd : o.dst = none) (hp : Repl h (.cl g T' (arrO z d 6 [U, V])) (.cl g T' (arrO z d 6 [U, .v (.slice a n c)])) h') (hmd : md g)
    (hK : K s h') : AOp P N o md s h K := aop_store T ho hx hy ht rfl rfl rfl hd hp (by show 8 + 1 ≤ 9; omega) rfl hmd hK
theorem st_flo7 (T : TT P) {t g : Nat} {x y : Operand} {T' : TypeId} {z U V : AV} {a : Option Addr} {n c : Nat} {d : Nat → Int} {h' : List Ent} (ho : o.op = .store t x y) (hx : evA s x = some (.v (.pointer (some ⟨g, 7, none⟩)))) (hy : evA s y = some (.v (.slice a n c)))
    (ht : f2 T.siz t = some (1, false)) (hd : o.dst = none) (hp : Repl h (.cl g T' (arrO z d 6 [U, V])) (.cl g T' (arrO z d 6 [.v (.slice a n c), V])) h') (hmd : md g)
    (hK : K s h') : AOp P N o md s h K := aop_store T ho hx hy ht rfl rfl rfl hd hp (by show 7 + 1 ≤ 9; omega) rfl hmd hK
theorem awp_cutX {ro : Option Nat} {id : Nat} {x y : Code} {Q Q' : Exit → Slots → List Ent → Prop} (M : Slots → List Ent → Prop) (H1 : AWP P N ro x (blockQ id (cutQ M)) s h) (H2 : ∀ s' h', M s' h' → AWP P N ro y Q s' h') :
    AWP P N ro x (blockQ id (thenQ (AWP P N ro y Q) Q')) s h := by
  have key : ∀ s1 h1, cutQ M .normal s1 h1 → AWP P N ro y Q s1 h1 := fun s1 h1 ⟨_, s', h', hs, hh, hM⟩ => awp_weak hs hh (H2 s' h' hM)
  refine awp_mono H1 fun e s1 h1 hb => ?_
  cases e with
  | normal => exact key _ _ hb
  | exit i =>
    show cond (Nat.beq i id) (AWP P N ro y Q s1 h1) (Q' (.exit i) s1 h1)
    have hb' : cond (Nat.beq i id) (cutQ M .normal s1 h1) (cutQ M (.exit i) s1 h1) := hb
    cases hc : Nat.beq i id
    · rw [hc] at hb'; exact absurd hb'.1 (by simp)
    · rw [hc] at hb'; exact key _ _ hb'
  | _ => exact absurd hb.1 (by simp)
end
end Go.Tl
namespace Go.Proofs.Yteaoclpikdmkiaa
open Go Go.RowKit Go.Tl
set_option linter.unusedVariables false
set_option linter.unusedSimpArgs false
set_option maxRecDepth 100000
set_option maxHeartbeats 4000000
theorem match_stop {p : PostD} {o : OrdD} {i : Nat} {came : List Int} {s : (Nat → Int) × List SaleD} (h : ¬ 0 < s.1 i ∨ restN p s.1 o came came.length < 0) : ∀ f, matchN p o i came f s = s
  | 0 => rfl
  | f + 1 => by
    simp only [matchN]
    rcases h with h | h
    · rw [if_neg h]
    · rw [if_pos h]; split <;> rfl
abbrev floA (cp c1 c2 : Bool) (p : PostD) (F : FloD) : AV := .ag (floC cp p F.left (.t (intsT c1 F.came)) (.t (salesT c2 F.log)))
attribute [local irreducible] AWP AWL AOp PV LV AWT AWE
theorem come_p (cp c1 c2 : Bool) (p : PostD) (F : FloD) (i : Nat) (hv : VPost p) (hi : i < p.ords.length) (hc : ∀ x ∈ F.came, 0 ≤ x ∧ x < p.ords.length) (hni : (i : Int) ∉ F.came) (hcl : F.came.length ≤ 100) (hll : F.log.length ≤ 200) (hb : ∀ q, q < 6 → 0 ≤ F.left q ∧ F.left q ≤ 20) :
    PCall Try.prog 80 [floA cp c1 c2 p F, intA i] (fun r => r = floA cp true true p (comeN p F i)) := by
  have hlen := hv.len
  have hi6 : i < 6 := by omega
  have hnum := hv.num i hi
  refine acall_of_awp T0 Try.func80 rfl rfl rfl ?_
  repeat (first | refine awp_seq ?_ | refine awp_region_lit rfl ?_)
  refine awl_hw (by first | exact wt_none rfl | exact wt_some' rfl rfl rfl rfl (by first | rfl | assumption | exact dT (by omega) | exact dF (by omega))) (st_box rfl rfl (by first | rfl | assumption) (by first | assumption | (simp only [cellsA]; rfl)) rfl rfl ?_)
  intro g2
  skip
  refine awl_hw (by first | exact wt_none rfl | exact wt_some' rfl rfl rfl rfl (by first | rfl | assumption | exact dT (by omega) | exact dF (by omega))) (st_alloc T0 rfl rfl rfl rfl (by simp only [Value.cells, List.toList_toArray, List.map_cons, List.map_nil]; rfl) ?_)
  intro g4
  repeat (first | refine awp_seq ?_ | refine awp_region_lit rfl ?_ | ((first | (show AWL _ _ _ (⟨_, .move _, _, _, _, _⟩ :: _) _ _ _; refine awl_pw ?wtq (pv_move rfl rfl) rfl rfl ?_) | (show AWL _ _ _ (⟨_, .load _ _, _, _, _, _⟩ :: _) _ _ _; refine awl_lw ?wtq (lv_cl1 T0 rfl rfl rfl (by solve | repeat' constructor) (by first | rfl | assumption)) rfl rfl rfl ?_) | (show AWL _ _ _ (⟨_, .load _ _, _, _, _, _⟩ :: _) _ _ _; refine awl_lw ?wtq (lv_elt_ag T0 rfl rfl rfl rfl (by solve | repeat' constructor)) rfl rfl rfl ?_) | (show AWL _ _ _ (⟨_, .fieldAddr _ _ _, _, _, _, _⟩ :: _) _ _ _; refine awl_pw ?wtq (pv_fa T0 rfl rfl rfl (by simp; rfl)) rfl rfl ?_) | (show AWL _ _ _ (⟨_, .indexAddr _ _ _, _, _, _, _⟩ :: _) _ _ _; refine awl_pw ?wtq (pv_ix_t T0 rfl rfl rfl rfl (by omega) (by first | exact (rfl : Int.toNat 0 = 0) | exact Int.toNat_natCast _ | rfl)) rfl rfl ?_)); case wtq => first | exact wt_none rfl | exact wt_some' rfl rfl rfl rfl (by first | rfl | assumption | exact dT (by omega) | exact dF (by omega))) | refine awl_nil ?_)
  refine awl_hw (by first | exact wt_none rfl | exact wt_some' rfl rfl rfl rfl (by first | rfl | assumption | exact dT (by omega) | exact dF (by omega))) (st_alloc T0 rfl rfl rfl rfl (by simp only [Value.cells, List.toList_toArray, List.map_cons, List.map_nil]; rfl) ?_)
  intro g5
  repeat (first | refine awp_seq ?_ | refine awp_region_lit rfl ?_ | ((first | (show AWL _ _ _ (⟨_, .load _ _, _, _, _, _⟩ :: _) _ _ _; refine awl_lw ?wtq (lv_cl1 T0 rfl rfl rfl (by solve | repeat' constructor) (by first | rfl | assumption)) rfl rfl rfl ?_) | (show AWL _ _ _ (⟨_, .fieldAddr _ _ _, _, _, _, _⟩ :: _) _ _ _; refine awl_pw ?wtq (pv_fa T0 rfl rfl rfl (by simp; rfl)) rfl rfl ?_)); case wtq => first | exact wt_none rfl | exact wt_some' rfl rfl rfl rfl (by first | rfl | assumption | exact dT (by omega) | exact dF (by omega))) | (show AWL _ _ _ (⟨_, .store _ _ _, _, _, _, _⟩ :: _) _ _ _; refine awl_hw (by first | exact wt_none rfl | exact wt_some' rfl rfl rfl rfl (by first | rfl | assumption | exact dT (by omega) | exact dF (by omega))) (st_store T0 rfl rfl rfl rfl rfl (by first | assumption | (simp only [cellsA]; rfl)) rfl rfl rfl (by solve | repeat' constructor) (by solve | repeat' constructor) trivial ?_)) | refine awl_nil ?_)
  refine awl_hw (by first | exact wt_none rfl | exact wt_some' rfl rfl rfl rfl (by first | rfl | assumption | exact dT (by omega) | exact dF (by omega))) (st_acall T0 (sclone_o c2 F.log (by omega)) rfl rfl rfl rfl (by first | exact callee_lit | exact callee_v | exact callee_fn | assumption) (by solve | repeat' constructor) (by first | rfl | assumption) rfl (by first | ((repeat' (first | exact SubH.refl _ | apply SubH.cons | exact Pick.here | apply Pick.there)); all_goals fail) | fail) (fun _ _ => trivial) ?_)
  rintro r h ⟨a, c, rfl, rfl⟩
  simp only [List.cons_append, List.nil_append]
  repeat (first | refine awp_seq ?_ | refine awp_region_lit rfl ?_ | ((first | (show AWL _ _ _ (⟨_, .load _ _, _, _, _, _⟩ :: _) _ _ _; refine awl_lw ?wtq (lv_clp T0 rfl rfl rfl (by solve | repeat' constructor) rfl rfl) rfl rfl rfl ?_) | (show AWL _ _ _ (⟨_, .fieldAddr _ _ _, _, _, _, _⟩ :: _) _ _ _; refine awl_pw ?wtq (pv_fa T0 rfl rfl rfl (by simp; rfl)) rfl rfl ?_) | (show AWL _ _ _ (⟨_, .build _ _, _, _, _, _⟩ :: _) _ _ _; refine awl_pw ?wtq (pv_build_arr T0 rfl rfl rfl (by simp only [Value.cells, List.toList_toArray, List.map_cons, List.map_nil]; rfl) (by first | ((repeat' (first | exact BParts.nil | apply BParts.cons | rfl)); all_goals fail) | fail) (by first | ((repeat' (first | exact FillA.nil | exact Sp.done | apply FillA.cons | apply Sp.put | apply Sp.skip | (simp only [cellsA]; rfl) | rfl)); all_goals fail) | fail)) rfl rfl ?_)); case wtq => first | exact wt_none rfl | exact wt_some' rfl rfl rfl rfl (by first | rfl | assumption | exact dT (by omega) | exact dF (by omega))) | (show AWL _ _ _ (⟨_, .store _ _ _, _, _, _, _⟩ :: _) _ _ _; refine awl_hw (by first | exact wt_none rfl | exact wt_some' rfl rfl rfl rfl (by first | rfl | assumption | exact dT (by omega) | exact dF (by omega))) (st_store T0 rfl rfl rfl rfl rfl (by first | assumption | (simp only [cellsA]; rfl)) rfl rfl rfl (by solve | repeat' constructor) (by solve | repeat' constructor) trivial ?_)) | refine awl_nil ?_)
  refine awl_pw (wt_none rfl) (pv_eql_arr (d := F.left) (e := fun _ => 0) rfl rfl rfl) rfl rfl ?_
  repeat (first | refine awp_seq ?_ | refine awp_region_lit rfl ?_ | ((first | (show AWL _ _ _ (⟨_, .move _, _, _, _, _⟩ :: _) _ _ _; refine awl_pw ?wtq (pv_move rfl rfl) rfl rfl ?_) | (show AWL _ _ _ (⟨_, .assign _, _, _, _, _⟩ :: _) _ _ _; refine awl_pw ?wtq (pv_assign rfl rfl) rfl rfl ?_) | (show AWL _ _ _ (⟨_, .load _ _, _, _, _, _⟩ :: _) _ _ _; refine awl_lw ?wtq (lv_cl1 T0 rfl rfl rfl (by solve | repeat' constructor) (by first | rfl | assumption)) rfl rfl rfl ?_) | (show AWL _ _ _ (⟨_, .fieldAddr _ _ _, _, _, _, _⟩ :: _) _ _ _; refine awl_pw ?wtq (pv_fa T0 rfl rfl rfl (by simp; rfl)) rfl rfl ?_) | (show AWL _ _ _ (⟨_, .indexAddr _ _ _, _, _, _, _⟩ :: _) _ _ _; refine awl_pw ?wtq (pv_ix_arr T0 rfl rfl rfl rfl (by omega) (by simp; rfl)) rfl rfl ?_)); case wtq => first | exact wt_none rfl | exact wt_some' rfl rfl rfl rfl (by first | rfl | assumption | exact dT (by omega) | exact dF (by omega))) | refine awl_nil ?_)
  refine awl_hw (wt_none rfl) (st_arrO (n := 6) (z := .t (ordsT cp p.ords)) (ys := [.t (intsT c1 F.came), .v (.slice a F.log.length c)]) (d := F.left) (d' := fun q => if q = i then (oAt p i).num else F.left q) T0 rfl rfl rfl rfl rfl (by solve | repeat' constructor) hi6 (fun q _ => rfl) trivial ?_)
  repeat (first | refine awp_seq ?_ | refine awp_block ?_ | refine awl_nil ?_)
  obtain ⟨R, hR⟩ : ∃ R, matchN p (oAt p i) i F.came 20 (fun q => if q = i then (oAt p i).num else F.left q, F.log) = R := ⟨_, rfl⟩
  have hal : eq6 F.left (fun _ => 0) = true → R = (fun q => if q = i then (oAt p i).num else F.left q, F.log) := by
    intro ha
    rw [← hR]
    refine match_stop (.inr ?_) 20
    rw [rest_none ?_ _ (Nat.le_refl _)]
    · omega
    · intro x hx
      have hx' := hc x hx
      have hne : x.toNat ≠ i := fun e => hni (by rw [← e, Int.toNat_of_nonneg hx'.1]; exact hx)
      show (if x.toNat = i then (oAt p i).num else F.left x.toNat) ≤ 0
      rw [if_neg hne]
      have := eq6_iff.1 ha x.toNat (by omega)
      have e0 : F.left x.toNat = 0 := this
      omega
  generalize ha0 : eq6 F.left (fun _ => 0) = a0 at *
  refine awp_cutX (fun s h => ∃ (a : Option Addr) (c : Nat), R.2.length ≤ 220 ∧ s = [(1, intA i), (2, .v (ptrV g2)), (4, .v (ptrV g4))] ∧ h = [.cl g2 125 (floC cp p R.1 (.t (intsT c1 F.came)) (.v (.slice a R.2.length c))), .rw (.slice a R.2.length c) 75 4 (R.2.map saleRow), .cl g4 125 [.v (.slice none 0 0), intA 0, intA 0, intA 0, intA 0, intA 0, intA 0, .v (.slice none 0 0), .v (.slice none 0 0)]]) ?_ ?_
  rotate_left
  · rintro s h ⟨a, c, hll, rfl, rfl⟩
    have hcN : comeN p F i = ⟨R.1, F.came ++ [(i : Int)], R.2⟩ := by unfold comeN; rw [hR]
    repeat (first | refine awp_seq ?_ | refine awp_region_lit rfl ?_ | ((first | (show AWL _ _ _ (⟨_, .load _ _, _, _, _, _⟩ :: _) _ _ _; refine awl_lw ?wtq (lv_cl1 T0 rfl rfl rfl (by solve | repeat' constructor) (by first | rfl | assumption)) rfl rfl rfl ?_) | (show AWL _ _ _ (⟨_, .fieldAddr _ _ _, _, _, _, _⟩ :: _) _ _ _; refine awl_pw ?wtq (pv_fa T0 rfl rfl rfl (by simp; rfl)) rfl rfl ?_)); case wtq => first | exact wt_none rfl | exact wt_some' rfl rfl rfl rfl (by first | rfl | assumption | exact dT (by omega) | exact dF (by omega))))
    refine awl_hw (by first | exact wt_none rfl | exact wt_some' rfl rfl rfl rfl (by first | rfl | assumption | exact dT (by omega) | exact dF (by omega))) (st_acall T0 (iclone_o c1 F.came (by omega)) rfl rfl rfl rfl (by first | exact callee_lit | exact callee_v | exact callee_fn | assumption) (by solve | repeat' constructor) (by first | rfl | assumption) rfl (by first | ((repeat' (first | exact SubH.refl _ | apply SubH.cons | exact Pick.here | apply Pick.there)); all_goals fail) | fail) (fun _ _ => trivial) ?_)
    rintro r h ⟨a7, c7, rfl, rfl⟩
    simp only [List.cons_append, List.nil_append]
    repeat (first | ((first | (show AWL _ _ _ (⟨_, .move _, _, _, _, _⟩ :: _) _ _ _; refine awl_pw ?wtq (pv_move rfl rfl) rfl rfl ?_)); case wtq => first | exact wt_none rfl | exact wt_some' rfl rfl rfl rfl (by first | rfl | assumption | exact dT (by omega) | exact dF (by omega))))
    refine awl_hw (by first | exact wt_none rfl | exact wt_some' rfl rfl rfl rfl (by first | rfl | assumption | exact dT (by omega) | exact dF (by omega))) (st_bsl T0 rfl rfl rfl rfl rfl (by solve | repeat' constructor) rfl rfl rfl rfl (by simp only [List.map_cons, List.map_nil, cellsA]; rfl) ?_)
    intro g96
    skip
    have hrl : (F.came.map fun x => [intA x]).length = F.came.length := List.length_map _
    refine awl_hw (by first | exact wt_none rfl | exact wt_some' rfl rfl rfl rfl (by first | rfl | assumption | exact dT (by omega) | exact dF (by omega))) (st_app T0 rfl rfl rfl rfl rfl rfl rfl rfl rfl (by solve | repeat' constructor) (by solve | repeat' constructor) rfl rfl hrl (by omega) (fun _ _ => trivial) ?_)
    intro a97 c97 p97
    repeat (first | refine awp_seq ?_ | refine awp_region_lit rfl ?_ | refine awp_ret ?_ | refine then_n ?_ | ((first | (show AWL _ _ _ (⟨_, .load _ _, _, _, _, _⟩ :: _) _ _ _; refine awl_lw ?wtq (lv_cla T0 rfl rfl rfl (by solve | repeat' constructor) rfl) rfl rfl rfl ?_) | (show AWL _ _ _ (⟨_, .fieldAddr _ _ _, _, _, _, _⟩ :: _) _ _ _; refine awl_pw ?wtq (pv_fa T0 rfl rfl rfl (by simp; rfl)) rfl rfl ?_)); case wtq => first | exact wt_none rfl | exact wt_some' rfl rfl rfl rfl (by first | rfl | assumption | exact dT (by omega) | exact dF (by omega))) | (show AWL _ _ _ (⟨_, .store _ _ _, _, _, _, _⟩ :: _) _ _ _; refine awl_hw (by first | exact wt_none rfl | exact wt_some' rfl rfl rfl rfl (by first | rfl | assumption | exact dT (by omega) | exact dF (by omega))) (st_store T0 rfl rfl rfl rfl rfl (by first | assumption | (simp only [cellsA]; rfl)) rfl rfl rfl (by solve | repeat' constructor) (by solve | repeat' constructor) trivial ?_)) | refine awl_nil ?_)
    rw [show F.came.length + 1 = (F.came ++ [(i : Int)]).length from by rw [List.length_append]; rfl, show (F.came.map (fun x => [intA x])) ++ [[AV.v (Value.int IntKind.i64 (i : Int))]] = (F.came ++ [(i : Int)]).map intRow from by rw [List.map_append]; rfl]
    refine bodyQ_ghost (ghost_freeze_cell (g := g4) (j := 7) (v := .slice a97 (F.came ++ [(i : Int)]).length c97) (E := 3) (sz := 1) (n := (F.came ++ [(i : Int)]).length) (rows := (F.came ++ [(i : Int)]).map intRow) (fun q => [Tr.sc (.int .i64 ((F.came ++ [(i : Int)]).getD q 0))]) (by solve | repeat' constructor) (by solve | repeat' constructor) rfl rfl (List.length_map _) (intRows_tree _)) ?_
    refine bodyQ_ghost (ghost_freeze_cell (g := g4) (j := 8) (v := .slice a R.2.length c) (E := 75) (sz := 4) (n := R.2.length) (rows := R.2.map saleRow) (fun q => saleL (R.2.getD q default)) (by solve | repeat' constructor) (by solve | repeat' constructor) rfl rfl (List.length_map _) (rows_tree R.2 saleRow saleL (fun _ => rfl))) ?_
    rw [hcN]
    refine body_p (.cons ⟨g4, _, _, _, _, rfl, rfl, (by solve | repeat' constructor), by simp, .inl rfl, rfl⟩ .nil) ?_
    rfl
  refine awp_loop (fun m s h => ∃ (L : Nat → Int) (log : List SaleD) (a : Option Addr) (c : Nat), m ≤ 20 ∧ matchN p (oAt p i) i F.came m (L, log) = R ∧ L i ≤ m ∧ (∀ q, q < 6 → 0 ≤ L q ∧ L q ≤ 20) ∧ log.length + m ≤ 220 ∧ (a0 = true → R = (L, log)) ∧ s = [(1, intA i), (2, .v (ptrV g2)), (4, .v (ptrV g4)), (5, .v (ptrV g5)), (6, boolA a0)] ∧ h = [.cl g2 125 (floC cp p L (.t (intsT c1 F.came)) (.v (.slice a log.length c))), .rw (.slice a log.length c) 75 4 (log.map saleRow), .cl g5 78 (ordRow (oAt p i)), .cl g4 125 [.v (.slice none 0 0), intA 0, intA 0, intA 0, intA 0, intA 0, intA 0, .v (.slice none 0 0), .v (.slice none 0 0)]]) ?_ ⟨_, F.log, a, c, Nat.le_refl 20, hR, ?_, ?_, by omega, hal, rfl, rfl⟩ (by first | ((repeat' (first | exact True.intro | refine ⟨rfl, ?_⟩)); all_goals fail) | fail) (by solve | repeat' constructor)
  rotate_left
  · show (if i = i then (oAt p i).num else F.left i) ≤ _
    rw [if_pos rfl]; exact hnum.2
  · intro q hq
    show 0 ≤ (if q = i then (oAt p i).num else F.left q) ∧ (if q = i then (oAt p i).num else F.left q) ≤ 20
    have := hb q hq
    split
    · exact ⟨by have := hnum.1; show 0 ≤ (p.ords.getD i default).num; omega, hnum.2⟩
    · exact this
  rintro m s h ⟨L, log, a, c, hm, hL, hLi, hLb, hll, hal, rfl, rfl⟩
  have r1 : (floC cp p L (.t (intsT c1 F.came)) (.v (.slice a log.length c)))[1 + i]? = some (intA (L i)) := arrO_at hi6
  repeat (first | refine awp_seq ?_ | refine awp_region_lit rfl ?_ | ((first | (show AWL _ _ _ (⟨_, .move _, _, _, _, _⟩ :: _) _ _ _; refine awl_pw ?wtq (pv_move rfl rfl) rfl rfl ?_) | (show AWL _ _ _ (⟨_, .load _ _, _, _, _, _⟩ :: _) _ _ _; refine awl_lw ?wtq (lv_cl1 T0 rfl rfl rfl (by solve | repeat' constructor) (by first | rfl | assumption)) rfl rfl rfl ?_) | (show AWL _ _ _ (⟨_, .fieldAddr _ _ _, _, _, _, _⟩ :: _) _ _ _; refine awl_pw ?wtq (pv_fa T0 rfl rfl rfl (by simp; rfl)) rfl rfl ?_) | (show AWL _ _ _ (⟨_, .indexAddr _ _ _, _, _, _, _⟩ :: _) _ _ _; refine awl_pw ?wtq (pv_ix_arr T0 rfl rfl rfl rfl (by omega) (by simp; rfl)) rfl rfl ?_) | (show AWL _ _ _ (⟨_, .binOp .gtr _ _ _ _, _, _, _, _⟩ :: _) _ _ _; refine awl_pw ?wtq (pv_gtr rfl rfl rfl) rfl rfl ?_)); case wtq => first | exact wt_none rfl | exact wt_some' rfl rfl rfl rfl (by first | rfl | assumption | exact dT (by omega) | exact dF (by omega))))
  have hst : ∀ (H : ¬ 0 < L i ∨ restN p L (oAt p i) F.came F.came.length < 0), R = (L, log) := fun H => by rw [← hL]; exact match_stop H m
  cases e1 : decide (0 < L i)
  · obtain rfl := hst (.inl (of_decide_eq_false e1))
    repeat (first | refine awp_exit ?_ | refine then_n ?_ | refine then_x ?_ | refine blk_x ?_ | refine rnd_x ?_ | refine awp_cond_f rfl (by first | rfl | assumption | exact dF (by omega)) ?_ | ((first | (show AWL _ _ _ (⟨_, .move _, _, _, _, _⟩ :: _) _ _ _; refine awl_pw ?wtq (pv_move rfl rfl) rfl rfl ?_) | (show AWL _ _ _ (⟨_, .pick _ _ _, _, _, _, _⟩ :: _) _ _ _; refine awl_pw ?wtq (pv_pick_f rfl rfl (by first | rfl | assumption | exact dT (by omega) | exact dF (by omega)) rfl) rfl rfl ?_)); case wtq => first | exact wt_none rfl | exact wt_some' rfl rfl rfl rfl (by first | rfl | assumption | exact dT (by omega) | exact dF (by omega))) | refine awl_sk (wf_some rfl rfl rfl rfl (by first | rfl | assumption | exact dT (by omega) | exact dF (by omega))) rfl rfl ?_ | refine awl_nil ?_)
    exact cut_n ⟨a, c, by show log.length ≤ 220; omega, rfl, rfl⟩ (by first | ((repeat' (first | exact True.intro | refine ⟨rfl, ?_⟩)); all_goals fail) | fail) (by solve | repeat' constructor)
  cases a0
  case true =>
    obtain rfl := hal rfl
    repeat (first | refine awp_exit ?_ | refine then_x ?_ | refine blk_x ?_ | refine rnd_x ?_ | refine awp_cond_f rfl (by first | rfl | assumption | exact dF (by omega)) ?_ | ((first | (show AWL _ _ _ (⟨_, .move _, _, _, _, _⟩ :: _) _ _ _; refine awl_pw ?wtq (pv_move rfl rfl) rfl rfl ?_) | (show AWL _ _ _ (⟨_, .unOp .not _ _, _, _, _, _⟩ :: _) _ _ _; refine awl_pw ?wtq (pv_not rfl rfl) rfl rfl ?_) | (show AWL _ _ _ (⟨_, .pick _ _ _, _, _, _, _⟩ :: _) _ _ _; refine awl_pw ?wtq (pv_pick_t rfl rfl (by first | rfl | assumption | exact dT (by omega) | exact dF (by omega)) rfl) rfl rfl ?_)); case wtq => first | exact wt_none rfl | exact wt_some' rfl rfl rfl rfl (by first | rfl | assumption | exact dT (by omega) | exact dF (by omega))) | refine awl_nil ?_)
    exact cut_n ⟨a, c, by show log.length ≤ 220; omega, rfl, rfl⟩ (by first | ((repeat' (first | exact True.intro | refine ⟨rfl, ?_⟩)); all_goals fail) | fail) (by solve | repeat' constructor)
  repeat (first | refine awp_seq ?_ | refine awp_block ?_ | refine awp_region_lit rfl ?_ | refine awp_skip ?_ | refine then_n ?_ | refine awp_cond_t rfl (by first | rfl | assumption | exact dT (by omega)) ?_ | ((first | (show AWL _ _ _ (⟨_, .move _, _, _, _, _⟩ :: _) _ _ _; refine awl_pw ?wtq (pv_move rfl rfl) rfl rfl ?_) | (show AWL _ _ _ (⟨_, .load _ _, _, _, _, _⟩ :: _) _ _ _; refine awl_lw ?wtq (lv_cla T0 rfl rfl rfl (by solve | repeat' constructor) rfl) rfl rfl rfl ?_) | (show AWL _ _ _ (⟨_, .unOp .not _ _, _, _, _, _⟩ :: _) _ _ _; refine awl_pw ?wtq (pv_not rfl rfl) rfl rfl ?_) | (show AWL _ _ _ (⟨_, .pick _ _ _, _, _, _, _⟩ :: _) _ _ _; refine awl_pw ?wtq (pv_pick_t rfl rfl (by first | rfl | assumption | exact dT (by omega) | exact dF (by omega)) rfl) rfl rfl ?_)); case wtq => first | exact wt_none rfl | exact wt_some' rfl rfl rfl rfl (by first | rfl | assumption | exact dT (by omega) | exact dF (by omega))) | refine awl_nil ?_)
  refine awl_hw (by first | exact wt_none rfl | exact wt_some' rfl rfl rfl rfl (by first | rfl | assumption | exact dT (by omega) | exact dF (by omega))) (st_acall T0 (resting_p cp c1 p L (.v (.slice a log.length c)) (oAt p i) g2 F.came hv hc (by omega)) rfl rfl rfl rfl (by first | exact callee_lit | exact callee_v | exact callee_fn | assumption) (by solve | repeat' constructor) (by first | rfl | assumption) rfl (by first | ((repeat' (first | exact SubH.refl _ | apply SubH.cons | exact Pick.here | apply Pick.there)); all_goals fail) | fail) (fun _ _ => trivial) ?_)
  rintro r h ⟨rfl, rfl⟩
  have hri := rest_in (p := p) (left := L) (o := oAt p i) (n := p.ords.length) (by omega) hc F.came.length (Nat.le_refl _)
  have hrm := rest_mem (p := p) (left := L) (o := oAt p i) (came := F.came) F.came.length (Nat.le_refl _)
  obtain ⟨m, rfl⟩ : ∃ m', m = m' + 1 := ⟨m - 1, by have := of_decide_eq_true e1; omega⟩
  simp only [matchN, if_pos (of_decide_eq_true e1)] at hL
  generalize restN p L (oAt p i) F.came F.came.length = k at *
  repeat (first | refine awp_seq ?_ | refine awp_region_lit rfl ?_ | refine then_n ?_ | ((first | (show AWL _ _ _ (⟨_, .move _, _, _, _, _⟩ :: _) _ _ _; refine awl_pw ?wtq (pv_move rfl rfl) rfl rfl ?_) | (show AWL _ _ _ (⟨_, .assign _, _, _, _, _⟩ :: _) _ _ _; refine awl_pw ?wtq (pv_assign rfl rfl) rfl rfl ?_) | (show AWL _ _ _ (⟨_, .binOp .lss _ _ _ _, _, _, _, _⟩ :: _) _ _ _; refine awl_pw ?wtq (pv_lss rfl rfl rfl) rfl rfl ?_)); case wtq => first | exact wt_none rfl | exact wt_some' rfl rfl rfl rfl (by first | rfl | assumption | exact dT (by omega) | exact dF (by omega))) | refine awl_nil ?_)
  by_cases hk : k < 0
  · rw [if_pos hk] at hL
    subst hL
    have d3 := decide_eq_true hk
    repeat (first | refine awp_exit ?_ | refine then_x ?_ | refine blk_x ?_ | refine blk_y rfl ?_ | refine rnd_x ?_ | refine awp_cond_t rfl (by first | rfl | assumption | exact dT (by omega)) ?_)
    exact cut_n ⟨a, c, by show log.length ≤ 220; omega, rfl, rfl⟩ (by first | ((repeat' (first | exact True.intro | refine ⟨rfl, ?_⟩)); all_goals fail) | fail) (by solve | repeat' constructor)
  rw [if_neg hk] at hL
  have d3 := decide_eq_false hk
  obtain ⟨k, rfl⟩ : ∃ q : Nat, k = q := ⟨k.toNat, by omega⟩
  rw [Int.toNat_natCast] at hL hrm
  obtain ⟨hkm, hk0⟩ : (k : Int) ∈ F.came ∧ 0 < L k := hrm.resolve_left (by omega)
  have hki : k ≠ i := fun e => hni (by rw [← e]; exact hkm)
  have hk6 : k < 6 := by omega
  have hLk := hLb k hk6
  have hLi' := hLb i hi6
  have hi0 := of_decide_eq_true e1
  repeat (first | refine awp_seq ?_ | refine awp_skip ?_ | refine awp_cond_f rfl (by first | rfl | assumption | exact dF (by omega)) ?_)
  refine awp_cut _ (awp_weak (by first | ((repeat' (first | exact True.intro | refine ⟨rfl, ?_⟩)); all_goals fail) | fail) (by solve | repeat' constructor) (nf_8 (p := p) (cp := cp) (left := L) (g2 := g2) (g4 := g4) (g5 := g5) (i := i) (k := k) (U := .t (intsT c1 F.came)) (V := .v (.slice a log.length c)) (u6 := boolA false) (rest := [.rw (.slice a log.length c) 75 4 (log.map saleRow), .cl g5 78 (ordRow (oAt p i)), .cl g4 125 [.v (.slice none 0 0), intA 0, intA 0, intA 0, intA 0, intA 0, intA 0, .v (.slice none 0 0), .v (.slice none 0 0)]]) hi6 hk6 (by omega) hlen rfl)) ?_
  rintro s h ⟨g8, rfl, rfl⟩
  obtain ⟨n, hn⟩ : ∃ n, min (L i) (L k) = n := ⟨_, rfl⟩
  have hn1 : 1 ≤ n ∧ n ≤ 20 ∧ n ≤ L i ∧ n ≤ L k := by omega
  rw [hn] at hL ⊢
  have hrl : (log.map saleRow).length = log.length := List.length_map _
  repeat (first | refine awp_seq ?_ | refine awp_region_lit rfl ?_ | refine then_n ?_ | ((first | (show AWL _ _ _ (⟨_, .load _ _, _, _, _, _⟩ :: _) _ _ _; refine awl_lw ?wtq (lv_cl1 T0 rfl rfl rfl (by solve | repeat' constructor) (by first | rfl | assumption)) rfl rfl rfl ?_) | (show AWL _ _ _ (⟨_, .fieldAddr _ _ _, _, _, _, _⟩ :: _) _ _ _; refine awl_pw ?wtq (pv_fa T0 rfl rfl rfl (by simp; rfl)) rfl rfl ?_) | (show AWL _ _ _ (⟨_, .unOp .not _ _, _, _, _, _⟩ :: _) _ _ _; refine awl_pw ?wtq (pv_not rfl rfl) rfl rfl ?_)); case wtq => first | exact wt_none rfl | exact wt_some' rfl rfl rfl rfl (by first | rfl | assumption | exact dT (by omega) | exact dF (by omega))) | refine awl_nil ?_)
  cases hbuy : (oAt p i).buy
  case false =>
    repeat (first | refine awp_seq ?_ | refine awp_region_lit rfl ?_ | refine awp_cond_t rfl (by first | rfl | assumption | exact dT (by omega)) ?_ | ((first | (show AWL _ _ _ (⟨_, .move _, _, _, _, _⟩ :: _) _ _ _; refine awl_pw ?wtq (pv_move rfl rfl) rfl rfl ?_) | (show AWL _ _ _ (⟨_, .fieldAddr _ _ _, _, _, _, _⟩ :: _) _ _ _; refine awl_pw ?wtq (pv_fa T0 rfl rfl rfl (by simp; rfl)) rfl rfl ?_)); case wtq => first | exact wt_none rfl | exact wt_some' rfl rfl rfl rfl (by first | rfl | assumption | exact dT (by omega) | exact dF (by omega))) | (show AWL _ _ _ (⟨_, .store _ _ _, _, _, _, _⟩ :: _) _ _ _; refine awl_hw (by first | exact wt_none rfl | exact wt_some' rfl rfl rfl rfl (by first | rfl | assumption | exact dT (by omega) | exact dF (by omega))) (st_store T0 rfl rfl rfl rfl rfl (by first | assumption | (simp only [cellsA]; rfl)) rfl rfl rfl (by solve | repeat' constructor) (by solve | repeat' constructor) trivial ?_)) | refine awl_nil ?_)
    refine awp_cut _ (awp_weak (by first | ((repeat' (first | exact True.intro | refine ⟨rfl, ?_⟩)); all_goals fail) | fail) (by solve | repeat' constructor) (nf_11 (p := p) (cp := cp) (left := L) (left' := fun q => if q = i then L i - n else L q) (g2 := g2) (g4 := g4) (g5 := g5) (g8 := g8) (i := i) (k := k) (n := n) (U := .t (intsT c1 F.came)) (V := .v (.slice a log.length c)) (u6 := boolA false) (x0 := intA k) (x1 := intA i) (x3 := intA (oAt p k).lim) (rest := [.rw (.slice a log.length c) 75 4 (log.map saleRow), .cl g5 78 (ordRow (oAt p i)), .cl g4 125 [.v (.slice none 0 0), intA 0, intA 0, intA 0, intA 0, intA 0, intA 0, .v (.slice none 0 0), .v (.slice none 0 0)]]) hi6 (by omega) (by omega) (fun q _ => rfl) rfl)) ?_
    rintro s h ⟨rfl, rfl⟩
    repeat (first | refine awp_seq ?_)
    refine awp_cut _ (awp_weak (by first | ((repeat' (first | exact True.intro | refine ⟨rfl, ?_⟩)); all_goals fail) | fail) (by solve | repeat' constructor) (nf_12 (p := p) (cp := cp) (left := fun q => if q = i then L i - n else L q) (left' := takeN L i k n) (g2 := g2) (g4 := g4) (g5 := g5) (g8 := g8) (i := i) (k := k) (n := n) (U := .t (intsT c1 F.came)) (V := .v (.slice a log.length c)) (u6 := boolA false) (x0 := intA k) (x1 := intA i) (x3 := intA (oAt p k).lim) (rest := [.rw (.slice a log.length c) 75 4 (log.map saleRow), .cl g5 78 (ordRow (oAt p i)), .cl g4 125 [.v (.slice none 0 0), intA 0, intA 0, intA 0, intA 0, intA 0, intA 0, .v (.slice none 0 0), .v (.slice none 0 0)]]) hk6 (by show -1000 ≤ (if k = i then L i - n else L k) ∧ (if k = i then L i - n else L k) ≤ 1000; rw [if_neg hki]; omega) (by omega) (fun q _ => by show takeN L i k n q = if q = k then (if k = i then L i - n else L k) - n else _; rw [if_neg hki]; rfl) rfl)) ?_
    rintro s h ⟨rfl, rfl⟩
    repeat (first | refine awp_region_lit rfl ?_ | ((first | (show AWL _ _ _ (⟨_, .load _ _, _, _, _, _⟩ :: _) _ _ _; refine awl_lw ?wtq (lv_cl1 T0 rfl rfl rfl (by solve | repeat' constructor) (by first | rfl | assumption)) rfl rfl rfl ?_) | (show AWL _ _ _ (⟨_, .load _ _, _, _, _, _⟩ :: _) _ _ _; refine awl_lw ?wtq (lv_cla T0 rfl rfl rfl (by solve | repeat' constructor) rfl) rfl rfl rfl ?_) | (show AWL _ _ _ (⟨_, .fieldAddr _ _ _, _, _, _, _⟩ :: _) _ _ _; refine awl_pw ?wtq (pv_fa T0 rfl rfl rfl (by simp; rfl)) rfl rfl ?_)); case wtq => first | exact wt_none rfl | exact wt_some' rfl rfl rfl rfl (by first | rfl | assumption | exact dT (by omega) | exact dF (by omega))))
    refine awl_hw (by first | exact wt_none rfl | exact wt_some' rfl rfl rfl rfl (by first | rfl | assumption | exact dT (by omega) | exact dF (by omega))) (st_bsl T0 rfl rfl rfl rfl rfl (by solve | repeat' constructor) rfl rfl rfl rfl (by simp only [List.map_cons, List.map_nil, cellsA]; rfl) ?_)
    intro g89
    skip
    refine awl_hw (by first | exact wt_none rfl | exact wt_some' rfl rfl rfl rfl (by first | rfl | assumption | exact dT (by omega) | exact dF (by omega))) (st_app T0 rfl rfl rfl rfl rfl rfl rfl rfl rfl (by solve | repeat' constructor) (by solve | repeat' constructor) rfl rfl hrl (by omega) (fun _ _ => trivial) ?_)
    intro a90 c90 p90
    repeat (first | refine blk_n ?_ | ((first | (show AWL _ _ _ (⟨_, .fieldAddr _ _ _, _, _, _, _⟩ :: _) _ _ _; refine awl_pw ?wtq (pv_fa T0 rfl rfl rfl (by simp; rfl)) rfl rfl ?_)); case wtq => first | exact wt_none rfl | exact wt_some' rfl rfl rfl rfl (by first | rfl | assumption | exact dT (by omega) | exact dF (by omega))) | (show AWL _ _ _ (⟨_, .store _ _ _, _, _, _, _⟩ :: _) _ _ _; refine awl_hw (by first | exact wt_none rfl | exact wt_some' rfl rfl rfl rfl (by first | rfl | assumption | exact dT (by omega) | exact dF (by omega))) (st_store T0 rfl rfl rfl rfl rfl (by first | assumption | (simp only [cellsA]; rfl)) rfl rfl rfl (by solve | repeat' constructor) (by solve | repeat' constructor) trivial ?_)) | refine awl_nil ?_)
    rw [show log.length + 1 = (log ++ [saleN p (oAt p i) i k n]).length from by rw [List.length_append]; rfl, show log.map saleRow ++ [[intA k, intA i, intA n, intA (oAt p k).lim]] = (log ++ [saleN p (oAt p i) i k n]).map saleRow from by rw [List.map_append]; unfold saleN; rw [hbuy]; rfl]
    refine rnd_n _ _ _ (Nat.lt_succ_self m) ⟨takeN L i k n, log ++ [saleN p (oAt p i) i k n], a90, c90, by omega, hL, ?_, ?_, ?_, (fun e => by cases e), rfl, rfl⟩ (by first | ((repeat' (first | exact True.intro | refine ⟨rfl, ?_⟩)); all_goals fail) | fail) (by solve | repeat' constructor)
    · show (if i = k then L k - n else if i = i then L i - n else L i) ≤ m
      rw [if_neg (Ne.symm hki), if_pos rfl]; omega
    · intro q hq
      have := hLb q hq
      show 0 ≤ (if q = k then L k - n else if q = i then L i - n else L q) ∧ (if q = k then L k - n else if q = i then L i - n else L q) ≤ 20
      split
      · omega
      · split
        · omega
        · exact this
    · rw [List.length_append]; show log.length + 1 + m ≤ 220; omega
  repeat (first | refine awp_seq ?_ | refine awp_skip ?_ | refine awp_cond_f rfl (by first | rfl | assumption | exact dF (by omega)) ?_)
  refine awp_cut _ (awp_weak (by first | ((repeat' (first | exact True.intro | refine ⟨rfl, ?_⟩)); all_goals fail) | fail) (by solve | repeat' constructor) (nf_11 (p := p) (cp := cp) (left := L) (left' := fun q => if q = i then L i - n else L q) (g2 := g2) (g4 := g4) (g5 := g5) (g8 := g8) (i := i) (k := k) (n := n) (U := .t (intsT c1 F.came)) (V := .v (.slice a log.length c)) (u6 := boolA false) (x0 := intA i) (x1 := intA k) (x3 := intA (oAt p k).lim) (rest := [.rw (.slice a log.length c) 75 4 (log.map saleRow), .cl g5 78 (ordRow (oAt p i)), .cl g4 125 [.v (.slice none 0 0), intA 0, intA 0, intA 0, intA 0, intA 0, intA 0, .v (.slice none 0 0), .v (.slice none 0 0)]]) hi6 (by omega) (by omega) (fun q _ => rfl) rfl)) ?_
  rintro s h ⟨rfl, rfl⟩
  repeat (first | refine awp_seq ?_)
  refine awp_cut _ (awp_weak (by first | ((repeat' (first | exact True.intro | refine ⟨rfl, ?_⟩)); all_goals fail) | fail) (by solve | repeat' constructor) (nf_12 (p := p) (cp := cp) (left := fun q => if q = i then L i - n else L q) (left' := takeN L i k n) (g2 := g2) (g4 := g4) (g5 := g5) (g8 := g8) (i := i) (k := k) (n := n) (U := .t (intsT c1 F.came)) (V := .v (.slice a log.length c)) (u6 := boolA false) (x0 := intA i) (x1 := intA k) (x3 := intA (oAt p k).lim) (rest := [.rw (.slice a log.length c) 75 4 (log.map saleRow), .cl g5 78 (ordRow (oAt p i)), .cl g4 125 [.v (.slice none 0 0), intA 0, intA 0, intA 0, intA 0, intA 0, intA 0, .v (.slice none 0 0), .v (.slice none 0 0)]]) hk6 (by show -1000 ≤ (if k = i then L i - n else L k) ∧ (if k = i then L i - n else L k) ≤ 1000; rw [if_neg hki]; omega) (by omega) (fun q _ => by show takeN L i k n q = if q = k then (if k = i then L i - n else L k) - n else _; rw [if_neg hki]; rfl) rfl)) ?_
  rintro s h ⟨rfl, rfl⟩
  repeat (first | refine awp_region_lit rfl ?_ | ((first | (show AWL _ _ _ (⟨_, .load _ _, _, _, _, _⟩ :: _) _ _ _; refine awl_lw ?wtq (lv_cl1 T0 rfl rfl rfl (by solve | repeat' constructor) (by first | rfl | assumption)) rfl rfl rfl ?_) | (show AWL _ _ _ (⟨_, .load _ _, _, _, _, _⟩ :: _) _ _ _; refine awl_lw ?wtq (lv_cla T0 rfl rfl rfl (by solve | repeat' constructor) rfl) rfl rfl rfl ?_) | (show AWL _ _ _ (⟨_, .fieldAddr _ _ _, _, _, _, _⟩ :: _) _ _ _; refine awl_pw ?wtq (pv_fa T0 rfl rfl rfl (by simp; rfl)) rfl rfl ?_)); case wtq => first | exact wt_none rfl | exact wt_some' rfl rfl rfl rfl (by first | rfl | assumption | exact dT (by omega) | exact dF (by omega))))
  refine awl_hw (by first | exact wt_none rfl | exact wt_some' rfl rfl rfl rfl (by first | rfl | assumption | exact dT (by omega) | exact dF (by omega))) (st_bsl T0 rfl rfl rfl rfl rfl (by solve | repeat' constructor) rfl rfl rfl rfl (by simp only [List.map_cons, List.map_nil, cellsA]; rfl) ?_)
  intro g89
  skip
  refine awl_hw (by first | exact wt_none rfl | exact wt_some' rfl rfl rfl rfl (by first | rfl | assumption | exact dT (by omega) | exact dF (by omega))) (st_app T0 rfl rfl rfl rfl rfl rfl rfl rfl rfl (by solve | repeat' constructor) (by solve | repeat' constructor) rfl rfl hrl (by omega) (fun _ _ => trivial) ?_)
  intro a90 c90 p90
  repeat (first | refine blk_n ?_ | ((first | (show AWL _ _ _ (⟨_, .fieldAddr _ _ _, _, _, _, _⟩ :: _) _ _ _; refine awl_pw ?wtq (pv_fa T0 rfl rfl rfl (by simp; rfl)) rfl rfl ?_)); case wtq => first | exact wt_none rfl | exact wt_some' rfl rfl rfl rfl (by first | rfl | assumption | exact dT (by omega) | exact dF (by omega))) | (show AWL _ _ _ (⟨_, .store _ _ _, _, _, _, _⟩ :: _) _ _ _; refine awl_hw (by first | exact wt_none rfl | exact wt_some' rfl rfl rfl rfl (by first | rfl | assumption | exact dT (by omega) | exact dF (by omega))) (st_store T0 rfl rfl rfl rfl rfl (by first | assumption | (simp only [cellsA]; rfl)) rfl rfl rfl (by solve | repeat' constructor) (by solve | repeat' constructor) trivial ?_)) | refine awl_nil ?_)
  rw [show log.length + 1 = (log ++ [saleN p (oAt p i) i k n]).length from by rw [List.length_append]; rfl, show log.map saleRow ++ [[intA i, intA k, intA n, intA (oAt p k).lim]] = (log ++ [saleN p (oAt p i) i k n]).map saleRow from by rw [List.map_append]; unfold saleN; rw [hbuy]; rfl]
  refine rnd_n _ _ _ (Nat.lt_succ_self m) ⟨takeN L i k n, log ++ [saleN p (oAt p i) i k n], a90, c90, by omega, hL, ?_, ?_, ?_, (fun e => by cases e), rfl, rfl⟩ (by first | ((repeat' (first | exact True.intro | refine ⟨rfl, ?_⟩)); all_goals fail) | fail) (by solve | repeat' constructor)
  · show (if i = k then L k - n else if i = i then L i - n else L i) ≤ m
    rw [if_neg (Ne.symm hki), if_pos rfl]; omega
  · intro q hq
    have := hLb q hq
    show 0 ≤ (if q = k then L k - n else if q = i then L i - n else L q) ∧ (if q = k then L k - n else if q = i then L i - n else L q) ≤ 20
    split
    · omega
    · split
      · omega
      · exact this
  · rw [List.length_append]; show log.length + 1 + m ≤ 220; omega
end Go.Proofs.Yteaoclpikdmkiaa
