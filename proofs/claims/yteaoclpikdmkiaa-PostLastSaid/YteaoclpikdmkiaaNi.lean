/- A truth is played: walks. -/
import Derived.Test.YteaoclpikdmkiaaNh
import Derived.Test.YteaoclpikdmkiaaTlw
import Derived.Test.YteaoclpikdmkiaaTz
import Derived.Test.YteaoclpikdmkiaaTv
namespace Go.Tl
open Go Go.RowKit Go.Proofs.Yteaoclpikdmkiaa
section
variable {P : Program} {N : Nat} {o : Oper} {md : Nat → Prop} {s : Slots} {h : List Ent} {K : Slots → List Ent → Prop}
/-- a struct as a whole is stored -/
theorem st_whole (T : TT P) {t g n : Nat} {x y : Operand} {T' : TypeId} {cs cs' : List AV} {h' : List Ent} (ho : o.op = .store t x y) (hx : evA s x = some (.v (.pointer (some ⟨g, 0, none⟩)))) (hy : evA s y = some (.ag cs'))
    (ht : f2 T.siz t = some (n, true)) (hok : okA (.ag cs') = true) (hone : cs'.all oneA = true) (hn : cs.length = n) (hn' : cs'.length = n) (hd : o.dst = none) (hp : Repl h (.cl g T' cs) (.cl g T' cs') h') (hmd : md g)
    (hK : K s h') : AOp P N o md s h K := aop_store T ho hx hy ht hok hone hn' hd hp (by omega) (by simp only [cellsA]; unfold spA; rw [List.take_zero, List.nil_append, Nat.zero_add, hn', ← hn, List.drop_length, List.append_nil]) hmd hK
end
end Go.Tl
namespace Go.Proofs.Yteaoclpikdmkiaa
open Go Go.RowKit Go.Tl
set_option linter.unusedVariables false
set_option linter.unusedSimpArgs false
set_option maxRecDepth 100000
set_option maxHeartbeats 4000000
/-- what holds of a floor -/
structure FOk (p : PostD) (F : FloD) : Prop where
  came : ∀ x ∈ F.came, 0 ≤ x ∧ x < p.ords.length
  nd : F.came.Nodup
  left : ∀ q, q < 6 → 0 ≤ F.left q ∧ F.left q ≤ 20
  log : F.log.length ≤ 20 * F.came.length
theorem match_ok {p : PostD} (hv : VPost p) {o : OrdD} {i : Nat} {came : List Int} (hi : i < p.ords.length) (hc : ∀ x ∈ came, 0 ≤ x ∧ x < p.ords.length) : ∀ (f : Nat) (s : (Nat → Int) × List SaleD), (∀ q, q < 6 → 0 ≤ s.1 q ∧ s.1 q ≤ 20) →
    (∀ q, q < 6 → 0 ≤ (matchN p o i came f s).1 q ∧ (matchN p o i came f s).1 q ≤ 20) ∧ (matchN p o i came f s).2.length ≤ s.2.length + f
  | 0, s, h => ⟨h, Nat.le_refl _⟩
  | f + 1, s, h => by
    have hlen := hv.len
    simp only [matchN]
    split
    · split
      · exact ⟨h, by omega⟩
      · rename_i h1 h2
        have hri := rest_in (p := p) (left := s.1) (o := o) (n := p.ords.length) (by omega) hc came.length (Nat.le_refl _)
        generalize restN p s.1 o came came.length = k at *
        obtain ⟨k, rfl⟩ : ∃ q : Nat, k = q := ⟨k.toNat, by omega⟩
        rw [Int.toNat_natCast]
        have hk := h k (by omega)
        have hi' := h i (by omega)
        have ih := match_ok hv (o := o) (i := i) hi hc f (takeN s.1 i k (min (s.1 i) (s.1 k)), s.2 ++ [saleN p o i k (min (s.1 i) (s.1 k))]) (fun q hq => by
          have hq' := h q hq
          show 0 ≤ (if q = k then s.1 k - min (s.1 i) (s.1 k) else if q = i then s.1 i - min (s.1 i) (s.1 k) else s.1 q) ∧ (if q = k then s.1 k - min (s.1 i) (s.1 k) else if q = i then s.1 i - min (s.1 i) (s.1 k) else s.1 q) ≤ 20
          split
          · omega
          · split <;> omega)
        refine ⟨ih.1, ?_⟩
        have := ih.2
        simp only [List.length_append, List.length_singleton] at this
        omega
    · exact ⟨h, by omega⟩
theorem fok0 (p : PostD) : FOk p flo0 := ⟨fun _ h => (nomatch h), List.nodup_nil, fun q _ => (by show (0 : Int) ≤ 0 ∧ (0 : Int) ≤ 20; omega), Nat.le_refl _⟩
theorem fok_come {p : PostD} (hv : VPost p) {F : FloD} (h : FOk p F) {i : Nat} (hi : i < p.ords.length) (hn : (i : Int) ∉ F.came) : FOk p (comeN p F i) := by
  have hnum := hv.num i hi
  have hm := match_ok hv (o := oAt p i) (i := i) hi h.came 20 (fun q => if q = i then (oAt p i).num else F.left q, F.log) (fun q hq => by
    have := h.left q hq
    have h3 : 1 ≤ (oAt p i).num ∧ (oAt p i).num ≤ 20 := hnum
    show 0 ≤ (if q = i then (oAt p i).num else F.left q) ∧ (if q = i then (oAt p i).num else F.left q) ≤ 20
    split <;> omega)
  refine ⟨fun x hx => ?_, ?_, hm.1, ?_⟩
  · rcases List.mem_append.1 hx with hx | hx
    · exact h.came x hx
    · rw [List.mem_singleton.1 hx]; omega
  · show (F.came ++ [(i : Int)]).Nodup
    rw [List.nodup_append]
    exact ⟨h.nd, by simp, fun a ha b hb e => hn (by rw [List.mem_singleton.1 hb] at e; rw [← e]; exact ha)⟩
  · have h2 := hm.2
    have h3 := h.log
    show (matchN p (oAt p i) i F.came 20 _).2.length ≤ 20 * (F.came ++ [(i : Int)]).length
    rw [List.length_append, List.length_singleton]
    have e : ((fun q => if q = i then (oAt p i).num else F.left q, F.log) : (Nat → Int) × List SaleD).2.length = F.log.length := rfl
    omega
theorem fok_run {p : PostD} (hv : VPost p) {l : List Nat} (hnd : l.Nodup) (hlt : ∀ i ∈ l, i < p.ords.length) : FOk p (runN p l) := by
  have key : ∀ (r l : List Nat), (r ++ l).Nodup → (∀ i ∈ r ++ l, i < p.ords.length) → FOk p (runN p r) → FOk p (runN p (r ++ l)) := fun r l => by
    induction l generalizing r with
    | nil => intro _ _ h; rw [List.append_nil]; exact h
    | cons i l ih =>
      intro h1 h2 h3
      have h4 := ih (r ++ [i]) (by rw [List.append_assoc]; exact h1) (by rw [List.append_assoc]; exact h2) (by
        rw [run_snoc]
        refine fok_come hv h3 (h2 i (by simp)) ?_
        rw [run_came]
        intro hm
        obtain ⟨j, hj, e⟩ := List.mem_map.1 hm
        have e' : (j : Int) = (i : Int) := e
        obtain rfl : j = i := by omega
        exact (List.nodup_append.1 h1).2.2 j hj j (by simp) rfl)
      rwa [List.append_assoc] at h4
  have := key [] l (by simpa using hnd) (by simpa using hlt) (fok0 p)
  simpa using this
theorem fok_len {p : PostD} (hv : VPost p) {F : FloD} (h : FOk p F) : F.came.length ≤ p.ords.length := by
  have h1 := pigeon p.ords.length (F.came.map Int.toNat) (by
    refine List.Pairwise.map _ (fun a b hab => hab) (List.Pairwise.imp_of_mem (fun {a b} ha hb hab e => hab ?_) h.nd)
    have h1 := h.came a ha
    have h2 := h.came b hb
    omega) (fun i hi => by
    obtain ⟨x, hx, rfl⟩ := List.mem_map.1 hi
    have := h.came x hx
    omega)
  rwa [List.length_map] at h1
attribute [local irreducible] AWP AWL AOp PV LV AWT AWE
theorem play_p (cp cp' : Bool) (p : PostD) (t : List Int) (hv : VPost p) (ht : truthB p t = true) : PCall Try.prog 58 [postA cp p, .t (intsT cp' t)] (fun r => r = .t (salesT true (playT p t))) := by
  have hlen := hv.len
  have hpos := hv.pos
  obtain ⟨htl, htr⟩ := truth_iff.1 ht
  refine acall_of_awp T0 Try.func58 rfl rfl rfl ?_
  repeat (first | refine awp_seq ?_ | refine awp_region_lit rfl ?_)
  refine awl_hw (wt_none rfl) (st_box rfl rfl (by first | rfl | assumption) (by first | assumption | (simp only [cellsA]; rfl)) rfl rfl ?_)
  intro g2
  skip
  refine awl_hw (wt_none rfl) (st_box rfl rfl (by first | rfl | assumption) (by first | assumption | (simp only [cellsA]; rfl)) rfl rfl ?_)
  intro g3
  repeat (first | refine awp_seq ?_ | refine awp_region_lit rfl ?_ | (show AWL _ _ _ (⟨_, .assign _, _, _, _, _⟩ :: _) _ _ _; refine awl_pw (wt_none rfl) (pv_assign rfl rfl) rfl rfl ?_) | (show AWL _ _ _ (⟨_, .load _ _, _, _, _, _⟩ :: _) _ _ _; refine awl_lw (wt_none rfl) (lv_cl1 T0 rfl rfl rfl (by solve | repeat' constructor) (by first | rfl | assumption)) rfl rfl rfl ?_) | (show AWL _ _ _ (⟨_, .call ⟨.builtin .len, _, _⟩, _, _, _, _⟩ :: _) _ _ _; refine awl_pw (wt_none rfl) (pv_len_t T0 rfl rfl rfl) rfl rfl ?_) | refine awl_nil ?_)
  refine awl_hw (wt_none rfl) (aop_make T0 rfl rfl rfl rfl rfl rfl rfl rfl (by omega) rfl ?_)
  intro g5
  repeat (first | refine awp_seq ?_ | refine awp_block ?_ | refine awp_region_lit rfl ?_ | (show AWL _ _ _ (⟨_, .move _, _, _, _, _⟩ :: _) _ _ _; refine awl_pw (wt_none rfl) (pv_move rfl rfl) rfl rfl ?_) | (show AWL _ _ _ (⟨_, .assign _, _, _, _, _⟩ :: _) _ _ _; refine awl_pw (wt_none rfl) (pv_assign rfl rfl) rfl rfl ?_) | (show AWL _ _ _ (⟨_, .call ⟨.builtin .len, _, _⟩, _, _, _, _⟩ :: _) _ _ _; refine awl_pw (wt_none rfl) (pv_len_v T0 rfl rfl rfl) rfl rfl ?_) | refine awl_nil ?_)
  have hz : List.replicate t.length [AV.v (Value.int IntKind.i64 0)] = fRows (fun q => if q < 0 then (q : Int) else 0) t.length := by
    refine List.ext_getElem (by simp [fRows]) fun k h1 h2 => ?_
    simp [fRows, intRow]
  rw [hz]
  clear hz
  refine awp_loop (fun m s h => ∃ (k : Nat), k ≤ t.length ∧ m = t.length - k ∧ s = [(2, .v (ptrV g2)), (3, .v (ptrV g3)), (5, .v (.slice (some ⟨g5, 0, none⟩) t.length t.length)), (14, intA t.length), (15, intA k)] ∧ h = [.rw (.slice (some ⟨g5, 0, none⟩) t.length t.length) 3 1 (fRows (fun q => if q < k then (q : Int) else 0) t.length), .cl g3 25 [.t (intsT cp' t)], .cl g2 34 [.t (ordsT cp p.ords)]]) ?_ ⟨0, Nat.zero_le _, rfl, rfl, rfl⟩ (by first | ((repeat' (first | exact True.intro | refine ⟨rfl, ?_⟩)); all_goals fail) | fail) (by solve | repeat' constructor)
  rintro m s h ⟨k, hk, rfl, rfl, rfl⟩
  by_cases hlt : k < t.length
  · have r1 := fRows_len (fun q => if q < k then (q : Int) else 0) t.length
    have hset := fRows_set (f := fun q => if q < k then (q : Int) else 0) (g := fun q => if q < k + 1 then (q : Int) else 0) (v := (k : Int)) hlt (fun q _ => by
      show (if q < k + 1 then (q : Int) else 0) = if q = k then (k : Int) else if q < k then (q : Int) else 0
      by_cases e : q = k
      · subst e; rw [if_pos (by omega), if_pos rfl]
      · rw [if_neg e]
        by_cases e2 : q < k
        · rw [if_pos e2, if_pos (by omega)]
        · rw [if_neg e2, if_neg (by omega)])
    repeat (first | refine awp_seq ?_ | refine awp_block ?_ | refine awp_region_lit rfl ?_ | refine awp_skip ?_ | refine awp_cond_t rfl (by first | rfl | assumption | exact dT (by omega)) ?_ | (show AWL _ _ _ (⟨_, .move _, _, _, _, _⟩ :: _) _ _ _; refine awl_pw (wt_none rfl) (pv_move rfl rfl) rfl rfl ?_) | (show AWL _ _ _ (⟨_, .assign _, _, _, _, _⟩ :: _) _ _ _; refine awl_pw (wt_none rfl) (pv_assign rfl rfl) rfl rfl ?_) | (show AWL _ _ _ (⟨_, .indexAddr _ _ _, _, _, _, _⟩ :: _) _ _ _; refine awl_pw (wt_none rfl) (pv_ix_own T0 rfl rfl rfl rfl (by omega) (by first | exact (rfl : Int.toNat 0 = 0) | exact Int.toNat_natCast _ | rfl)) rfl rfl ?_) | (show AWL _ _ _ (⟨_, .binOp .lss _ _ _ _, _, _, _, _⟩ :: _) _ _ _; refine awl_pw (wt_none rfl) (pv_lss rfl rfl rfl) rfl rfl ?_) | refine awl_nil ?_)
    refine awl_hw (wt_none rfl) (aop_store_rp T0 rfl rfl rfl rfl rfl rfl rfl rfl (by solve | repeat' constructor) (by first | omega | (simp; omega)) (by omega) rfl trivial ?_)
    simp only [cellsA]
    rw [hset]
    repeat (first | refine awp_region_lit rfl ?_ | (show AWL _ _ _ (⟨_, .move _, _, _, _, _⟩ :: _) _ _ _; refine awl_pw (wt_none rfl) (pv_move rfl rfl) rfl rfl ?_) | (show AWL _ _ _ (⟨_, .binOp .add _ _ _ _, _, _, _, _⟩ :: _) _ _ _; refine awl_pw (wt_none rfl) (pv_add rfl rfl rfl (by first | assumption | exact wr64 (by omega))) rfl rfl ?_) | refine awl_nil ?_)
    refine rnd_n _ _ _ ?_ ⟨k + 1, hlt, rfl, rfl, rfl⟩ (by first | ((repeat' (first | exact True.intro | refine ⟨rfl, ?_⟩)); all_goals fail) | fail) (by solve | repeat' constructor)
    omega
  obtain rfl : k = t.length := by omega
  have hz : fRows (fun q => if q < t.length then (q : Int) else 0) t.length = (natsI (List.range t.length)).map intRow := by
    rw [fRows_eq]
    congr 1
    refine List.map_congr_left fun q hq => ?_
    rw [if_pos (List.mem_range.1 hq)]
  rw [hz]
  clear hz
  repeat (first | refine awp_seq ?_ | refine awp_region_lit rfl ?_ | refine awp_exit ?_ | refine awp_cond_f rfl (by first | rfl | assumption | exact dF (by omega)) ?_ | (show AWL _ _ _ (⟨_, .move _, _, _, _, _⟩ :: _) _ _ _; refine awl_pw (wt_none rfl) (pv_move rfl rfl) rfl rfl ?_) | (show AWL _ _ _ (⟨_, .binOp .lss _ _ _ _, _, _, _, _⟩ :: _) _ _ _; refine awl_pw (wt_none rfl) (pv_lss rfl rfl rfl) rfl rfl ?_) | refine awl_nil ?_)
  refine awl_pw (wt_none rfl) (pv_makeFunc_v (fs := []) (cs := [ptrV g3]) rfl rfl rfl) rfl rfl ?_
  skip
  refine awl_hw (wt_none rfl) (st_acall T0 (sort_p cp' g5 g3 t.length t.length t rfl (by omega) (by omega) (fun a ha => by have h1 := inB_iff.1 (htr a ha); have h2 := hv.min a (by omega); omega)) rfl rfl rfl rfl (by first | exact callee_lit | exact callee_v | exact callee_fn | assumption) (by solve | repeat' constructor) (by first | rfl | assumption) rfl (by first | ((repeat' (first | exact SubH.refl _ | apply SubH.cons | exact Pick.here | apply Pick.there)); all_goals fail) | fail) (fun _ _ => trivial) ?_)
  rintro r h ⟨l, hl1, hl2, hl3, rfl⟩
  simp only [List.cons_append, List.nil_append]
  have hcl : comesN t = l := comes_of_srt hv ht hl1 hl2
  repeat (first | refine awp_seq ?_ | refine awp_region_lit rfl ?_ | (show AWL _ _ _ (⟨_, .load _ _, _, _, _, _⟩ :: _) _ _ _; refine awl_lw (wt_none rfl) (lv_cla T0 rfl rfl rfl (by solve | repeat' constructor) rfl) rfl rfl rfl ?_) | (show AWL _ _ _ (⟨_, .build _ _, _, _, _, _⟩ :: _) _ _ _; refine awl_pw (wt_none rfl) (pv_build T0 rfl rfl rfl (by simp only [Value.cells, List.toList_toArray, List.map_cons, List.map_nil]; rfl) (by first | ((repeat' (first | exact BParts.nil | apply BParts.cons | rfl)); all_goals fail) | fail) (by first | ((repeat' (first | exact FillA.nil | exact Sp.done | apply FillA.cons | apply Sp.put | apply Sp.skip | (simp only [cellsA]; rfl) | rfl)); all_goals fail) | fail)) rfl rfl ?_) | refine awl_nil ?_)
  refine awl_hw (wt_none rfl) (st_alloc T0 rfl rfl rfl rfl (by simp only [Value.cells, List.toList_toArray, List.map_cons, List.map_nil]; rfl) ?_)
  intro g7
  repeat (first | refine awp_seq ?_ | refine awp_block ?_ | refine awp_region_lit rfl ?_ | (show AWL _ _ _ (⟨_, .move _, _, _, _, _⟩ :: _) _ _ _; refine awl_pw (wt_none rfl) (pv_move rfl rfl) rfl rfl ?_) | (show AWL _ _ _ (⟨_, .call ⟨.builtin .len, _, _⟩, _, _, _, _⟩ :: _) _ _ _; refine awl_pw (wt_none rfl) (pv_len_v T0 rfl rfl rfl) rfl rfl ?_) | (show AWL _ _ _ (⟨_, .store _ _ _, _, _, _, _⟩ :: _) _ _ _; refine awl_hw (wt_none rfl) (st_store T0 rfl rfl rfl rfl rfl (by first | assumption | (simp only [cellsA]; rfl)) rfl rfl rfl (by solve | repeat' constructor) (by solve | repeat' constructor) trivial ?_)) | refine awl_nil ?_)
  refine awp_ghost (ghost_nilrow 3 1) ?_
  refine awp_ghost (ghost_freeze_cell (g := g7) (j := 7) (v := .slice none 0 0) (E := 3) (sz := 1) (n := 0) (rows := []) (fun q => [Tr.sc (.int .i64 (([] : List Int).getD q 0))]) (by solve | repeat' constructor) (by solve | repeat' constructor) rfl rfl rfl (fun k hk => absurd hk (Nat.not_lt_zero _))) ?_
  refine awp_ghost (ghost_nilrow 75 4) ?_
  refine awp_ghost (ghost_freeze_cell (g := g7) (j := 8) (v := .slice none 0 0) (E := 75) (sz := 4) (n := 0) (rows := []) (fun q => saleL (([] : List SaleD).getD q default)) (by solve | repeat' constructor) (by solve | repeat' constructor) rfl rfl rfl (fun k hk => absurd hk (Nat.not_lt_zero _))) ?_
  have hnd : l.Nodup := srt_nodup hl1
  have hlt : ∀ i ∈ l, i < p.ords.length := fun i hi => by rw [← htl]; exact (hl2 i).1 hi
  refine awp_loop (fun m s h => ∃ (k : Nat), k ≤ t.length ∧ m = t.length - k ∧ s = [(2, .v (ptrV g2)), (7, .v (ptrV g7)), (28, .v (.slice (some ⟨g5, 0, none⟩) t.length t.length)), (29, intA t.length), (30, intA k)] ∧ h = [.cl g7 125 (floC cp p (runN p (l.take k)).left (.t (intsT true (runN p (l.take k)).came)) (.t (salesT true (runN p (l.take k)).log))), .rw (.slice (some ⟨g5, 0, none⟩) t.length t.length) 3 1 ((natsI l).map intRow)]) ?_ ⟨0, Nat.zero_le _, rfl, rfl, rfl⟩ (by first | ((repeat' (first | exact True.intro | refine ⟨rfl, ?_⟩)); all_goals fail) | fail) (by solve | repeat' constructor)
  rintro m s h ⟨k, hk, rfl, rfl, rfl⟩
  by_cases hkt : k < t.length
  · have r1 := row_at (natsI l) k (by rw [natsI_len]; omega)
    have e1 : (natsI l).getD k 0 = (l.getD k 0 : Nat) := by simp [natsI, List.getD_eq_getElem?_getD, hl3, hkt]
    have hik : l.getD k 0 ∈ l := getD_mem (by omega)
    have htk : l.take (k + 1) = l.take k ++ [l.getD k 0] := by
      rw [List.take_add_one, List.getD_eq_getElem?_getD, List.getElem?_eq_getElem (by omega)]; rfl
    have hst : runN p (l.take (k + 1)) = comeN p (runN p (l.take k)) (l.getD k 0) := by rw [htk, run_snoc]
    have hok := fok_run hv (l := l.take k) (hnd.sublist (List.take_sublist _ _)) (fun i hi => hlt i (List.mem_of_mem_take hi))
    have hni : ((l.getD k 0 : Nat) : Int) ∉ (runN p (l.take k)).came := by
      rw [run_came]
      intro hm
      obtain ⟨j, hj, e⟩ := List.mem_map.1 hm
      have e' : (j : Int) = ((l.getD k 0 : Nat) : Int) := e
      obtain rfl : j = l.getD k 0 := by omega
      have h5 := hnd.sublist (List.take_sublist (k + 1) l)
      rw [htk] at h5
      exact (List.nodup_append.1 h5).2.2 _ hj _ (by simp) rfl
    have hcl := fok_len hv hok
    have hll := hok.log
    rw [e1] at r1
    generalize l.getD k 0 = i at *
    generalize runN p (l.take k) = F at *
    have hrl : ((natsI l).map intRow).length = t.length := by rw [List.length_map, natsI_len]; exact hl3
    repeat (first | refine awp_seq ?_ | refine awp_block ?_ | refine awp_region_lit rfl ?_ | refine awp_skip ?_ | refine awp_cond_t rfl (by first | rfl | assumption | exact dT (by omega)) ?_ | (show AWL _ _ _ (⟨_, .move _, _, _, _, _⟩ :: _) _ _ _; refine awl_pw (wt_none rfl) (pv_move rfl rfl) rfl rfl ?_) | (show AWL _ _ _ (⟨_, .assign _, _, _, _, _⟩ :: _) _ _ _; refine awl_pw (wt_none rfl) (pv_assign rfl rfl) rfl rfl ?_) | (show AWL _ _ _ (⟨_, .load _ _, _, _, _, _⟩ :: _) _ _ _; refine awl_lw (wt_none rfl) (lv_cla T0 rfl rfl rfl (by solve | repeat' constructor) rfl) rfl rfl rfl ?_) | (show AWL _ _ _ (⟨_, .load _ _, _, _, _, _⟩ :: _) _ _ _; refine awl_lw (wt_none rfl) (lv_rp T0 rfl rfl rfl (by solve | repeat' constructor) (by first | omega | (simp; omega)) (by omega) (by first | assumption | rfl)) rfl rfl rfl ?_) | (show AWL _ _ _ (⟨_, .indexAddr _ _ _, _, _, _, _⟩ :: _) _ _ _; refine awl_pw (wt_none rfl) (pv_ix_own T0 rfl rfl rfl rfl (by omega) (by first | exact (rfl : Int.toNat 0 = 0) | exact Int.toNat_natCast _ | rfl)) rfl rfl ?_) | (show AWL _ _ _ (⟨_, .binOp .lss _ _ _ _, _, _, _, _⟩ :: _) _ _ _; refine awl_pw (wt_none rfl) (pv_lss rfl rfl rfl) rfl rfl ?_) | refine awl_nil ?_)
    refine awl_hw (wt_none rfl) (st_call T0 (come_p cp true true p F i hv (hlt i hik) hok.came hni (by omega) (by omega) hok.left) rfl rfl rfl rfl (by first | exact callee_lit | exact callee_v | exact callee_fn | assumption) (by solve | repeat' constructor) (by first | rfl | assumption) rfl ?_)
    rintro _ rfl
    refine awl_hw (wt_none rfl) (st_whole T0 rfl rfl rfl rfl rfl rfl rfl rfl rfl (by solve | repeat' constructor) trivial ?_)
    rw [← hst]
    repeat (first | refine awp_region_lit rfl ?_ | (show AWL _ _ _ (⟨_, .move _, _, _, _, _⟩ :: _) _ _ _; refine awl_pw (wt_none rfl) (pv_move rfl rfl) rfl rfl ?_) | (show AWL _ _ _ (⟨_, .binOp .add _ _ _ _, _, _, _, _⟩ :: _) _ _ _; refine awl_pw (wt_none rfl) (pv_add rfl rfl rfl (by first | assumption | exact wr64 (by omega))) rfl rfl ?_) | refine awl_nil ?_)
    refine rnd_n _ _ _ ?_ ⟨k + 1, hkt, rfl, rfl, rfl⟩ (by first | ((repeat' (first | exact True.intro | refine ⟨rfl, ?_⟩)); all_goals fail) | fail) (by solve | repeat' constructor)
    omega
  obtain rfl : k = t.length := by omega
  rw [show l.take t.length = l from by rw [← hl3]; exact List.take_length]
  repeat (first | refine awp_seq ?_ | refine awp_region_lit rfl ?_ | refine awp_exit ?_ | refine awp_ret ?_ | refine awp_cond_f rfl (by first | rfl | assumption | exact dF (by omega)) ?_ | (show AWL _ _ _ (⟨_, .assign _, _, _, _, _⟩ :: _) _ _ _; refine awl_pw (wt_none rfl) (pv_assign rfl rfl) rfl rfl ?_) | (show AWL _ _ _ (⟨_, .load _ _, _, _, _, _⟩ :: _) _ _ _; refine awl_lw (wt_none rfl) (lv_cl1 T0 rfl rfl rfl (by solve | repeat' constructor) (by first | rfl | assumption)) rfl rfl rfl ?_) | (show AWL _ _ _ (⟨_, .fieldAddr _ _ _, _, _, _, _⟩ :: _) _ _ _; refine awl_pw (wt_none rfl) (pv_fa T0 rfl rfl rfl (by simp; rfl)) rfl rfl ?_) | (show AWL _ _ _ (⟨_, .binOp .lss _ _ _ _, _, _, _, _⟩ :: _) _ _ _; refine awl_pw (wt_none rfl) (pv_lss rfl rfl rfl) rfl rfl ?_) | refine awl_nil ?_)
  refine body_p (.cons rfl .nil) ?_
  unfold playT
  rw [hcl]
  rfl
theorem nil_tree {cp : Bool} {sz : Nat} {f : Nat → List Tr} (w : World) (S : Nat → Prop) : TRel w S (.sl cp sz 0 f) (.slice none 0 0) :=
  .sl (fun _ _ => .int .i64 0) (fun _ => Nat.le_refl _) (fun k hk => absurd hk (Nat.not_lt_zero _)) (fun k hk => absurd hk (Nat.not_lt_zero _)) (fun k j x hk => absurd hk (Nat.not_lt_zero _))
/-- what Play returns -/
def playR (p : PostD) (t : List Int) : List SaleD × Int := if faultN p ≠ 0 then ([], faultN p) else if truthB p t = true then (playT p t, 0) else ([], 2)
theorem fault_rng (p : PostD) : 0 ≤ faultN p ∧ faultN p ≤ 3 := by
  unfold faultN
  split
  · omega
  · split <;> omega
theorem Play_p (cp cp' : Bool) (p : PostD) (t : List Int) (hl : p.ords.length ≤ 1000) (htl : t.length ≤ 1000) : PCall Try.prog 19 [postA cp p, .t (intsT cp' t)] (fun r => r = .tup [.t (salesT true (playR p t).1), intA (playR p t).2]) := by
  refine acall_of_awp T0 Try.func19 rfl rfl rfl ?_
  have hfr := fault_rng p
  unfold playR
  repeat (first | refine awp_seq ?_ | refine awp_region_lit rfl ?_)
  refine awl_hw (wt_none rfl) (st_box rfl rfl (by first | rfl | assumption) (by first | assumption | (simp only [cellsA]; rfl)) rfl rfl ?_)
  intro g2
  repeat (first | refine awp_seq ?_ | refine awp_region_lit rfl ?_ | (show AWL _ _ _ (⟨_, .assign _, _, _, _, _⟩ :: _) _ _ _; refine awl_pw (wt_none rfl) (pv_assign rfl rfl) rfl rfl ?_) | (show AWL _ _ _ (⟨_, .load _ _, _, _, _, _⟩ :: _) _ _ _; refine awl_lw (wt_none rfl) (lv_cla T0 rfl rfl rfl (by solve | repeat' constructor) rfl) rfl rfl rfl ?_) | refine awl_nil ?_)
  refine awl_hw (wt_none rfl) (st_call T0 (check_p cp p hl) rfl rfl rfl rfl (by first | exact callee_lit | exact callee_v | exact callee_fn | assumption) (by solve | repeat' constructor) (by first | rfl | assumption) rfl ?_)
  rintro _ rfl
  by_cases h1 : faultN p = 0
  case neg =>
    have d1 : decide (faultN p ≠ 0) = true := decide_eq_true h1
    rw [if_pos h1]
    repeat (first | refine awp_seq ?_ | refine awp_block ?_ | refine awp_region_lit rfl ?_ | refine awp_ret ?_ | refine then_n ?_ | refine then_r ?_ | refine blk_r ?_ | refine awp_cond_t rfl (by first | rfl | assumption | exact dT (by omega)) ?_ | (show AWL _ _ _ (⟨_, .move _, _, _, _, _⟩ :: _) _ _ _; refine awl_pw (wt_none rfl) (pv_move rfl rfl) rfl rfl ?_) | (show AWL _ _ _ (⟨_, .assign _, _, _, _, _⟩ :: _) _ _ _; refine awl_pw (wt_none rfl) (pv_assign rfl rfl) rfl rfl ?_) | (show AWL _ _ _ (⟨_, .binOp .neq _ _ _ _, _, _, _, _⟩ :: _) _ _ _; refine awl_pw (wt_none rfl) (pv_neq rfl rfl rfl) rfl rfl ?_) | refine awl_nil ?_)
    refine bodyQ_ghost (ghost_none (d := 4) (t := salesT true []) rfl nil_tree) ?_
    exact body_p (.cons rfl (.cons rfl .nil)) rfl
  have d1 : decide (faultN p ≠ 0) = false := decide_eq_false (fun h => h h1)
  rw [if_neg (fun h => h h1)]
  repeat (first | refine awp_seq ?_ | refine awp_block ?_ | refine awp_region_lit rfl ?_ | refine then_n ?_ | refine awp_cond_f rfl (by first | rfl | assumption | exact dF (by omega)) ?_ | (show AWL _ _ _ (⟨_, .move _, _, _, _, _⟩ :: _) _ _ _; refine awl_pw (wt_none rfl) (pv_move rfl rfl) rfl rfl ?_) | (show AWL _ _ _ (⟨_, .assign _, _, _, _, _⟩ :: _) _ _ _; refine awl_pw (wt_none rfl) (pv_assign rfl rfl) rfl rfl ?_) | (show AWL _ _ _ (⟨_, .load _ _, _, _, _, _⟩ :: _) _ _ _; refine awl_lw (wt_none rfl) (lv_cla T0 rfl rfl rfl (by solve | repeat' constructor) rfl) rfl rfl rfl ?_) | (show AWL _ _ _ (⟨_, .binOp .neq _ _ _ _, _, _, _, _⟩ :: _) _ _ _; refine awl_pw (wt_none rfl) (pv_neq rfl rfl rfl) rfl rfl ?_) | refine awl_nil ?_)
  refine awl_hw (wt_none rfl) (st_call T0 (ptruth_p cp cp' p t hl htl) rfl rfl rfl rfl (by first | exact callee_lit | exact callee_v | exact callee_fn | assumption) (by solve | repeat' constructor) (by first | rfl | assumption) rfl ?_)
  rintro _ rfl
  cases h2 : truthB p t
  · repeat (first | refine awp_seq ?_ | refine awp_region_lit rfl ?_ | refine awp_ret ?_ | refine then_n ?_ | refine then_r ?_ | refine blk_r ?_ | refine awp_cond_t rfl (by first | rfl | assumption | exact dT (by omega)) ?_ | (show AWL _ _ _ (⟨_, .assign _, _, _, _, _⟩ :: _) _ _ _; refine awl_pw (wt_none rfl) (pv_assign rfl rfl) rfl rfl ?_) | (show AWL _ _ _ (⟨_, .unOp .not _ _, _, _, _, _⟩ :: _) _ _ _; refine awl_pw (wt_none rfl) (pv_not rfl rfl) rfl rfl ?_) | refine awl_nil ?_)
    refine bodyQ_ghost (ghost_none (d := 4) (t := salesT true []) rfl nil_tree) ?_
    exact body_p (.cons rfl (.cons rfl .nil)) rfl
  · repeat (first | refine awp_seq ?_ | refine awp_region_lit rfl ?_ | refine awp_skip ?_ | refine then_n ?_ | refine awp_cond_f rfl (by first | rfl | assumption | exact dF (by omega)) ?_ | (show AWL _ _ _ (⟨_, .move _, _, _, _, _⟩ :: _) _ _ _; refine awl_pw (wt_none rfl) (pv_move rfl rfl) rfl rfl ?_) | (show AWL _ _ _ (⟨_, .assign _, _, _, _, _⟩ :: _) _ _ _; refine awl_pw (wt_none rfl) (pv_assign rfl rfl) rfl rfl ?_) | (show AWL _ _ _ (⟨_, .load _ _, _, _, _, _⟩ :: _) _ _ _; refine awl_lw (wt_none rfl) (lv_cla T0 rfl rfl rfl (by solve | repeat' constructor) rfl) rfl rfl rfl ?_) | (show AWL _ _ _ (⟨_, .unOp .not _ _, _, _, _, _⟩ :: _) _ _ _; refine awl_pw (wt_none rfl) (pv_not rfl rfl) rfl rfl ?_) | refine awl_nil ?_)
    refine awl_hw (wt_none rfl) (st_call T0 (play_p cp cp' p t (vpost h1) h2) rfl rfl rfl rfl (by first | exact callee_lit | exact callee_v | exact callee_fn | assumption) (by solve | repeat' constructor) (by first | rfl | assumption) rfl ?_)
    rintro _ rfl
    repeat (first | refine awp_ret ?_ | (show AWL _ _ _ (⟨_, .assign _, _, _, _, _⟩ :: _) _ _ _; refine awl_pw (wt_none rfl) (pv_assign rfl rfl) rfl rfl ?_) | refine awl_nil ?_)
    exact body_p (.cons rfl (.cons rfl .nil)) rfl
end Go.Proofs.Yteaoclpikdmkiaa
