/- Appends to lists of any length that memory bears; drawn regions in which any number of operations may come first. -/
import Derived.Test.YtlpknbneilgjkaaGTy
import Derived.Test.YtlpknbneilgjkaaGTy
namespace Go.Tl
open Go Go.RowKit
set_option linter.unusedVariables false
set_option linter.unusedSimpArgs false
section
variable {P : Program} {N : Nat} {o : Oper} {md : Nat → Prop} {s : Slots} {h h1 : List Ent} {K : Slots → List Ent → Prop}
theorem app_coreB (T : TT P) {t e sz bt : Nat} {z : Value} (ht : f2 T.elm t = some (e, sz, bt)) (hz : f2 T.zer e = some z) (hzs : z.cells.size = sz) {w : World} {S : Nat → Prop} {v : Value} {rows news : List (List AV)} {m c : Nat} {ad : Addr} {us : List Value} {ty : TypeId}
    (he : ERel w S (.rw v e sz rows)) (hu : VRels w S news.flatten us) (hl : us.length = m * sz) (hm : news.length = m) (hcell : ∀ j u, us[j]? = some u → w.cell? (ad.add j) = some u) (hone : ∀ u ∈ us, u.oneCell' = true) (hb : rows.length + m ≤ maxLen) (hbytes : (rows.length + m) * bt ≤ 140737488355328) (hr : ∀ r ∈ news, r.length = sz)
    (hS : ∀ b, S b → b < w.heap.size ∧ v.ownBlock ≠ some b) :
    ∃ ad' cap w', (Builtin.append_ #[t, t] ty #[v, .slice (some ad) m c]).run P w = .ok (.slice ad' (rows.length + m) cap) w' ∧ ERel w' S (.rw (.slice ad' (rows.length + m) cap) e sz (rows ++ news)) ∧ w.grownBy w' v.ownBlock ∧
      (∀ g, Value.ownBlock (.slice ad' (rows.length + m) cap) = some g → v.ownBlock = some g ∨ w.heap.size ≤ g) ∧ (0 < m → ∃ g, ad' = some ⟨g, 0, none⟩) := by
  obtain ⟨j, hund, hj, hjs, hjb, hne⟩ := T.elm_at ht
  have h1 := zOk_at T.zerOk hz
  obtain ⟨i, hi, hiz⟩ := Option.map_eq_some_iff.1 h1
  rw [hj] at hi
  simp at hi
  subst hi
  obtain ⟨xs, hown, hxr, hlr⟩ := he
  have h63 : rows.length + m ≤ maxLen := hb
  rcases Nat.eq_zero_or_pos m with h0 | h0
  · subst h0
    have hus : us = [] := List.length_eq_zero_iff.1 (by rw [hl]; simp)
    have hnews : news = [] := List.length_eq_zero_iff.1 hm
    subst hnews
    have hf0 : (Builtin.firstCells sz 0 (.slice (some ad) 0 c)).run P w = .ok #[] w := by simp [Builtin.firstCells, loadCells, loadCellsFrom]
    have hform : ∃ ad' cap, v = .slice ad' rows.length cap ∧ rows.length ≤ cap := by
      rcases hown.2 with ⟨e1, e2⟩ | ⟨g, cap, cur, e1, _, _, e2, _⟩
      · exact ⟨none, 0, by rw [e1, e2], by omega⟩
      · exact ⟨_, cap, e1, e2⟩
    obtain ⟨ad', cap, rfl, hcap⟩ := hform
    refine ⟨ad', cap, w, ?_, by simpa using ⟨xs, hown, hxr, hlr⟩, World.grownBy.refl _ _, fun g hg => .inl hg, fun h => absurd h (by omega)⟩
    have hx : (Builtin.append_ #[t, t] ty #[.slice ad' rows.length cap, .slice (some ad) 0 c]).run P w = .ok (.slice ad' rows.length cap) w := by
      cases ad' <;> simp [Builtin.append_, run_underlying hund, run_sizeOf' hj, hjs, Builtin.lenOf, hcap, hf0, storeCells]
    simpa using hx
  · obtain ⟨g, cap, w', hrun, ho', hg', hat, hlt⟩ := run_append_lies (P := P) w t ty 0 e j z sz bt hund hj hiz hjs hjb hzs (by omega) v rows.length xs hown ad m c us hl hcell hone h0 h63 hbytes (Nat.zero_le _) w.heap.size rfl
    have hkS : ∀ b, S b → w'.heap[b]? = w.heap[b]? := fun b hb => hg'.block b (hS b hb).1 (fun e0 => (hS b hb).2 e0.symm)
    refine ⟨some ⟨g, 0, none⟩, cap, w', hrun, ⟨xs ++ us, by rw [List.length_append, hm]; exact ho', ?_, fun r hr' => ?_⟩, hg', fun g' hg1 => ?_, fun _ => ⟨g, rfl⟩⟩
    · rw [List.flatten_append]
      exact (hxr.append hu).mono (fun _ h => h) hkS
    · rcases List.mem_append.1 hr' with h2 | h2
      · exact hlr r h2
      · exact hr r h2
    · simp [Value.ownBlock] at hg1
      subst hg1
      rcases hat with h2 | h2
      · exact .inl h2
      · exact .inr (by omega)
theorem aop_appendB (T : TT P) {t d e sz bt m c g' : Nat} {z v : Value} {x y : Operand} {rows news : List (List AV)} (ho : o.op = .call { callee := .builtin .append, args := #[x, y], argTypes := #[t, t] }) (hd : o.dst = some d) (hN : d < N)
    (ht : f2 T.elm t = some (e, sz, bt)) (hz : f2 T.zer e = some z) (hzs : z.cells.size = sz) (hx : evA s x = some (.v v)) (hy : evA s y = some (.v (.slice (some ⟨g', 0, none⟩) m c)))
    (hp : Pick h (.rw v e sz rows) h1) (hq : Mem1 (.rw (.slice (some ⟨g', 0, none⟩) m c) e sz news) h) (hm : news.length = m) (hb : rows.length + m ≤ maxLen) (hbytes : (rows.length + m) * bt ≤ 140737488355328) (hone : ∀ r ∈ news, ∀ u ∈ r, oneA u = true) (hmd : ∀ b, v.ownBlock = some b → md b)
    (hK : ∀ ad cap, (0 < m → ∃ g, ad = some ⟨g, 0, none⟩) → K ((d, .v (.slice ad (rows.length + m) cap)) :: s) (.rw (.slice ad (rows.length + m) cap) e sz (rows ++ news) :: h1)) : AOp P N o md s h K := fun B w S a hs Kr Qr hk => by
  have hmem : Ent.rw v e sz rows ∈ h := by obtain ⟨p, q, rfl, _⟩ := hp.split; simp
  obtain ⟨us, hown2, hu, hlu⟩ := hs.heap.ent _ hq.mem
  have hc2 := @World.ownsRow.cells _ _ _ _ _ _ _ hown2
  obtain ⟨ad, cap, w', hrun, he', hg', hblk, hpos⟩ := app_coreB T ht hz hzs (ty := o.type) (hs.heap.ent _ hmem) hu (by rw [← hm]; exact hown2.1) hm (fun j u hj => hc2 rfl j u hj) (fun u hu' => by
      have := ones_rel hu (fun c hc => by
        obtain ⟨r, hr, hcr⟩ := List.mem_flatten.1 hc
        exact hone r hr c hcr)
      exact this u hu') hb hbytes hlu (hs.notS hmem) (c := c)
  have hrun2 : (execOp a.eval o).run P w = .ok (.value (.slice ad (rows.length + m) cap)) w' := by
    simp [execOp, ho, resolve, invoke, builtin, hs.slots.lit hx, hs.slots.lit hy, hrun]
  unfold wpX
  rw [hd] at hk
  rw [hrun2, Oper.uponIn_value, hd]
  exact hk _ _ S _ _ (hK ad cap hpos) ((hs.move hp (.of hg' (fun _ e => e)) he' hblk).put (.v _) hN) ⟨hg'.size, fun b hb hnb => hg'.block b hb (fun e0 => hnb (hmd b e0.symm)), fun _ h => h⟩
theorem aop_append_tB (T : TT P) {t d e sz bt m : Nat} {z v : Value} {x y : Operand} {rows : List (List AV)} {cp : Bool} {f : Nat → List Tr} (ho : o.op = .call { callee := .builtin .append, args := #[x, y], argTypes := #[t, t] }) (hd : o.dst = some d) (hN : d < N)
    (ht : f2 T.elm t = some (e, sz, bt)) (hz : f2 T.zer e = some z) (hzs : z.cells.size = sz) (hx : evA s x = some (.v v)) (hy : evA s y = some (.t (.sl cp sz m f)))
    (hp : Pick h (.rw v e sz rows) h1) (hb : rows.length + m ≤ maxLen) (hbytes : (rows.length + m) * bt ≤ 140737488355328) (hone : ∀ k, k < m → ∀ u ∈ f k, oneA (AV.ofTr u) = true) (hmd : ∀ b, v.ownBlock = some b → md b)
    (hK : ∀ ad cap, (0 < m → ∃ g, ad = some ⟨g, 0, none⟩) → K ((d, .v (.slice ad (rows.length + m) cap)) :: s) (.rw (.slice ad (rows.length + m) cap) e sz (rows ++ (List.range m).map fun k => (f k).map AV.ofTr) :: h1)) : AOp P N o md s h K := fun B w S a hs Kr Qr hk => by
  have hmem : Ent.rw v e sz rows ∈ h := by obtain ⟨p, q, rfl, _⟩ := hp.split; simp
  have hye := hs.slots.eval hy
  generalize hev : a.eval y = u0 at *
  cases hye with
  | t hT =>
    cases hT with
    | @sl _ _ _ _ a0 c val hc hl hh ih =>
      have main : ∃ ad cap w', (Builtin.append_ #[t, t] o.type #[v, .slice a0 m c]).run P w = .ok (.slice ad (rows.length + m) cap) w' ∧ ERel w' S (.rw (.slice ad (rows.length + m) cap) e sz (rows ++ (List.range m).map fun k => (f k).map AV.ofTr)) ∧ w.grownBy w' v.ownBlock ∧
          (∀ g, Value.ownBlock (.slice ad (rows.length + m) cap) = some g → v.ownBlock = some g ∨ w.heap.size ≤ g) ∧ (0 < m → ∃ g, ad = some ⟨g, 0, none⟩) := by
        rcases Nat.eq_zero_or_pos m with h0 | h0
        · subst h0
          obtain ⟨j, hund, hj, hjs, hjb, hne⟩ := T.elm_at ht
          obtain ⟨xs, hown, hxr, hlr⟩ := hs.heap.ent _ hmem
          have hf0 : (Builtin.firstCells sz 0 (.slice a0 0 c)).run P w = .ok #[] w := by cases a0 <;> simp [Builtin.firstCells, loadCells, loadCellsFrom]
          have hform : ∃ ad' cap, v = .slice ad' rows.length cap ∧ rows.length ≤ cap := by
            rcases hown.2 with ⟨e1, e2⟩ | ⟨g, cap, cur, e1, _, _, e2, _⟩
            · exact ⟨none, 0, by rw [e1, e2], by omega⟩
            · exact ⟨_, cap, e1, e2⟩
          obtain ⟨ad', cap, rfl, hcap⟩ := hform
          refine ⟨ad', cap, w, ?_, by simpa using ⟨xs, hown, hxr, hlr⟩, World.grownBy.refl _ _, fun g hg => .inl hg, fun h => absurd h (by omega)⟩
          have hx2 : (Builtin.append_ #[t, t] o.type #[.slice ad' rows.length cap, .slice a0 0 c]).run P w = .ok (.slice ad' rows.length cap) w := by
            cases ad' <;> simp [Builtin.append_, run_underlying hund, run_sizeOf' hj, hjs, Builtin.lenOf, hcap, hf0, storeCells]
          simpa using hx2
        · obtain ⟨b, off, rfl, hb0, _⟩ := hh 0 h0
          have hh' : ∀ k, k < m → ∀ j, j < sz → w.cell? ⟨b, off + k * sz + j, none⟩ = some (val k j) := fun k hk j hj => by
            obtain ⟨b', off', e1, _, h3⟩ := hh k hk
            simp at e1
            obtain ⟨rfl, rfl⟩ := e1
            exact h3 j hj
          have hsz : sz ≠ 0 := by obtain ⟨_, _, _, _, _, hne⟩ := T.elm_at ht; exact hne
          have hU : VRels w S ((List.range m).map fun k => (f k).map AV.ofTr).flatten ((List.range m).map fun k => (List.range sz).map (val k)).flatten := by
            have : ∀ l : List Nat, (∀ k ∈ l, k < m) → VRels w S (l.map fun k => (f k).map AV.ofTr).flatten (l.map fun k => (List.range sz).map (val k)).flatten := by
              intro l
              induction l with
              | nil => intro _; exact .nil
              | cons k l ihl =>
                intro hk
                simp only [List.map_cons, List.flatten_cons]
                refine VRels.append (VRels.ofTr (by simp [hl k (hk k (by simp))]) (fun j x v hx hv => ?_)) (ihl (fun k' h' => hk k' (by simp [h'])))
                rw [List.getElem?_map] at hv
                have hj : j < sz := by rw [← hl k (hk k (by simp))]; exact (List.getElem?_eq_some_iff.1 hx).1
                rw [List.getElem?_range hj] at hv
                simp at hv
                subst hv
                exact ih k j x (hk k (by simp)) hx
            exact this _ (fun k hk => List.mem_range.1 hk)
          have hlen : ((List.range m).map fun k => (List.range sz).map (val k)).flatten.length = m * sz := by
            rw [List.length_flatten]; simp [List.map_const', Function.comp_def]
          refine app_coreB T ht hz hzs (ty := o.type) (c := c) (hs.heap.ent _ hmem) hU hlen (by simp) (fun q u hq => ?_) (fun u hu => ?_) hb hbytes (fun r hr => ?_) (hs.notS hmem)
          · have hqlt : q < m * sz := by rw [← hlen]; exact (List.getElem?_eq_some_iff.1 hq).1
            have hk : q / sz < m := (Nat.div_lt_iff_lt_mul (by omega)).2 hqlt
            have hj : q % sz < sz := Nat.mod_lt _ (by omega)
            have e2 : q = q / sz * sz + q % sz := by rw [Nat.mul_comm]; exact (Nat.div_add_mod q sz).symm
            rw [Addr.add_lit, show off + q = off + q / sz * sz + q % sz by omega, hh' _ hk _ hj]
            have hfl : ∀ (l : List Nat) (i j : Nat), i < l.length → j < sz → (l.map fun k => (List.range sz).map (val k)).flatten[i * sz + j]? = some (val (l.getD i 0) j) := by
              intro l
              induction l with
              | nil => intro i j hi; simp at hi
              | cons k l ihl =>
                intro i j hi hj
                cases i with
                | zero => simp [List.getElem?_append, hj]
                | succ i =>
                  have e3 : (i + 1) * sz + j = sz + (i * sz + j) := by rw [Nat.add_mul]; omega
                  simp only [List.map_cons, List.flatten_cons]
                  rw [e3, List.getElem?_append_right (by simp)]
                  simp only [List.length_map, List.length_range, Nat.add_sub_cancel_left]
                  rw [ihl i j (by simpa using hi) hj]
                  simp
            rw [e2, hfl _ _ _ (by simpa using hk) hj] at hq
            rw [← hq]
            simp [List.getD_eq_getElem?_getD, hk]
          · have := ones_rel hU (fun cc hcc => by
              obtain ⟨r, hr, hcr⟩ := List.mem_flatten.1 hcc
              obtain ⟨k, hk, rfl⟩ := List.mem_map.1 hr
              obtain ⟨x, hx', rfl⟩ := List.mem_map.1 hcr
              exact hone k (List.mem_range.1 hk) x hx')
            exact this u hu
          · obtain ⟨k, hk, rfl⟩ := List.mem_map.1 hr
            simp [hl k (List.mem_range.1 hk)]
      obtain ⟨ad, cap, w', hrun, he', hg', hblk, hpos⟩ := main
      have hrun2 : (execOp a.eval o).run P w = .ok (.value (.slice ad (rows.length + m) cap)) w' := by
        simp [execOp, ho, resolve, invoke, builtin, hs.slots.lit hx, hev, hrun]
      unfold wpX
      rw [hd] at hk
      rw [hrun2, Oper.uponIn_value, hd]
      exact hk _ _ S _ _ (hK ad cap hpos) ((hs.move hp (.of hg' (fun _ e => e)) he' hblk).put (.v _) hN) ⟨hg'.size, fun b hb hnb => hg'.block b hb (fun e0 => hnb (hmd b e0.symm)), fun _ h => h⟩
theorem st_appB (T : TT P) {t d e sz bt m c g' n : Nat} {z v : Value} {x y : Operand} {rows news : List (List AV)} (ho : o.op = .call { callee := .builtin .append, args := #[x, y], argTypes := #[t, t] }) (hd : o.dst = some d) (hN : Nat.blt d N = true)
    (ht : f2 T.elm t = some (e, sz, bt)) (hz : f2 T.zer e = some z) (hzs : z.cells.size = sz) (hx : evA s x = some (.v v)) (hy : evA s y = some (.v (.slice (some ⟨g', 0, none⟩) m c)))
    (hp : Pick h (.rw v e sz rows) h1) (hq : Mem1 (.rw (.slice (some ⟨g', 0, none⟩) m c) e sz news) h) (hm : Nat.beq news.length m = true) (hone : (news.flatten).all oneA = true) (hrl : rows.length = n) (hb : n + m ≤ maxLen) (hbytes : (n + m) * bt ≤ 140737488355328) (hmd : ∀ b, v.ownBlock = some b → md b)
    (hK : ∀ ad cap, (0 < m → ∃ g, ad = some ⟨g, 0, none⟩) → K ((d, .v (.slice ad (n + m) cap)) :: s) (.rw (.slice ad (n + m) cap) e sz (rows ++ news) :: h1)) : AOp P N o md s h K := by
  subst hrl
  exact aop_appendB T ho hd (blt_lt hN) ht hz hzs hx hy hp hq (Nat.eq_of_beq_eq_true hm) hb hbytes (fun r hr u hu => List.all_eq_true.1 hone u (List.mem_flatten.2 ⟨r, hr, hu⟩)) hmd hK
theorem st_apptB (T : TT P) {t d e sz bt m n : Nat} {z v : Value} {x y : Operand} {rows news : List (List AV)} {cp : Bool} {f : Nat → List Tr} (ho : o.op = .call { callee := .builtin .append, args := #[x, y], argTypes := #[t, t] }) (hd : o.dst = some d) (hN : Nat.blt d N = true)
    (ht : f2 T.elm t = some (e, sz, bt)) (hz : f2 T.zer e = some z) (hzs : z.cells.size = sz) (hx : evA s x = some (.v v)) (hy : evA s y = some (.t (.sl cp sz m f)))
    (hp : Pick h (.rw v e sz rows) h1) (hone : ∀ k, k < m → ∀ u ∈ f k, oneA (AV.ofTr u) = true) (hrl : rows.length = n) (hb : n + m ≤ maxLen) (hbytes : (n + m) * bt ≤ 140737488355328) (hmd : ∀ b, v.ownBlock = some b → md b) (hnews : ((List.range m).map fun k => (f k).map AV.ofTr) = news)
    (hK : ∀ ad cap, (0 < m → ∃ g, ad = some ⟨g, 0, none⟩) → K ((d, .v (.slice ad (n + m) cap)) :: s) (.rw (.slice ad (n + m) cap) e sz (rows ++ news) :: h1)) : AOp P N o md s h K := by
  subst hrl
  subst hnews
  exact aop_append_tB T ho hd (blt_lt hN) ht hz hzs hx hy hp hb hbytes hone hmd hK
theorem st_appB_o (T : TT P) {t d e sz bt m c g' n : Nat} {z v : Value} {x y : Operand} {rows news : List (List AV)} (ho : o.op = .call { callee := .builtin .append, args := #[x, y], argTypes := #[t, t] }) (hd : o.dst = some d) (hN : Nat.blt d N = true)
    (ht : f2 T.elm t = some (e, sz, bt)) (hz : f2 T.zer e = some z) (hzs : z.cells.size = sz) (hx : evA s x = some (.v v)) (hy : evA s y = some (.v (.slice (some ⟨g', 0, none⟩) m c)))
    (hp : Pick h (.rw v e sz rows) h1) (hq : Mem1 (.rw (.slice (some ⟨g', 0, none⟩) m c) e sz news) h) (hm : Nat.beq news.length m = true) (hone : (news.flatten).all oneA = true) (hrl : rows.length = n) (hb : n + m ≤ maxLen) (hbytes : (n + m) * bt ≤ 140737488355328)
    (hK : ∀ ad cap, (0 < m → ∃ g, ad = some ⟨g, 0, none⟩) → K ((d, .v (.slice ad (n + m) cap)) :: s) (.rw (.slice ad (n + m) cap) e sz (rows ++ news) :: h1)) : AOp P N o (Own [.rw v e sz rows]) s h K := by
  subst hrl
  exact aop_appendB T ho hd (blt_lt hN) ht hz hzs hx hy hp hq (Nat.eq_of_beq_eq_true hm) hb hbytes (fun r hr u hu => List.all_eq_true.1 hone u (List.mem_flatten.2 ⟨r, hr, hu⟩)) own_rw hK
theorem st_apptB_o (T : TT P) {t d e sz bt m n : Nat} {z v : Value} {x y : Operand} {rows news : List (List AV)} {cp : Bool} {f : Nat → List Tr} (ho : o.op = .call { callee := .builtin .append, args := #[x, y], argTypes := #[t, t] }) (hd : o.dst = some d) (hN : Nat.blt d N = true)
    (ht : f2 T.elm t = some (e, sz, bt)) (hz : f2 T.zer e = some z) (hzs : z.cells.size = sz) (hx : evA s x = some (.v v)) (hy : evA s y = some (.t (.sl cp sz m f)))
    (hp : Pick h (.rw v e sz rows) h1) (hone : ∀ k, k < m → ∀ u ∈ f k, oneA (AV.ofTr u) = true) (hrl : rows.length = n) (hb : n + m ≤ maxLen) (hbytes : (n + m) * bt ≤ 140737488355328) (hnews : ((List.range m).map fun k => (f k).map AV.ofTr) = news)
    (hK : ∀ ad cap, (0 < m → ∃ g, ad = some ⟨g, 0, none⟩) → K ((d, .v (.slice ad (n + m) cap)) :: s) (.rw (.slice ad (n + m) cap) e sz (rows ++ news) :: h1)) : AOp P N o (Own [.rw v e sz rows]) s h K := by
  subst hrl
  subst hnews
  exact aop_append_tB T ho hd (blt_lt hN) ht hz hzs hx hy hp hb hbytes hone own_rw hK
end
/-- an operation (its kind as in a tree) and what follows; or what may come first otherwise -/
inductive PC where
  | stop
  | op (i k : Nat) (r : PC)
  | alt (a b : PC)
open Go.Proofs.Ytlpknbneilgjkaa
section
variable {P : Program} {ops : Array Oper} {Q : Exit → Act → World → Prop} {md : Region.Mode} {S : World → Prop} {ro : Option Nat}
def wpC (P : Program) (ops : Array Oper) (Q : Exit → Act → World → Prop) (S : World → Prop) : PC → Act → World → Prop
  | .stop, a, w => Q .normal a w
  | .op i 0 r, a, w => ∃ o v, ops[i]? = some o ∧ YieldsIf P ops (fun _ => True) o v a ∧ wpC P ops Q S r (a.put o.dst v) w
  | .op i 1 r, a, w => ∃ o v, ops[i]? = some o ∧ YieldsIf P ops S o v a ∧ wpC P ops Q S r (a.put o.dst v) w
  | .op i _ r, a, w => wpOX P ops Q i (fun a' w' => S w' ∧ wpC P ops Q S r a' w') a w
  | .alt a b, x, w => wpC P ops Q S a x w ∧ wpC P ops Q S b x w
def szC : PC → Nat
  | .stop => 1
  | .op _ _ r => szC r + 1
  | .alt a b => szC a + szC b + 1
def headsC : PC → List Nat
  | .stop => []
  | .op i k _ => if k = 2 then [i] else []
  | .alt a b => headsC a ++ headsC b
/-- br: within a choice -/
def okC (md : Region.Mode) (ops : Array Oper) : PC → Bool → Nat → Array Bool → Bool
  | .stop, br, n, listed => !br && (n == 0) && (Region.ready md ops listed).isEmpty
  | .op i 0 r, br, n + 1, listed => !br && (Region.ready md ops listed).contains i && Region.free md ops listed i && okC md ops r false n (listed.setIfInBounds i true)
  | .op i 1 r, br, n + 1, listed => !br && (Region.ready md ops listed).contains i && Region.free md ops listed i && okC md ops r false n (listed.setIfInBounds i true)
  | .op i 2 r, br, n + 1, listed => (br || (Region.ready md ops listed == [i])) && okC md ops r false n (listed.setIfInBounds i true)
  | .alt a b, br, n, listed => (br || (!(Region.ready md ops listed).isEmpty && (Region.ready md ops listed).all (fun i => (headsC a ++ headsC b).contains i))) && okC md ops a true n listed && okC md ops b true n listed
  | _, _, _, _ => false
/-- what a choice asks -/
theorem altC (hs : Region.noSelect ops = true) : ∀ (t : PC) (n : Nat) (listed : Array Bool) (a : Act) (w : World), okC md ops t true (n + 1) listed = true → wpC P ops Q S t a w →
    ∀ i ∈ headsC t, ∃ r, okC md ops r false n (listed.setIfInBounds i true) = true ∧ wpOX P ops Q i (fun a' w' => S w' ∧ wpC P ops Q S r a' w') a w ∧ szC r < szC t := by
  intro t
  induction t with
  | stop => intro n listed a w hok; simp [okC] at hok
  | op i k r ih =>
    intro n listed a w hok h j hj
    match k with
    | 0 => simp [okC] at hok
    | 1 => simp [okC] at hok
    | 2 =>
      simp [headsC] at hj
      subst hj
      simp only [okC, Bool.true_or, Bool.true_and] at hok
      exact ⟨r, hok, h, by simp only [szC]; omega⟩
    | k + 3 => simp [okC] at hok
  | alt x y ihx ihy =>
    intro n listed a w hok h j hj
    simp only [okC, Bool.true_or, Bool.true_and, Bool.and_eq_true] at hok
    rcases List.mem_append.1 hj with hj | hj
    · obtain ⟨r, h1, h2, h3⟩ := ihx n listed a w hok.1 h.1 j hj
      exact ⟨r, h1, h2, by simp only [szC]; omega⟩
    · obtain ⟨r, h1, h2, h3⟩ := ihy n listed a w hok.2 h.2 j hj
      exact ⟨r, h1, h2, by simp only [szC]; omega⟩
theorem wpAX_of_C (hs : Region.noSelect ops = true) (hQ : ∀ c a d v w, Q (.panic c) (a.put d v) w → Q (.panic c) a w) : ∀ (m : Nat) (t : PC), szC t ≤ m → ∀ (n : Nat) (listed : Array Bool) (a : Act) (w : World), okC md ops t false n listed = true → Closed md ops listed → S w →
      wpC P ops Q S t a w → wpAX P md ops Q S (fun _ => true) n listed a w := by
  intro m
  induction m with
  | zero => intro t ht; cases t <;> simp only [szC] at ht <;> omega
  | succ m ih =>
    intro t ht n listed a w hok hcl hS h
    match t, n with
    | .stop, n =>
      simp only [okC, Bool.and_eq_true, beq_iff_eq, List.isEmpty_iff] at hok
      obtain ⟨⟨_, rfl⟩, hr⟩ := hok
      exact ⟨hr, h⟩
    | .op i k r, 0 =>
      match k with
      | 0 => simp [okC] at hok
      | 1 => simp [okC] at hok
      | 2 => simp [okC] at hok
      | k + 3 => simp [okC] at hok
    | .op i k r, n + 1 =>
      have hr : szC r ≤ m := by simp only [szC] at ht; omega
      match k with
      | 0 =>
        simp only [okC, Bool.and_eq_true] at hok
        obtain ⟨o, v, ho, hy, hk⟩ := h
        refine wpAX_first (T := fun _ => True) ho (Region.noSelect_spec hs) hQ (fun _ _ _ _ _ _ _ _ _ _ => trivial) n listed a w hcl (Region.free_spec ho hok.1.2) (by simpa using hok.1.1.2) hy trivial ?_
        exact ih r hr n _ _ w hok.2 (hcl.set (by simpa using hok.1.1.2)) hS hk
      | 1 =>
        simp only [okC, Bool.and_eq_true] at hok
        obtain ⟨o, v, ho, hy, hk⟩ := h
        refine wpAX_first (T := S) ho (Region.noSelect_spec hs) hQ (fun _ _ _ _ _ _ _ _ hSw hk => hk rfl hSw) n listed a w hcl (Region.free_spec ho hok.1.2) (by simpa using hok.1.1.2) hy hS ?_
        exact ih r hr n _ _ w hok.2 (hcl.set (by simpa using hok.1.1.2)) hS hk
      | 2 =>
        simp only [okC, Bool.false_or, Bool.and_eq_true, beq_iff_eq] at hok
        have hrd := hok.1
        refine ⟨fun h0 => (by rw [hrd] at h0; cases h0), fun j hj => ?_⟩
        have hj' := hj
        rw [hrd, List.mem_singleton] at hj'
        subst hj'
        exact wpOX_mono (fun a' w' h' => ⟨fun _ _ => h'.1, ih r hr n _ _ w' hok.2 (hcl.set hj) h'.1 h'.2⟩) h
      | k + 3 => simp [okC] at hok
    | .alt x y, 0 =>
      exfalso
      simp only [okC, Bool.and_eq_true] at hok
      have key : ∀ z : PC, okC md ops z true 0 listed = true → False := fun z => by
        induction z with
        | stop => intro h; simp [okC] at h
        | op i k r _ =>
          intro h
          match k with
          | 0 => simp [okC] at h
          | 1 => simp [okC] at h
          | 2 => simp [okC] at h
          | k + 3 => simp [okC] at h
        | alt p q ihp _ =>
          intro h
          simp only [okC, Bool.and_eq_true] at h
          exact ihp h.1.2
      exact key x hok.1.2
    | .alt x y, n + 1 =>
      have hok' : okC md ops (.alt x y) true (n + 1) listed = true := by
        simp only [okC, Bool.and_eq_true] at hok ⊢
        exact ⟨⟨by simp, hok.1.2⟩, hok.2⟩
      have hhd : ∀ i ∈ Region.ready md ops listed, i ∈ headsC (.alt x y) := fun i hi => by
        simp only [okC, Bool.false_or, Bool.and_eq_true, List.all_eq_true] at hok
        exact List.contains_iff_mem.1 (hok.1.1.2 i hi)
      have hA := altC (P := P) (Q := Q) (S := S) hs (.alt x y) n listed a w hok' h
      refine ⟨fun h0 => ?_, fun j hj => ?_⟩
      · exfalso
        simp only [okC, Bool.false_or, Bool.and_eq_true] at hok
        have := hok.1.1.1
        rw [h0] at this
        cases this
      · obtain ⟨r, h1, h2, h3⟩ := hA j (hhd j hj)
        exact wpOX_mono (fun a' w' h' => ⟨fun _ _ => h'.1, ih r (by simp only [szC] at ht h3; omega) n _ _ w' h1 (hcl.set hj) h'.1 h'.2⟩) h2
end
def AWC (P : Program) (N : Nat) (ops : Array Oper) (so : Slots) (ks : List Ent) (t : PC) (Q : Exit → Slots → List Ent → Prop) (s : Slots) (h : List Ent) : Prop :=
  ∀ (B : Base) (w0 : World) (S0 : Nat → Prop) (w : World) (S : Nat → Prop) (a : Act), Sim B N w S s h a → SRel w0 S0 so a.tmps → HRel w0 S0 ks → (∀ b, S0 b → b < w0.heap.size) → w0.heap.size ≤ w.heap.size → (∀ b, S0 b → S b) →
    (∀ b, Kept S0 ks b → w.heap[b]? = w0.heap[b]?) → wpC P ops (postR B N Q) (fun w' => ∀ b, Kept S0 ks b → w'.heap[b]? = w0.heap[b]?) t a w
section
variable {P : Program} {N : Nat} {ops : Array Oper} {so s : Slots} {ks h : List Ent} {Q : Exit → Slots → List Ent → Prop} {r : PC} {i d : Nat} {o : Oper}
theorem awc_end (H : Q .normal s h) : AWC P N ops so ks .stop Q s h := fun B w0 S0 w S a hs _ _ _ _ _ _ => ⟨rfl, S, s, h, H, hs⟩
theorem awc_po {y : AV} (ho : ops[i]? = some o) (hw : Wt ops o s) (H : PV P o so y) (hd : o.dst = some d) (hN : Nat.blt d N = true) (K : AWC P N ops ((d, y) :: so) ks r Q ((d, y) :: s) h) : AWC P N ops so ks (.op i 0 r) Q s h := fun B w0 S0 w S a hs hso hks hl hsz hS hk => by
  obtain ⟨v, hrun, hv⟩ := H w0 S0 a hso
  have hv' := hv.mono hS (fun b hb => hk b (.inl hb))
  refine ⟨o, v, ho, .inl ⟨hw.wanted hs.slots, fun w' _ => hrun w'⟩, ?_⟩
  rw [hd]
  exact K B w0 S0 w S _ (hs.put hv' (blt_lt hN)) (hso.put hv (by rw [hs.size]; exact blt_lt hN)) hks hl hsz hS hk
theorem awc_pn {y : AV} {so' : Slots} (ho : ops[i]? = some o) (hw : Wt ops o s) (H : PV P o s y) (hd : o.dst = some d) (hN : Nat.blt d N = true) (hso' : ∀ e x, look so' e = some x → look so e = some x) (hn : look so' d = none) (K : AWC P N ops so' ks r Q ((d, y) :: s) h) : AWC P N ops so ks (.op i 0 r) Q s h := fun B w0 S0 w S a hs hso hks hl hsz hS hk => by
  obtain ⟨v, hrun, hv⟩ := H w S a hs.slots
  refine ⟨o, v, ho, .inl ⟨hw.wanted hs.slots, fun w' _ => hrun w'⟩, ?_⟩
  rw [hd]
  have hso2 : SRel w0 S0 so' a.tmps := fun e x hx => hso e x (hso' e x hx)
  exact K B w0 S0 w S _ (hs.put hv (blt_lt hN)) (hso2.put0 (fun d' e => by cases e; exact hn)) hks hl hsz hS hk
theorem awc_n1 {y : AV} (ho : ops[i]? = some o) (hw : Wt ops o s) (H : PV P o s y) (hd : o.dst = some d) (hN : Nat.blt d N = true) (hn : look so d = none) (K : AWC P N ops so ks r Q ((d, y) :: s) h) : AWC P N ops so ks (.op i 0 r) Q s h := awc_pn ho hw H hd hN (fun _ _ h => h) hn K
theorem awc_n2 {y : AV} (ho : ops[i]? = some o) (hw : Wt ops o s) (H : PV P o s y) (hd : o.dst = some d) (hN : Nat.blt d N = true) (K : AWC P N ops [] ks r Q ((d, y) :: s) h) : AWC P N ops so ks (.op i 0 r) Q s h := awc_pn (so' := []) ho hw H hd hN (fun _ _ h => by cases h) rfl K
theorem awc_lo {y y' : AV} {e : Option Ent} (ho : ops[i]? = some o) (hw : Wt ops o s) (H : LV P o so ks e y) (hy : y = y') (hd : o.dst = some d) (hN : Nat.blt d N = true) (K : AWC P N ops ((d, y') :: so) ks r Q ((d, y') :: s) h) : AWC P N ops so ks (.op i 1 r) Q s h := fun B w0 S0 w S a hs hso hks hl hsz hS hk => by
  subst hy
  obtain ⟨v, b, hrun, hv, hb⟩ := H w0 S0 a hso hks
  have hkb : Kept S0 ks b := by
    rcases hb with h1 | ⟨e0, _, h2, h3⟩
    · exact .inl h1
    · exact .inr ⟨e0, h2, h3⟩
  have hv' := hv.mono hS (fun b hb => hk b (.inl hb))
  refine ⟨o, v, ho, .inl ⟨hw.wanted hs.slots, fun w' hw' => hrun w' (hw' b hkb)⟩, ?_⟩
  rw [hd]
  exact K B w0 S0 w S _ (hs.put hv' (blt_lt hN)) (hso.put hv (by rw [hs.size]; exact blt_lt hN)) hks hl hsz hS hk
theorem awc_h {hm : List Ent} (ho : ops[i]? = some o) (hw : Wt ops o s) (hsub : SubH (hm ++ ks) h) (hn : (match o.dst with | some d => look so d | none => none) = none) (H : AOp P N o (Own hm) s h (fun s' h' => AWC P N ops so ks r Q s' h')) : AWC P N ops so ks (.op i 2 r) Q s h := fun B w0 S0 w S a hs hso hks hl hsz hS hk => by
  have hr := hsub.heap hs.heap
  have hkeep : ∀ b, Kept S0 ks b → b < w.heap.size ∧ ¬ Own hm b := fun b hb => by
    rcases hb with h1 | ⟨e, he, h1⟩
    · exact ⟨hs.lt b (hS b h1), fun ⟨e, he, h2⟩ => hr.off e (List.mem_append_left _ he) b h2 (hS b h1)⟩
    · exact ⟨(hr.ent e (List.mem_append_right _ he)).lt b h1, fun ⟨e', he', h2⟩ => (List.pairwise_append.1 hr.sep).2.2 e' he' e he b h2 h1⟩
  refine wpOX_of_if ho ?_
  rw [if_pos (hw.wanted hs.slots)]
  refine H B w S a hs _ _ (fun v w' S' s' h' hK hs' hu => ?_)
  have hk' : ∀ b, Kept S0 ks b → w'.heap[b]? = w0.heap[b]? := fun b hb => (hu.keep b (hkeep b hb).1 (hkeep b hb).2).trans (hk b hb)
  refine ⟨hk', hK B w0 S0 w' S' _ hs' (hso.put0 (fun d e => ?_)) hks hl (Nat.le_trans hsz hu.size) (fun b hb => hu.stab b (hS b hb)) hk'⟩
  rw [e] at hn
  exact hn
theorem awc_alt {p q : PC} (H1 : AWC P N ops so ks p Q s h) (H2 : AWC P N ops so ks q Q s h) : AWC P N ops so ks (.alt p q) Q s h := fun B w0 S0 w S a hs hso hks hl hsz hS hk => ⟨H1 B w0 S0 w S a hs hso hks hl hsz hS hk, H2 B w0 S0 w S a hs hso hks hl hsz hS hk⟩
theorem wpIn_C (S : World → Prop) (t : PC) {id : Nat} {a : Act} {w : World} {Q : Exit → Act → World → Prop} {ro : Option Nat} (hm : P.follows .mixedOrders = true) (hs : Region.noSelect ops = true) (hok : okC .any ops t false ops.size (Array.replicate ops.size false) = true) (hn : ops.toList.all ndO = true)
    (hQ : ∀ c a d v w, Q (.panic c) (a.put d v) w → Q (.panic c) a w) (hS : S w.drew) (h : wpC P ops Q S t a w.drew) : (Code.region id ops true).wpIn (FR ro) 0 P Q a w :=
  wpIn_region_any hm (wpAX.anyIn hn _ _ _ _ (wpAX_of_C (P := P) (Q := Q) (S := S) hs hQ (szC t) t (Nat.le_refl _) _ _ a w.drew hok Closed.start hS h))
theorem awp_C (T : TT P) {ro : Option Nat} {id : Nat} (t : PC) (ks : List Ent) (hn : ops.toList.all ndO = true) (hs0 : Region.noSelect ops = true) (hok : okC .any ops t false ops.size (Array.replicate ops.size false) = true) (hks : SubH ks h) (H : AWC P N ops s ks t Q s h) : AWP P N ro (.region id ops true) Q s h := fun B w S a hs => by
  have hd := hs.drew
  refine Code.wpIn_mono postR_post (wpIn_C (fun w' => ∀ b, Kept S ks b → w'.heap[b]? = w.drew.heap[b]?) t T.mixed hs0 hok hn (fun _ _ _ _ _ h => (by cases h.1)) (fun _ _ => rfl) ?_)
  exact H B w.drew S w.drew S a hd hd.slots (hks.heap hd.heap) hd.lt (Nat.le_refl _) (fun _ h => h) (fun _ _ => rfl)
end
end Go.Tl
