/- A map that is frozen: it is read, and gone through in any order. -/
import Derived.Test.YteaoclpikdmkiaaMpf
import Derived.Test.YteaoclpikdmkiaaBas
import Derived.Maps.RangeRun
namespace Go.Tl
open Go Go.RowKit
set_option linter.unusedVariables false
set_option linter.unusedSimpArgs false
section
variable {κ : Type} [DecidableEq κ]
/-- what is known of a map's block -/
structure MapAt (kv : κ → Value) (z : AV) (f : κ → AV) (w : World) (S : Nat → Prop) (g : Nat) (es : Array MapEntry) (clock : Nat) (l : List (κ × AV)) : Prop where
  heap : w.heap[g]? = some (.map es clock)
  rel : GRel w S kv l es.toList
  fn : ∀ k, (lookG l k).getD z = f k
  borns : Borns es.toList clock
theorem MapAt.mono {kv : κ → Value} {z : AV} {f : κ → AV} {w w' : World} {S S' : Nat → Prop} {g : Nat} {es : Array MapEntry} {clock : Nat} {l : List (κ × AV)} (H : MapAt kv z f w S g es clock l) (hS : ∀ b, S b → S' b) (hw : ∀ b, S b → w'.heap[b]? = w.heap[b]?) (hg : w'.heap[g]? = w.heap[g]?) : MapAt kv z f w' S' g es clock l :=
  ⟨hg.trans H.heap, H.rel.mono hS hw, H.fn, H.borns⟩
/-- a map that nobody writes any more -/
def mapZO (kv : κ → Value) (z : AV) (g : Nat) (f : κ → AV) : Ob where
  fp := fun _ => False
  Φ := fun w S => S g ∧ ∃ es clock l, MapAt kv z f w S g es clock l
  lt := fun _ b hb => hb.elim
  keep := fun ⟨hS, es, c, l, H⟩ _ _ _ _ hSS hw _ => ⟨hSS g hS, es, c, l, H.mono hSS hw (hw g hS)⟩
abbrev mapZ (kv : κ → Value) (z : AV) (g : Nat) (f : κ → AV) : Ent := .ob (mapZO kv z g f)
/-- one that goes through it: at most m entries are left, those that were handed out have keys of R, the last one has the key cur -/
def itO (kv : κ → Value) (z : AV) (g gi : Nat) (f : κ → AV) (m : Nat) (R : List κ) (cur : Option κ) : Ob where
  fp := fun b => b = gi
  Φ := fun w S => S g ∧ ∃ es clock l seen, MapAt kv z f w S g es clock l ∧ w.heap[gi]? = some (.mapIter (some g) clock seen clock) ∧ (leftOf es seen).size ≤ m ∧ (∀ e ∈ es.toList, seen.contains e.born = true → ∃ k ∈ R, e.key = kv k) ∧ ∀ k, cur = some k → ∃ e ∈ es.toList, e.key = kv k ∧ ∃ s0 : Array Nat, seen = s0.push e.born
  lt := fun ⟨_, es, c, l, seen, _, h, _⟩ b hb => by rw [hb]; exact (Array.getElem?_eq_some_iff.1 h).1
  keep := fun ⟨hS, es, c, l, seen, H, h, hrest⟩ _ _ _ _ hSS hw hg => ⟨hSS g hS, es, c, l, seen, H.mono hSS hw (hw g hS), (hg gi rfl).trans h, hrest⟩
abbrev itE (kv : κ → Value) (z : AV) (g gi : Nat) (f : κ → AV) (m : Nat) (R : List κ) (cur : Option κ) : Ent := .ob (itO kv z g gi f m R cur)
variable {P : Program} {mt : TypeId} {N : Nat} {o : Oper} {md : Nat → Prop} {s : Slots} {h : List Ent} {K : Slots → List Ent → Prop}
theorem lv_lookupZ (M : MG P mt κ) {m x : Operand} {g : Nat} {k : κ} {kA : AV} {f : κ → AV} {y : AV} (ho : o.op = .lookup mt m x false) (hm : evA s m = some (.v (.map (some g)))) (hk : evA s x = some kA) (hka : M.ka k = kA) (hmem : Mem1 (mapZ M.kv M.zA g f) h)
    (hy : f k = y) : LV P o s h none y := fun w S a hs hh => by
  subst hy hka
  obtain ⟨hSg, es, clock, l, hg, hr, hf', _⟩ := hh.ent _ hmem.mem
  have hkv := M.inv _ _ _ _ (hs.eval hk)
  have hf := fun w => M.find k _ _ w hr.keys
  have hfk := hf' k
  rcases findsG hr k 0 with ⟨h1, _, h3⟩ | ⟨i, e, y1, h1, h2, h3, h4, h5, _⟩
  · refine ⟨M.z, g, fun w' hw' => ?_, ?_, .inl hSg⟩
    · rw [hg] at hw'
      have hc := fun e w => M.chk e k w
      simp [execOp, ho, hs.lit hm, hkv, Instr.lookup, run_underlying M.hm, MapKept.run_getObj_map hw', hc, hf, h3, M.hz, Result.andThen]
    · rw [← hfk, h1]
      exact M.hzA w S
  · refine ⟨e.val, g, fun w' hw' => ?_, ?_, .inl hSg⟩
    · rw [hg] at hw'
      have hc := fun e w => M.chk e k w
      simp [execOp, ho, hs.lit hm, hkv, Instr.lookup, run_underlying M.hm, MapKept.run_getObj_map hw', hc, hf, h5, Result.andThen]
    · rw [← hfk, h1]
      exact h4
omit [DecidableEq κ] in
theorem cons_sim {B : Base} {w : World} {S : Nat → Prop} {a : Act} {q : Ob} (hs : Sim B N w S s h a) (hq : q.Φ w S) (hn : ∀ b, ¬ q.fp b) : Sim B N w S s (.ob q :: h) a :=
  ⟨hs.ext, hs.defs.imp fun rs ⟨e, hnd, hr⟩ => ⟨e, hnd, fun r hrs => ⟨(hr r hrs).1, (hr r hrs).2.1, (hr r hrs).2.2.1, fun e he => by
      rcases List.mem_cons.1 he with rfl | he
      · exact hn r
      · exact (hr r hrs).2.2.2 e he⟩⟩, hs.size, hs.slots, hs.lt, ⟨fun e he => by
      rcases List.mem_cons.1 he with rfl | he
      · exact hq
      · exact hs.heap.ent e he, fun e he g hg => by
      rcases List.mem_cons.1 he with rfl | he
      · exact absurd hg (hn g)
      · exact hs.heap.off e he g hg, List.pairwise_cons.2 ⟨fun e he g hg => absurd hg (hn g), hs.heap.sep⟩⟩, fun e he g hg => by
      rcases List.mem_cons.1 he with rfl | he
      · exact absurd hg (hn g)
      · exact hs.live e he g hg, hs.off⟩
theorem ghost_freezeMap {kv : κ → Value} {z : AV} {g : Nat} {f : κ → AV} {h1 : List Ent} (hp : Pick h (mapF kv z g f none) h1) : Ghost s h s (mapZ kv z g f :: h1) := fun B N w S a hs => by
  have hmem : mapF kv z g f none ∈ h := by obtain ⟨x, y, rfl, _⟩ := hp.split; simp
  obtain ⟨es, clock, l, hg, hr, hf, hb, _⟩ := hs.heap.ent _ hmem
  exact ⟨_, cons_sim (hs.freeze hp) ⟨.inr rfl, es, clock, l, hg, hr.mono (fun _ h => .inl h) (fun _ _ => rfl), hf, hb⟩ (fun b hb => hb), fun _ h => .inl h⟩
omit [DecidableEq κ] in
theorem ghost_dup {q : Ob} (hm : Mem1 (.ob q) h) (hn : ∀ b, ¬ q.fp b) : Ghost s h s (.ob q :: h) := fun B N w S a hs => ⟨S, cons_sim hs (hs.heap.ent _ hm.mem) hn, fun _ h => h⟩
theorem ghost_dupZ {kv : κ → Value} {z : AV} {g : Nat} {f : κ → AV} (hm : Mem1 (mapZ kv z g f) h) : Ghost s h s (mapZ kv z g f :: h) := ghost_dup hm fun _ hb => hb
theorem aop_rangeZ {kv : κ → Value} {z : AV} {f : κ → AV} {kt vt : TypeId} {x : Operand} {g d : Nat} (ht : P.underlying mt = some (.map kt vt)) (ho : o.op = .range mt x) (hx : evA s x = some (.v (.map (some g)))) (hmem : Mem1 (mapZ kv z g f) h) (hd : o.dst = some d) (hN : Nat.blt d N = true)
    (hK : ∀ gi m, K ((d, .v (.pointer (some ⟨gi, 0, none⟩))) :: s) (itE kv z g gi f m [] none :: h)) : AOp P N o md s h K := fun B w S a hs Kr Qr hk => by
  obtain ⟨hSg, es, clock, l, H⟩ := hs.heap.ent _ hmem.mem
  have hrun : (execOp a.eval o).run P w = .ok (.value (.pointer (some ⟨w.heap.size, 0, none⟩))) (w.alloc (.mapIter (some g) clock #[] clock)) := by
    simp [execOp, ho, hs.slots.lit hx, run_range_map w mt kt vt g es clock ht H.heap]
  unfold wpX
  rw [hd] at hk
  rw [hrun, Oper.uponIn_value, hd]
  have hold := fun b hb => alloc_old w (.mapIter (some g) clock #[] clock) b hb
  have hgl : g < w.heap.size := (Array.getElem?_eq_some_iff.1 H.heap).1
  refine hk _ _ S _ _ (hK w.heap.size (leftOf es #[]).size) ((hs.push (w' := w.alloc (.mapIter (some g) clock #[] clock)) (grw_alloc _ _) (e := itE kv z g w.heap.size f (leftOf es #[]).size [] none) ⟨hSg, es, clock, l, #[], H.mono (fun _ h => h) (fun b hb => hold b (hs.lt b hb)) (hold g hgl), heap_alloc_new _ _, Nat.le_refl _, fun e _ h => by simp at h, fun k h => by cases h⟩ (fun g' hg => by have : g' = w.heap.size := hg; omega)).put (.v _) (blt_lt hN)) (upd_push (by simp) hold)
theorem GRel.has {w : World} {S : Nat → Prop} {kv : κ → Value} {l : List (κ × AV)} {es : List MapEntry} (h : GRel w S kv l es) {k : κ} {y : AV} (hy : lookG l k = some y) : ∃ e ∈ es, e.key = kv k := by
  rcases findsG h k 0 with ⟨h1, _⟩ | ⟨i, e, y1, _, h2, h3, _⟩
  · rw [h1] at hy; cases hy
  · exact ⟨e, List.mem_of_getElem? h2, h3⟩
omit [DecidableEq κ] in
theorem GRel.key {w : World} {S : Nat → Prop} {kv : κ → Value} {l : List (κ × AV)} {es : List MapEntry} (h : GRel w S kv l es) : ∀ e ∈ es, ∃ k, e.key = kv k := by
  induction h with
  | nil => intro e he; cases he
  | @cons k y e r es hk hv hr ih =>
    intro e' he'
    rcases List.mem_cons.1 he' with rfl | he'
    · exact ⟨k, hk⟩
    · exact ih e' he'
theorem aop_nextZ {kv : κ → Value} {z : AV} {f : κ → AV} {x : Operand} {g gi d m : Nat} {R : List κ} {cur : Option κ} {h' : κ → List Ent} (hinj : ∀ k k', kv k = kv k' → k = k') (ho : o.op = .next x false) (hx : evA s x = some (.v (.pointer (some ⟨gi, 0, none⟩)))) (hd : o.dst = some d) (hN : Nat.blt d N = true)
    (hmem : Mem1 (itE kv z g gi f m R cur) h) (hp : ∀ k, Repl h (itE kv z g gi f m R cur) (itE kv z g gi f (m - 1) (k :: R) (some k)) (h' k)) (hmd : md gi)
    (hK0 : (∀ k, f k ≠ z → k ∈ R) → K ((d, .tup [.v (.bool false)]) :: s) h) (hK1 : 0 < m → ∀ k y y', K ((d, .tup [.v (.bool true), .v y, .v y']) :: s) (h' k)) : AOp P N o md s h K := fun B w S a hs Kr Qr hk => by
  obtain ⟨hSg, es, clock, l, seen, H, hit, hsz, hseen, hcur⟩ := hs.heap.ent _ hmem.mem
  unfold wpX
  rw [hd] at hk
  rcases run_next_at (P := P) w o.type gi g clock clock seen es clock hit H.heap H.borns.lt (Nat.le_refl _) with ⟨h0, hr⟩ | ⟨e, he, w1, hw1, hr⟩
  · have hrun : (execOp a.eval o).run P w = .ok (.value (.tuple #[.bool false])) w := by
      simp [execOp, ho, hs.slots.lit hx, hr]
    rw [hrun, Oper.uponIn_value, hd]
    refine hk _ _ S _ _ (hK0 fun k hk => ?_) (hs.put (.tup (vs := [.bool false]) rfl fun j x y hx hy => ?_) (blt_lt hN)) Upd.refl
    · have hfk := H.fn k
      cases hl : lookG l k with
      | none => rw [hl] at hfk; exact absurd hfk.symm hk
      | some y =>
        obtain ⟨e, he, hke⟩ := H.rel.has hl
        obtain ⟨k', hk', hke'⟩ := hseen e he (all_seen es seen h0 e he)
        rw [hinj k k' (hke.symm.trans hke')]
        exact hk'
    · match j with
      | 0 => simp at hx hy; subst hx hy; exact .v _
      | j + 1 => simp at hx
  · have hml := mem_left he
    obtain ⟨k, hkk⟩ := H.rel.key e hml.1
    have hsh := left_shrinks es seen e he
    have hheap : w1.heap = w.heap := by rcases hw1 with rfl | rfl <;> rfl
    have hs1 : Sim B N w1 S s h a := by
      rcases hw1 with rfl | rfl
      · exact hs
      · exact hs.drew
    have hrun : (execOp a.eval o).run P w = .ok (.value (.tuple #[.bool true, e.key, e.val])) (w1.putObj gi (.mapIter (some g) clock (seen.push e.born) clock)) := by
      simp [execOp, ho, hs.slots.lit hx, hr]
      rfl
    rw [hrun, Oper.uponIn_value, hd]
    have hgi : gi < w1.heap.size := by rw [hheap]; exact (Array.getElem?_eq_some_iff.1 hit).1
    have hoth : ∀ b, b ≠ gi → (w1.putObj gi (.mapIter (some g) clock (seen.push e.born) clock)).heap[b]? = w1.heap[b]? := fun b hb => World.putObj_heap_other hb
    have hoff : ∀ b, S b → b ≠ gi := fun b hb e => hs.heap.off _ hmem.mem gi rfl (e ▸ hb)
    have hgrw : Grw w1 (w1.putObj gi (.mapIter (some g) clock (seen.push e.born) clock)) (itE kv z g gi f m R cur).blk := ⟨rfl, rfl, rfl, by simp, fun b hb hn => hoth b (fun e => hn e)⟩
    have hH : MapAt kv z f (w1.putObj gi (.mapIter (some g) clock (seen.push e.born) clock)) S g es clock l := H.mono (fun _ h => h) (fun b hb => by rw [hoth b (hoff b hb), hheap]) (by rw [hoth g (hoff g hSg), hheap])
    have hΦ : ERel (w1.putObj gi (.mapIter (some g) clock (seen.push e.born) clock)) S (itE kv z g gi f (m - 1) (k :: R) (some k)) := by
      refine ⟨hSg, es, clock, l, seen.push e.born, hH, World.putObj_heap_same hgi, by omega, fun x hx hc => ?_, fun k' hk' => ?_⟩
      · rw [contains_push] at hc
        cases hsx : seen.contains x.born with
        | true =>
          obtain ⟨k', h1, h2⟩ := hseen x hx hsx
          exact ⟨k', List.mem_cons_of_mem _ h1, h2⟩
        | false =>
          rw [hsx, Bool.false_or] at hc
          have := born_inj H.borns.nd hx hml.1 (by simpa using hc)
          subst this
          exact ⟨k, List.mem_cons_self, hkk⟩
      · cases hk'
        exact ⟨e, hml.1, hkk, seen, rfl⟩
    refine hk _ _ S _ _ (hK1 (by omega) k e.key e.val) ((hs1.repl (hp k) hgrw hΦ (fun g' hg' => .inl hg')).put (.tup (vs := [.bool true, e.key, e.val]) rfl fun j x y hx hy => ?_) (blt_lt hN)) ⟨by simp [hheap], fun b hb hn => by rw [hoth b (fun e => hn (e ▸ hmd)), hheap], fun _ h => h⟩
    match j with
    | 0 => simp at hx hy; subst hx hy; exact .v _
    | 1 => simp at hx hy; subst hx hy; exact .v _
    | 2 => simp at hx hy; subst hx hy; exact .v _
    | j + 3 => simp at hx
theorem aop_entryZ {kv : κ → Value} {z : AV} {f : κ → AV} {x : Operand} {g gi d m : Nat} {R : List κ} {k : κ} {kA : AV} (hka : ∀ w S, VRel w S kA (kv k)) (ho : o.op = .entry x) (hx : evA s x = some (.v (.pointer (some ⟨gi, 0, none⟩)))) (hd : o.dst = some d) (hN : Nat.blt d N = true)
    (hmem : Mem1 (itE kv z g gi f m R (some k)) h) (hK : ∀ y, K ((d, .tup [kA, .v y]) :: s) h) : AOp P N o md s h K := fun B w S a hs Kr Qr hk => by
  obtain ⟨hSg, es, clock, l, seen, H, hit, hsz, hseen, hcur⟩ := hs.heap.ent _ hmem.mem
  obtain ⟨e, he, hke, s0, rfl⟩ := hcur k rfl
  unfold wpX
  rw [hd] at hk
  have hr := run_entry_at (P := P) w gi g clock s0 es clock e hit H.heap he H.borns.nd
  have hrun : (execOp a.eval o).run P w = .ok (.value (.tuple #[e.key, e.val])) w := by
    simp [execOp, ho, hs.slots.lit hx, hr]
  rw [hrun, Oper.uponIn_value, hd]
  refine hk _ _ S _ _ (hK e.val) (hs.put (.tup (vs := [e.key, e.val]) rfl fun j x y hx hy => ?_) (blt_lt hN)) Upd.refl
  match j with
  | 0 => simp at hx hy; subst hx hy; rw [hke]; exact hka _ _
  | 1 => simp at hx hy; subst hx hy; exact .v _
  | j + 2 => simp at hx
end
end Go.Tl
