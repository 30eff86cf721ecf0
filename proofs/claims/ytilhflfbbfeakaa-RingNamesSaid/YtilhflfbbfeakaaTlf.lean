/- More operations over plain trees: structs built, parts of slices, slices made, copies, values compared. -/
import Derived.Test.YtilhflfbbfeakaaTle
import Derived.Laws.CopyRow
namespace Go.Tl
open Go Go.RowKit
set_option linter.unusedVariables false
set_option linter.unusedSimpArgs false

/-- parts of what is built -/
inductive BParts (s : Slots) : List (Nat × Operand) → List (Nat × AV) → Prop where
  | nil : BParts s [] []
  | cons {k : Nat} {x : Operand} {y : AV} {r : List (Nat × Operand)} {ys : List (Nat × AV)} (h : evA s x = some y) (p : BParts s r ys) : BParts s ((k, x) :: r) ((k, y) :: ys)
inductive FillA (pl : List (Nat × Nat)) : List AV → List (Nat × AV) → List AV → Prop where
  | nil {cs : List AV} : FillA pl cs [] cs
  | cons {cs us cs' cs'' : List AV} {i off sz : Nat} {y : AV} {r : List (Nat × AV)} (hp : pl[i]? = some (off, sz)) (hok : okA y = true) (hu : cellsA y = us) (hn : Nat.beq us.length sz = true) (h : Sp cs off us cs') (hr : FillA pl cs' r cs'') : FillA pl cs ((i, y) :: r) cs''
section
variable {P : Program} {N : Nat} {o : Oper} {s : Slots}
theorem TT.plc_at (T : TT P) {t : Nat} {pl : List (Nat × Nat)} (h : f2 T.plc t = some pl) : ∃ fs, P.underlying t = some (.struct fs) ∧ (fs.toList.map fun f => (f.offset, (P.info? f.type).map (·.size))) = pl.map fun x => (x.1, some x.2) := by
  have hb := List.all_eq_true.1 T.plcOk _ (f2_mem h)
  simp only [plcB] at hb
  split at hb
  · rename_i fs hu
    exact ⟨fs, hu, by simpa using hb⟩
  · cases hb
theorem run_places {w : World} : ∀ (fs : List Field) (pl : List (Nat × Nat)), (fs.map fun f => (f.offset, (P.info? f.type).map (·.size))) = pl.map (fun x => (x.1, some x.2)) →
    (fs.mapM fun f => (do pure (f.offset, ← sizeOf f.type) : Sem (Nat × Nat))).run P w = .ok pl w
  | [], [], _ => by simp
  | [], p :: pl, h => by simp at h
  | f :: fs, [], h => by simp at h
  | f :: fs, p :: pl, h => by
    simp only [List.map_cons, List.cons.injEq, Prod.mk.injEq] at h
    obtain ⟨⟨h1, h2⟩, h3⟩ := h
    obtain ⟨j, hj, hjs⟩ := Option.map_eq_some_iff.1 h2
    have ih := run_places (w := w) fs pl h3
    rw [List.mapM_cons]
    simp only [Sem.run_bind, run_sizeOf' hj, Result.andThen_ok, Sem.run_pure] at ih ⊢
    rw [ih]
    simp [h1, hjs]
theorem fill_rel {w : World} {S : Nat → Prop} {pl : List (Nat × Nat)} {cs cs' : List AV} {ys : List (Nat × AV)} (h : FillA pl cs ys cs') : ∀ (cells : Array Value) (vs : List (Nat × Value)), VRels w S cs cells.toList → ys.length = vs.length →
    (∀ (j : Nat) (x : Nat × AV) (y : Nat × Value), ys[j]? = some x → vs[j]? = some y → x.1 = y.1 ∧ VRel w S x.2 y.2) → ∃ cells', Instr.fill (pl.toArray[·]?) cells vs = some cells' ∧ VRels w S cs' cells'.toList := by
  induction h with
  | nil =>
    intro cells vs hc hl _
    have : vs = [] := List.length_eq_zero_iff.1 hl.symm
    subst this
    exact ⟨cells, rfl, hc⟩
  | @cons cs us cs' cs'' i off sz y r hp hok hu hn hsp _ ih =>
    intro cells vs hc hl hv
    cases vs with
    | nil => simp at hl
    | cons v vs =>
      obtain ⟨i', v⟩ := v
      obtain ⟨h1, h2⟩ := hv 0 _ _ rfl rfl
      simp only at h1 h2
      subst h1
      subst hu
      have hcl := cellsA_rel h2 hok
      have hn' := Nat.eq_of_beq_eq_true hn
      have hvs : v.cells.size = sz := by rw [← hn', hcl.1]; simp
      obtain ⟨e1, e2⟩ := hsp.eq
      have hcsl := hc.1
      have hfit : off + v.cells.size ≤ cells.size := by rw [hvs, ← hn']; simp at hcsl; omega
      have hf := fold_set off v.cells.toList 0 cells (by simpa using hfit)
      have e0 : (Array.foldl (fun (cs : Array Value) (p : Value × Nat) => cs.setIfInBounds (off + p.2) p.1) cells v.cells.zipIdx) = (v.cells.toList.zipIdx 0).foldl (fun (cs : Array Value) (p : Value × Nat) => cs.setIfInBounds (off + p.2) p.1) cells := by
        rw [← Array.foldl_toList, Array.toList_zipIdx]
      have hnew : VRels w S cs' ((v.cells.toList.zipIdx 0).foldl (fun (cs : Array Value) (p : Value × Nat) => cs.setIfInBounds (off + p.2) p.1) cells).toList := by
        rw [hf, ← e1]
        simp only [spA, Nat.add_zero]
        rw [hcl.1]
        exact ((hc.take off).append hcl).append (hc.drop _)
      obtain ⟨cells', h3, h4⟩ := ih _ vs hnew (by simpa using hl) (fun j x y hx hy => hv (j + 1) x y (by simpa using hx) (by simpa using hy))
      refine ⟨cells', ?_, h4⟩
      have hp' : pl.toArray[i]? = some (off, sz) := by simpa using hp
      simp only [Instr.fill, hp']
      rw [e0]
      simp only [Bool.or_eq_true, decide_eq_true_eq]
      rw [if_neg (by simp; omega)]
      exact h3
theorem BParts.eq {r : List (Nat × Operand)} {ys : List (Nat × AV)} (h : BParts s r ys) {w : World} {S : Nat → Prop} {a : Act} (hs : SRel w S s a.tmps) : ys.length = (r.map fun p => (p.1, a.eval p.2)).length ∧
    ∀ (j : Nat) (x : Nat × AV) (y : Nat × Value), ys[j]? = some x → (r.map fun p => (p.1, a.eval p.2))[j]? = some y → x.1 = y.1 ∧ VRel w S x.2 y.2 := by
  induction h with
  | nil => exact ⟨rfl, fun j x y h => by simp at h⟩
  | cons h _ ih =>
    refine ⟨by simpa using ih.1, fun j x y hx hy => ?_⟩
    cases j with
    | zero => simp at hx hy; subst hx; subst hy; exact ⟨rfl, hs.eval h⟩
    | succ j => exact ih.2 j x y (by simpa using hx) (by simpa using hy)
/-- a struct -/
theorem pv_build (T : TT P) {t : TypeId} {parts : Array (Nat × Operand)} {z : Value} {pl : List (Nat × Nat)} {ys : List (Nat × AV)} {cs0 cs : List AV} (ho : o.op = .build t parts) (hz : f2 T.zer t = some z) (hpl : f2 T.plc t = some pl) (hcs : z.cells.toList.map AV.v = cs0) (hp : BParts s parts.toList ys) (hf : FillA pl cs0 ys cs) : PV P o s (.ag cs) := fun w S a hs => by
  subst hcs
  have h1 := zOk_at T.zerOk hz
  obtain ⟨i, hi, hiz⟩ := Option.map_eq_some_iff.1 h1
  obtain ⟨fs, hu, hpls⟩ := T.plc_at hpl
  obtain ⟨hl, hv⟩ := hp.eq (w := w) (S := S) hs
  obtain ⟨cells, hfill, hrel⟩ := fill_rel hf z.cells _ (.lits _) hl hv
  refine ⟨.agg cells, fun w' => ?_, .ag (vs := cells.toList) hrel.1 hrel.2⟩
  have hm : (fs.mapM fun f => (do pure (f.offset, ← sizeOf f.type) : Sem (Nat × Nat))).run P w' = .ok pl.toArray w' := by
    have e : fs = fs.toList.toArray := by simp
    rw [e, List.mapM_toArray, Sem.run_map]
    rw [run_places fs.toList pl hpls]
    rfl
  have hmap : (parts.map fun p => (p.1, a.eval p.2)).toList = parts.toList.map fun p => (p.1, a.eval p.2) := by simp
  have hmap' : (Array.map (fun x => match x with | (i, x) => (i, a.eval x)) parts) = (parts.map fun p => (p.1, a.eval p.2)) := rfl
  simp only [execOp, ho, hmap', Instr.build, Sem.run_bind, zeroValue, typeInfo, run_program, hi, hiz, Result.andThen_ok, Sem.run_pure, run_underlying hu, hm, hmap, hfill]
/-- a first part of a slice -/
theorem pv_slice_hi (T : TT P) {t e sz bt n k : Nat} {x y : Operand} {f : Nat → List Tr} {kd : IntKind} {i : Int} (ho : o.op = .slice t x none (some y) none) (hx : evA s x = some (.t (.sl true sz n f))) (hy : evA s y = some (.v (.int kd i))) (ht : f2 T.elm t = some (e, sz, bt)) (h0 : 0 ≤ i ∧ i ≤ n) (hk : i.toNat = k) : PV P o s (.t (.sl true sz k f)) := fun w S a hs => by
  obtain ⟨j, hund, hj, hjs, hjb, hne⟩ := T.elm_at ht
  have h1 := hs.eval hx
  generalize hv : a.eval x = v at *
  cases h1 with
  | t h1 =>
    cases h1 with
    | @sl _ _ _ _ a0 c val hc hl h ih =>
      have hcn := hc rfl
      have hkn : k ≤ n := by omega
      refine ⟨.slice (if c = 0 then a0 else a0.map (·.add 0)) k c, fun w' => ?_, .t (.sl val (fun _ => by omega) (fun q hq => hl q (by omega)) (fun q hq => ?_) (fun q r z hq hz => ih q r z (by omega) hz))⟩
      · have e1 : i ≤ (c : Int) := by omega
        simp [execOp, ho, hv, hs.lit hy, Instr.sliceAt, Instr.slice, run_underlying hund, Instr.sliceBounds, Instr.sliceBound, asIntOf, h0.1, e1, run_sizeOf' hj, hk]
      · obtain ⟨b, off, e1, e2, e3⟩ := h q (by omega)
        refine ⟨b, off, ?_, e2, e3⟩
        split
        · exact e1
        · rw [e1]; simp [Addr.add_lit]
/-- the whole of an array, as a slice -/
theorem pv_slice_arr (T : TT P) {t n e m g : Nat} {x : Operand} (ho : o.op = .slice t x none none none) (hx : evA s x = some (.v (.pointer (some ⟨g, 0, none⟩)))) (ht : f2 T.arr t = some (n, e, m)) : PV P o s (.v (.slice (some ⟨g, 0, none⟩) n n)) := fun w S a hs => by
  obtain ⟨j, hund, hj, hjs, hne⟩ := T.arr_at ht
  refine ⟨_, fun w' => ?_, .v _⟩
  cases n with
  | zero => simp [execOp, ho, hs.lit hx, Instr.sliceAt, Instr.sureAddr, Instr.slice, run_underlying hund, Instr.sliceBounds, asAddr, run_sizeOf' hj]
  | succ n => simp [execOp, ho, hs.lit hx, Instr.sliceAt, Instr.sureAddr, Instr.slice, run_underlying hund, Instr.sliceBounds, asAddr, run_sizeOf' hj, Addr.add_lit]
/-- structs and arrays of integers compared -/
theorem pv_eqK {op : BinOp} {t t' : TypeId} {x z : Operand} {as bs : List Int} {r : Value} (ho : o.op = .binOp op t x z t') (hx : evA s x = some (kA as)) (hz : evA s z = some (kA bs))
    (hr : ∀ w, (do eqGuard op t x z (kV as) (kV bs); binOp op t (kV as) (kV bs) : Sem Value).run P w = .ok r w) : PV P o s (.v r) := fun w S a hs =>
  ⟨r, fun w' => by
    have h1 := hr w'
    simp only [execOp, ho, kA_inv (hs.eval hx), kA_inv (hs.eval hz)]
    rw [Sem.run_bind, h1]
    rfl, .v _⟩
variable {md : Nat → Prop} {h : List Ent} {K : Slots → List Ent → Prop}
/-- make([]T, n), of elements of one cell -/
theorem aop_make (T : TT P) {t e bt d n : Nat} {z : Value} {x y : Operand} (ho : o.op = .makeSlice t x y) (hd : o.dst = some d) (hN : Nat.blt d N = true) (ht : f2 T.elm t = some (e, 1, bt)) (hz : f2 T.zer e = some z) (hz1 : z.cells = #[z]) (hx : evA s x = some (intA n)) (hy : evA s y = some (intA n)) (hn : n ≤ 1000000) (hbt : Nat.ble bt 1000 = true)
    (hK : ∀ g, K ((d, .v (.slice (some ⟨g, 0, none⟩) n n)) :: s) (.rw (.slice (some ⟨g, 0, none⟩) n n) e 1 (List.replicate n [.v z]) :: h)) : AOp P N o md s h K := fun B w S a hs Kr Qr hk => by
  obtain ⟨j, hund, hj, hjs, hjb, hne⟩ := T.elm_at ht
  have h1 := zOk_at T.zerOk hz
  obtain ⟨i, hi, hiz⟩ := Option.map_eq_some_iff.1 h1
  rw [hj] at hi
  simp at hi
  subst hi
  have hbt' := Nat.le_of_ble_eq_true hbt
  have hmc : madeCells z.cells (n * j.size) = Array.replicate n z := by
    rw [hz1, hjs, Nat.mul_one]
    apply Array.ext
    · simp [madeCells]
    · intro q h1 h2
      simp [madeCells, Nat.mod_one]
  have hrun : (execOp a.eval o).run P w = .ok (.value (.slice (some ⟨w.heap.size, 0, none⟩) n n)) (w.alloc (.cells (Array.replicate n z) e)) := by
    have hb2 : (j.bytes : Int) * (n : Int) ≤ 281474976710656 := by
      rw [hjb]
      have : bt * n ≤ 1000000000 := Nat.le_trans (Nat.mul_le_mul hbt' hn) (by decide)
      rw [← Int.natCast_mul]
      omega
    have := run_make (P := P) w t e j z hund hj hiz .i64 .i64 n n (by omega) (by omega) hb2 (by omega)
    simp only [Int.toNat_natCast, hmc] at this
    simp [execOp, ho, hs.slots.lit hx, hs.slots.lit hy, this]
  unfold wpX
  rw [hd] at hk
  rw [hrun, Oper.uponIn_value, hd]
  have hold := fun b hb => alloc_old w (.cells (Array.replicate n z) e) b hb
  have hfl : (List.replicate n [AV.v z]).flatten = (List.replicate n z).map AV.v := by simp
  refine hk _ _ S _ _ (hK w.heap.size) ((hs.push (w' := w.alloc (.cells (Array.replicate n z) e)) (grw_alloc _ _) (e := .rw (.slice (some ⟨w.heap.size, 0, none⟩) n n) e 1 (List.replicate n [.v z])) ⟨List.replicate n z, ?_, by rw [hfl]; exact .lits _, fun r hr => by rw [(List.mem_replicate.1 hr).2]; rfl⟩ (fun g hg => by simp [Ent.blk, Value.ownBlock] at hg; omega)).put (.v _) (blt_lt hN)) (upd_push (by simp) hold)
  have := World.ownsRow_lit (base := 0) (e := e) (size := 1) w (Array.replicate n z) n (Nat.zero_le _) (by unfold maxLen; omega) (by simp)
  simpa using this
/-- copy of a stable slice of cells into an array that the call owns -/
theorem aop_copy (T : TT P) {t t' d e bt n m c g : Nat} {x y : Operand} {cp : Bool} {f : Nat → List Tr} {T' : TypeId} {cs cs' : List AV} {h' : List Ent} (ho : o.op = .call { callee := .builtin .copy, args := #[x, y], argTypes := #[t, t'] }) (hd : o.dst = some d) (hN : Nat.blt d N = true) (ht : f2 T.elm t = some (e, 1, bt))
    (hx : evA s x = some (.v (.slice (some ⟨g, 0, none⟩) n c))) (hy : evA s y = some (.t (.sl cp 1 m f))) (hp : Repl h (.cl g T' cs) (.cl g T' cs') h') (hn : cs.length = n) (hone : ∀ k, k < m → ∀ u ∈ f k, oneA (AV.ofTr u) = true)
    (hcs : spA cs 0 (((List.range (min m n)).map fun k => (f k).map AV.ofTr).flatten) = cs') (hmd : md g) (hK : K ((d, intA (min m n : Nat)) :: s) h') : AOp P N o md s h K := fun B w S a hs Kr Qr hk => by
  obtain ⟨j, hund, hj, hjs, hjb, hne⟩ := T.elm_at ht
  have hmem : Ent.cl g T' cs ∈ h := by obtain ⟨p, q, rfl, _⟩ := hp.split; simp
  obtain ⟨vs, hvs, hr⟩ := hs.heap.ent _ hmem
  have hvl : vs.length = n := by rw [← hr.1]; exact hn
  have hye := hs.slots.eval hy
  generalize hev : a.eval y = u0 at *
  cases hye with
  | t hT =>
    cases hT with
    | @sl _ _ _ _ a0 c0 val hc hl hh ih =>
      have hU : VRels w S ((List.range (min m n)).map fun k => (f k).map AV.ofTr).flatten ((List.range (min m n)).map fun k => val k 0) := by
        have : ∀ l : List Nat, (∀ k ∈ l, k < m) → VRels w S (l.map fun k => (f k).map AV.ofTr).flatten (l.map fun k => val k 0) := by
          intro l
          induction l with
          | nil => intro _; exact .nil
          | cons k l ihl =>
            intro hk
            simp only [List.map_cons, List.flatten_cons]
            have hlk := hl k (hk k (by simp))
            match hfk : f k, hlk with
            | [x], _ =>
              exact VRels.append (VRels.ofTr rfl (fun j y v hy hv => by
                match j with
                | 0 => simp at hy hv; subst hy; subst hv; exact ih k 0 x (hk k (by simp)) (by rw [hfk]; rfl)
                | j + 1 => simp at hy) : VRels w S ([x].map AV.ofTr) [val k 0]) (ihl (fun k' h' => hk k' (by simp [h'])))
        exact this _ (fun k hk => by have := List.mem_range.1 hk; omega)
      have hones := ones_rel hU (fun cc hcc => by
        obtain ⟨r, hr, hcr⟩ := List.mem_flatten.1 hcc
        obtain ⟨k, hk, rfl⟩ := List.mem_map.1 hr
        obtain ⟨x, hx', rfl⟩ := List.mem_map.1 hcr
        exact hone k (by have := List.mem_range.1 hk; omega) x hx')
      have hlen : ((List.range (min m n)).map fun k => val k 0).length = min m n := by simp
      have hkS : ∀ (cells : Array Value) b, S b → (w.setRow g cells).heap[b]? = w.heap[b]? := fun cells b hb => setRow_other w g b _ (fun e => hs.heap.off _ hmem g rfl (by rw [← e]; exact hb))
      have hrun : (Builtin.copy_ #[t, t'] o.type #[.slice (some ⟨g, 0, none⟩) n c, .slice a0 m c0]).run P w = .ok (goInt ((min m n : Nat) : Int)) (w.setRow g (vs.toArray.toList.take 0 ++ ((List.range (min m n)).map fun k => val k 0) ++ vs.toArray.toList.drop (0 + ((List.range (min m n)).map fun k => val k 0).length)).toArray) := by
        rcases Nat.eq_zero_or_pos (min m n) with h0 | h0
        · have e0 : ((List.range (min m n)).map fun k => val k 0) = [] := by rw [h0]; rfl
          rw [e0, h0]
          simp only [List.take_zero, List.nil_append, List.length_nil, Nat.add_zero, List.drop_zero]
          rw [show vs.toArray.toList.toArray = vs.toArray by simp, setRow_self w g _ _ _ hvs]
          have : Nat.min m n = 0 := h0
          cases a0 <;> simp [Builtin.copy_, run_underlying hund, Builtin.lenOf, run_sizeOf' hj, Builtin.firstCells, this, loadCells, loadCellsFrom, storeCells, h0]
        · obtain ⟨b, off, rfl, _, _⟩ := hh 0 (by omega)
          have := run_copy_row P w t t' o.type e g 0 n c ⟨b, off, none⟩ m c0 vs.toArray T' ((List.range (min m n)).map fun k => val k 0) hund (by rw [hj]; simp [hjs]) hvs (by simp) (fun q u hq => by
            rw [List.getElem?_map] at hq
            have hq2 : q < min m n := by
              rcases Nat.lt_or_ge q (min m n) with h | h
              · exact h
              · rw [List.getElem?_eq_none (by simpa using h)] at hq; cases hq
            rw [List.getElem?_range hq2] at hq
            simp at hq
            subst hq
            obtain ⟨b', off', e1, _, h3⟩ := hh q (by omega)
            simp at e1
            obtain ⟨rfl, rfl⟩ := e1
            rw [Addr.add_lit]
            simpa using h3 0 (by omega)) (by simp; omega) hones
          rw [hlen] at this ⊢
          exact this
      have hrun2 : (execOp a.eval o).run P w = .ok (.value (.int .i64 ((min m n : Nat) : Int))) (w.setRow g (vs.toArray.toList.take 0 ++ ((List.range (min m n)).map fun k => val k 0) ++ vs.toArray.toList.drop (0 + ((List.range (min m n)).map fun k => val k 0).length)).toArray) := by
        simp only [execOp, ho, resolve, List.map_toArray, List.map_cons, List.map_nil, hs.slots.lit hx, hev]
        simp [invoke, builtin, hrun, goInt, IntKind.wrap_i64]
      unfold wpX
      rw [hd] at hk
      rw [hrun2, Oper.uponIn_value, hd]
      have hg := grown_setRow w g (vs.toArray.toList.take 0 ++ ((List.range (min m n)).map fun k => val k 0) ++ vs.toArray.toList.drop (0 + ((List.range (min m n)).map fun k => val k 0).length)).toArray
      refine hk _ _ S _ _ hK ((hs.repl hp (.of hg (by simp [Ent.blk])) ⟨_, setRow_heap w g _ _ T' _ hvs, ?_⟩ (fun g' hg' => .inl hg')).put (.v _) (blt_lt hN)) ⟨by simp, fun b hb hnb => setRow_other w g b _ (fun e => hnb (by rw [e]; exact hmd)), fun _ h => h⟩
      subst hcs
      simp only [spA]
      have hlU := hU.1
      rw [hlU]
      exact (((hr.take 0).append hU).append (hr.drop _)).mono (fun _ h => h) (hkS _)
end
/-- a tree that says less -/
def TrLe (t t' : Tr) : Prop := ∀ (w : World) (S : Nat → Prop) (v : Value), TRel w S t v → TRel w S t' v
theorem TrLe.refl (t : Tr) : TrLe t t := fun _ _ _ h => h
theorem TrLe.sl {cp cp' : Bool} {sz n : Nat} {f f' : Nat → List Tr} (hc : cp' = true → cp = true) (h : ∀ k, k < n → (f' k).length = (f k).length ∧ ∀ (j : Nat) (x x' : Tr), (f k)[j]? = some x → (f' k)[j]? = some x' → TrLe x x') : TrLe (.sl cp sz n f) (.sl cp' sz n f') := fun w S v hv => by
  cases hv with
  | sl val hcc hl hh ih =>
    refine .sl val (fun e => hcc (hc e)) (fun k hk => (h k hk).1.trans (hl k hk)) hh (fun k j x hk hx => ?_)
    have hj : j < (f k).length := by rw [← (h k hk).1]; exact (List.getElem?_eq_some_iff.1 hx).1
    exact (h k hk).2 j _ x (List.getElem?_eq_getElem hj) hx w S _ (ih k j _ hk (List.getElem?_eq_getElem hj))
theorem ghost_to {s : Slots} {h : List Ent} {d : Nat} {t t' : Tr} (hd : look s d = some (.t t)) (H : TrLe t t') : Ghost s h ((d, .t t') :: s) h := fun B N w S a hs =>
  ⟨S, ⟨hs.ext, hs.defs, hs.size, fun e x hx => by
    simp only [look] at hx
    cases hb : Nat.beq d e with
    | true =>
      rw [hb] at hx
      simp at hx
      subst hx
      obtain ⟨u, hu, hr⟩ := hs.slots d _ hd
      rw [← Nat.eq_of_beq_eq_true hb]
      cases hr with
      | t hr => exact ⟨u, hu, .t (H w S u hr)⟩
    | false =>
      rw [hb] at hx
      exact hs.slots e x hx, hs.lt, hs.heap, hs.live, hs.off⟩, fun _ h => h⟩
/-- a literal that is a tree -/
theorem ghost_none {s : Slots} {h : List Ent} {d : Nat} {v : Value} {t : Tr} (hd : look s d = some (.v v)) (H : ∀ w S, TRel w S t v) : Ghost s h ((d, .t t) :: s) h := fun B N w S a hs =>
  ⟨S, ⟨hs.ext, hs.defs, hs.size, fun e x hx => by
    simp only [look] at hx
    cases hb : Nat.beq d e with
    | true =>
      rw [hb] at hx
      simp at hx
      subst hx
      obtain ⟨u, hu, hr⟩ := hs.slots d _ hd
      rw [← Nat.eq_of_beq_eq_true hb]
      rw [hr.lit_inv] at hu
      exact ⟨v, hu, .t (H w S)⟩
    | false =>
      rw [hb] at hx
      exact hs.slots e x hx, hs.lt, hs.heap, hs.live, hs.off⟩, fun _ h => h⟩
end Go.Tl
