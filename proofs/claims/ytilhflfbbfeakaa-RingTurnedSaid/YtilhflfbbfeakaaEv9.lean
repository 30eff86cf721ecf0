/- The machine for closed calls: what has to be known of a program, as one test. -/
import Derived.Test.YtilhflfbbfeakaaEv8
import Derived.Laws.StructEq
import Derived.ChangeKeysEq
namespace Go.Ev
open Go Go.RowKit Go.Tl
set_option linter.unusedVariables false
set_option linter.unusedSimpArgs false
noncomputable section
def kdB (P : Program) (t : TypeId) (b : Bool) : Bool :=
  match P.underlying t with
  | some (.int .i64) => b
  | some .bool => !b
  | _ => false
def flatF (P : Program) : Nat → List Field → List Bool → Bool
  | _, [], [] => true
  | off, f :: fs, k :: ks => (f.offset == off) && (f.name != "_") && kdB P f.type k && flatF P (off + 1) fs ks
  | _, _, _ => false
def flatB (P : Program) (t : TypeId) (ks : List Bool) : Bool :=
  match P.underlying t with
  | some (.struct fs) => !P.stoodInHeld t && flatF P 0 fs.toList ks
  | some (.array n e) => (ks.length == n) && ks.all (kdB P e) && (match P.info? e with | some j => j.size == 1 | none => false)
  | _ => false
section
variable {P : Program}
theorem kd_agg {t : TypeId} {b : Bool} (h : kdB P t b = true) : ∃ d, P.underlying t = some d ∧ aggB d = false := by
  unfold kdB at h
  split at h <;> first | cases h | skip
  · rename_i hu; exact ⟨_, hu, rfl⟩
  · rename_i hu; exact ⟨_, hu, rfl⟩
theorem kd_part {t : TypeId} {b : Bool} (h : kdB P t b = true) {cs : Array Value} {off : Nat} {v : Value} (hv : cs[off]? = some v) (w : World) : (part t cs off).run P w = .ok v w := by
  obtain ⟨d, hd, ha⟩ := kd_agg h
  simp [part, run_isAgg' hd, ha, hv]
theorem kd_eq {t : TypeId} {b : Bool} (h : kdB P t b = true) {x y : Value} (hx : kOk [b] [x] = true) (hy : kOk [b] [y] = true) (d : Nat) (w : World) : (Op.equalIn (d + 1) t x y).run P w = .ok (scq x y) w := by
  unfold kdB at h
  split at h
  · rename_i hu
    subst h
    cases x with
    | int q n =>
      cases q <;> simp [kOk] at hx
      cases y with
      | int q' n' =>
        cases q' <;> simp [kOk] at hy
        rw [run_equalIn_int w d t .i64 .i64 n n' hu]
        simp [scq, beq_dec]
      | _ => simp [kOk] at hy
    | _ => simp [kOk] at hx
  · rename_i hu
    have : b = false := by simpa using h
    subst this
    cases x with
    | bool n =>
      cases y with
      | bool n' => rw [run_equalIn_bool w d t n n' hu]; simp [scq]
      | _ => simp [kOk] at hy
    | _ => simp [kOk] at hx
  · cases h
theorem kOk_cons {k : Bool} {ks : List Bool} {vs : List Value} (h : kOk (k :: ks) vs = true) : ∃ v us, vs = v :: us ∧ kOk [k] [v] = true ∧ kOk ks us = true := by
  cases vs with
  | nil => cases k <;> simp [kOk] at h
  | cons v us =>
    refine ⟨v, us, rfl, ?_⟩
    cases k with
    | true => cases v with
      | int q n => cases q <;> simp [kOk] at h ⊢ <;> exact h
      | _ => simp [kOk] at h
    | false => cases v with
      | bool b => simp [kOk] at h ⊢; exact h
      | _ => simp [kOk] at h
theorem fields_eq {cs ds : List Value} (d : Nat) (w : World) : ∀ (fs : List Field) (ks : List Bool) (off : Nat), flatF P off fs ks = true → kOk ks (cs.drop off) = true → kOk ks (ds.drop off) = true →
    (Op.eqFields (d + 1) cs.toArray ds.toArray fs).run P w = .ok (scqs (cs.drop off) (ds.drop off)) w
  | [], [], off, h, hc, hd => by
    have e1 : cs.drop off = [] := by cases he : cs.drop off with | nil => rfl | cons a b => rw [he] at hc; simp [kOk] at hc
    have e2 : ds.drop off = [] := by cases he : ds.drop off with | nil => rfl | cons a b => rw [he] at hd; simp [kOk] at hd
    rw [e1, e2]
    simp [Op.eqFields, scqs]
  | [], k :: ks, off, h, _, _ => by simp [flatF] at h
  | f :: fs, [], off, h, _, _ => by simp [flatF] at h
  | f :: fs, k :: ks, off, h, hc, hd => by
    simp only [flatF, Bool.and_eq_true, beq_iff_eq, bne_iff_ne] at h
    obtain ⟨⟨⟨h1, h2⟩, h3⟩, h4⟩ := h
    obtain ⟨x, xs, ex, hx, hxs⟩ := kOk_cons hc
    obtain ⟨y, ys, ey, hy, hys⟩ := kOk_cons hd
    have gx : cs.toArray[off]? = some x := by
      have : (cs.drop off)[0]? = some x := by rw [ex]; rfl
      simpa using this
    have gy : ds.toArray[off]? = some y := by
      have : (ds.drop off)[0]? = some y := by rw [ey]; rfl
      simpa using this
    have ex' : cs.drop (off + 1) = xs := by rw [← List.drop_drop, ex]; rfl
    have ey' : ds.drop (off + 1) = ys := by rw [← List.drop_drop, ey]; rfl
    have ih := fields_eq d w fs ks (off + 1) h4 (by rw [ex']; exact hxs) (by rw [ey']; exact hys)
    rw [ex', ey'] at ih
    rw [ex, ey]
    subst h1
    simp only [Op.eqFields, if_pos h2, Sem.run_bind, kd_part h3 gx, kd_part h3 gy, kd_eq h3 hx hy, Result.andThen_ok, Sem.run_ite, scqs]
    cases hq : scq x y with
    | false => simp
    | true => simp [ih]
theorem items_eq {e : TypeId} {cs ds : List Value} (d : Nat) (w : World) : ∀ (n : Nat) (ks : List Bool) (off : Nat), ks.length = n → ks.all (kdB P e) = true → kOk ks (cs.drop off) = true → kOk ks (ds.drop off) = true →
    (Op.eqItems (d + 1) e 1 cs.toArray ds.toArray (List.range' off n)).run P w = .ok (scqs (cs.drop off) (ds.drop off)) w
  | 0, ks, off, hl, _, hc, hd => by
    have : ks = [] := List.length_eq_zero_iff.1 hl
    subst this
    have e1 : cs.drop off = [] := by cases he : cs.drop off with | nil => rfl | cons a b => rw [he] at hc; simp [kOk] at hc
    have e2 : ds.drop off = [] := by cases he : ds.drop off with | nil => rfl | cons a b => rw [he] at hd; simp [kOk] at hd
    rw [e1, e2]
    simp [Op.eqItems, scqs]
  | n + 1, ks, off, hl, hk, hc, hd => by
    cases ks with
    | nil => simp at hl
    | cons k ks =>
      simp only [List.all_cons, Bool.and_eq_true] at hk
      obtain ⟨x, xs, ex, hx, hxs⟩ := kOk_cons hc
      obtain ⟨y, ys, ey, hy, hys⟩ := kOk_cons hd
      have gx : cs.toArray[off * 1]? = some x := by
        have : (cs.drop off)[0]? = some x := by rw [ex]; rfl
        simpa using this
      have gy : ds.toArray[off * 1]? = some y := by
        have : (ds.drop off)[0]? = some y := by rw [ey]; rfl
        simpa using this
      have ex' : cs.drop (off + 1) = xs := by rw [← List.drop_drop, ex]; rfl
      have ey' : ds.drop (off + 1) = ys := by rw [← List.drop_drop, ey]; rfl
      have ih := items_eq d w n ks (off + 1) (by simpa using hl) hk.2 (by rw [ex']; exact hxs) (by rw [ey']; exact hys)
      rw [ex', ey'] at ih
      rw [ex, ey, List.range'_succ]
      simp only [Op.eqItems, Sem.run_bind, kd_part hk.1 gx, kd_part hk.1 gy, kd_eq hk.1 hx hy, Result.andThen_ok, Sem.run_ite, scqs]
      cases hq : scq x y with
      | false => simp
      | true => simp [ih]
theorem flat_eq {t : TypeId} {ks : List Bool} (h : flatB P t ks = true) {as bs : List Value} (ha : kOk ks as = true) (hb : kOk ks bs = true) (w : World) : (Op.equal t (.agg as.toArray) (.agg bs.toArray)).run P w = .ok (scqs as bs) w := by
  unfold flatB at h
  unfold Op.equal Op.maxDepth
  split at h
  · rename_i fs hu
    simp only [Bool.and_eq_true, Bool.not_eq_true'] at h
    have hu' : P.underlying t = some (.struct (P.fieldsOf t)) := by simp [Program.fieldsOf, hu]
    have hfo : P.fieldsOf t = fs := by simp [Program.fieldsOf, hu]
    rw [run_equalIn_struct w 9999 t _ _ hu' h.1, hfo]
    exact fields_eq 9998 w fs.toList ks 0 h.2 ha hb
  · rename_i n e hu
    simp only [Bool.and_eq_true, beq_iff_eq] at h
    obtain ⟨⟨h1, h2⟩, h3⟩ := h
    split at h3
    · rename_i j hj
      have hc : P.cellsOf e = 1 := by simp [Program.cellsOf, hj]; simpa using h3
      rw [run_equalIn_array w 9999 _ _ hu hj, hc, List.range_eq_range']
      exact items_eq 9998 w n ks 0 h1 h2 ha hb
    · cases h3
  · cases h
theorem check_flat {cs : List Value} (e : Bool) (d : Nat) {fs : Array Field} {t : TypeId} {ks : List Bool} (hu : P.underlying t = some (.struct fs)) (h : flatF P 0 fs.toList ks = true) (hc : kOk ks cs = true) (w : World) : (Instr.checkKey e (d + 2) t (.agg cs.toArray)).run P w = .ok () w := by
  rw [Instr.checkKey]
  simp only [Sem.run_bind, run_underlying hu, Result.andThen_ok]
  rw [← Array.forIn_toList]
  have hc0 : kOk ks (cs.drop 0) = true := hc
  clear hc hu
  generalize fs.toList = l at h ⊢
  generalize (0 : Nat) = off at h hc0
  induction l generalizing ks off with
  | nil => simp
  | cons f l ih =>
    cases ks with
    | nil => simp [flatF] at h
    | cons k ks =>
      simp only [flatF, Bool.and_eq_true, beq_iff_eq, bne_iff_ne] at h
      obtain ⟨⟨⟨h1, h2⟩, h3⟩, h4⟩ := h
      obtain ⟨x, xs, ex, hx, hxs⟩ := kOk_cons hc0
      have gx : cs.toArray[off]? = some x := by
        have : (cs.drop off)[0]? = some x := by rw [ex]; rfl
        simpa using this
      have ex' : cs.drop (off + 1) = xs := by rw [← List.drop_drop, ex]; rfl
      have ih' := ih (off + 1) h4 (by rw [ex']; exact hxs)
      subst h1
      have hck : (Instr.checkKey e (d + 1) f.type x).run P w = .ok () w := by
        have h3' := h3
        unfold kdB at h3'
        split at h3'
        · rename_i hu; simp [Instr.checkKey, run_underlying hu]
        · rename_i hu; simp [Instr.checkKey, run_underlying hu]
        · cases h3'
      simp only [List.forIn_cons, if_pos h2, Sem.run_bind, kd_part h3 gx, Result.andThen_ok, hck, Sem.run_pure]
      exact ih'
theorem findAsk_run {kt : TypeId} {kk : Option (List Bool)} (heq : ∀ a b w, keyOk kk a = true → keyOk kk b = true → (Op.equal kt a b).run P w = .ok (keyEq a b) w) {k : Value} (hk : keyOk kk k = true) (w : World) : ∀ (es : List MapEntry) (j : Nat), (∀ e ∈ es, keyOk kk e.key = true) → (Instr.findAsking kt k es j).run P w = .ok (findE k es j) w
  | [], j, _ => by simp [Instr.findAsking, findE]
  | e :: es, j, h => by
    simp only [Instr.findAsking, Sem.run_bind, heq k e.key w hk (h e List.mem_cons_self), Result.andThen_ok, findE, Sem.run_ite]
    cases hq : keyEq k e.key with
    | true => simp
    | false => simp [findAsk_run heq hk w es (j + 1) (fun e he => h e (List.mem_cons_of_mem _ he))]
theorem findNow_int {q : IntKind} {k : Value} (hk : keyOk none k = true) : ∀ (es : List MapEntry) (j : Nat), (∀ e ∈ es, keyOk none e.key = true) → Instr.findNow (.int q) k es j = some (findE k es j)
  | [], j, _ => rfl
  | e :: es, j, h => by
    have h1 := h e List.mem_cons_self
    have ih := findNow_int (q := q) hk es (j + 1) (fun e he => h e (List.mem_cons_of_mem _ he))
    cases k with
    | int q1 n =>
      cases q1 <;> simp [keyOk] at hk
      cases hek : e.key with
      | int q2 n2 =>
        rw [hek] at h1
        cases q2 <;> simp [keyOk] at h1
        by_cases hn : n = n2
        · simp [Instr.findNow, Instr.sameNow, hek, findE, keyEq, hn]
        · have hb : (n == n2) = false := by simpa using hn
          simp [Instr.findNow, Instr.sameNow, hek, findE, keyEq, hn, ih, hb]
      | agg cs => rw [hek] at h1; simp [keyOk] at h1
      | _ => rw [hek] at h1; simp [keyOk] at h1
    | agg cs => simp [keyOk] at hk
    | _ => simp [keyOk] at hk
def mpB (P : Program) (t : TypeId) (p : MP) : Bool :=
  match P.underlying t with
  | some (.map kt vt) => (match p.kk with
    | none => (match P.underlying kt with | some (.int .i64) => true | _ => false)
    | some ks => flatB P kt ks && (match P.underlying kt with | some (.struct _) => true | _ => false)) &&
    (match P.info? vt with | some i => (match i.zero with | some z => veq 9 z p.z | none => false) | none => false) && (cellsL p.z).all scB
  | _ => false
theorem mpB_ok {t : TypeId} {p : MP} (h : mpB P t p = true) : MX P t p := by
  unfold mpB at h
  split at h
  · rename_i kt vt hu
    simp only [Bool.and_eq_true] at h
    obtain ⟨⟨h1, h2⟩, h3⟩ := h
    refine ⟨kt, vt, hu, h3, fun w => ?_, ?_⟩
    · split at h2
      · rename_i i hi
        split at h2
        · rename_i z hz
          rw [← veq_eq 9 _ _ h2]
          simp [zeroValue, typeInfo, hi, hz]
        · cases h2
      · cases h2
    · cases hkk : p.kk with
      | none =>
        rw [hkk] at h1
        simp only at h1
        split at h1
        · rename_i hk
          refine ⟨fun e k w hok => ?_, fun k es w hok hes => ?_⟩
          · cases k with
            | int q n =>
              have : ∀ d : Nat, (Instr.checkKey e (d + 1) kt (.int q n)).run P w = .ok () w := fun d => by simp [Instr.checkKey, run_underlying hk]
              exact this 9999
            | agg cs => simp [keyOk] at hok
            | _ => simp [keyOk] at hok
          · simp [Instr.findKey, run_underlying hk, findNow_int hok es 0 hes]
        · cases h1
      | some ks =>
        rw [hkk] at h1
        simp only [Bool.and_eq_true] at h1
        obtain ⟨h1, h4⟩ := h1
        split at h4
        · rename_i fs hk
          have hff : flatF P 0 fs.toList ks = true := by
            have h1' := h1
            unfold flatB at h1'
            rw [hk] at h1'
            simp only [Bool.and_eq_true] at h1'
            exact h1'.2
          have agg : ∀ {k : Value}, keyOk (some ks) k = true → ∃ cs : List Value, k = .agg cs.toArray ∧ kOk ks cs = true := fun {k} hok => by
            cases k with
            | agg cs => exact ⟨cs.toList, by simp, hok⟩
            | int q n => cases q <;> simp [keyOk] at hok
            | _ => simp [keyOk] at hok
          refine ⟨fun e k w hok => ?_, fun k es w hok hes => ?_⟩
          · obtain ⟨cs, rfl, hc⟩ := agg hok
            exact check_flat e 9998 hk hff hc w
          · have heq : ∀ a b w, keyOk (some ks) a = true → keyOk (some ks) b = true → (Op.equal kt a b).run P w = .ok (keyEq a b) w := fun a b w ha hb => by
              obtain ⟨as, rfl, ha⟩ := agg ha
              obtain ⟨bs, rfl, hb⟩ := agg hb
              exact flat_eq h1 ha hb w
            have hfa := findAsk_run heq hok w es 0 hes
            cases es with
            | nil => simp [Instr.findKey, run_underlying hk, Instr.findNow, findE]
            | cons e es =>
              have hn : Instr.findNow (.struct fs) k (e :: es) 0 = none := by simp [Instr.findNow, Instr.sameNow]
              simp only [Instr.findKey, Sem.run_bind, run_underlying hk, Result.andThen_ok, hn]
              exact hfa
        · cases h4
  · cases h
end
def allB (P : Program) (T : TD) (M : Tre MP) (pl : Tre (Tre Plan)) : Bool :=
  T.siz.all (fun t x => sizB P (t, x)) && T.elm.all (fun t x => elmB P (t, x)) && T.arr.all (fun t x => arrB P (t, x)) && T.fld.all (fldsB P) && T.knd.all (kndB P) &&
  T.eqs.all (fun t ks => flatB P t ks && !P.eqGuardType P.depth t) && T.zer.all (fun p => match P.info? p.1 with | some i => (match i.zero with | some z => veq 9 z p.2 | none => false) | none => false) &&
  T.zer.all (fun p => (match p.2 with | .agg cs => cs.toList | v => [v]).all scB) && P.follows .mixedOrders && T.bls.all (blsB P) && M.all (mpB P) && pl.all (fun f _ => fnB P f)
theorem zok_of {P : Program} : ∀ (l : List (Nat × Value)), l.all (fun p => match P.info? p.1 with | some i => (match i.zero with | some z => veq 9 z p.2 | none => false) | none => false) = true → zOk P l
  | [], _ => trivial
  | (t, z) :: l, h => by
    simp only [List.all_cons, Bool.and_eq_true] at h
    refine ⟨?_, zok_of l h.2⟩
    have h1 := h.1
    split at h1
    · rename_i i hi
      split at h1
      · rename_i z' hz
        have hi' : P.info? t = some i := hi
        rw [hi']
        simp [hz, veq_eq 9 _ _ h1]
      · cases h1
    · cases h1
theorem cok_of {P : Program} {T : TD} {M : Tre MP} {pl : Tre (Tre Plan)} (h : allB P T M pl = true) (hc : pl.all (plOkF P) = true) : COk ⟨P, T, M, pl, .e⟩ := by
  simp only [allB, Bool.and_eq_true] at h
  obtain ⟨⟨⟨⟨⟨⟨⟨⟨⟨⟨⟨h1, h2⟩, h3⟩, h4⟩, h5⟩, h6⟩, h7⟩, h8⟩, h9⟩, h12⟩, h10⟩, h11⟩ := h
  have hX : TX P T := ⟨h1, h2, h3, h4, h5, fun t ks hk => by
      have := Tre.all_get _ _ h6 _ _ hk
      simp only [Bool.and_eq_true, Bool.not_eq_true'] at this
      exact ⟨this.2, fun as bs w ha hb => flat_eq this.1 ha hb w⟩, zok_of _ h7, h8, h9, h12⟩
  exact ⟨⟨hX, fun t p hp => mpB_ok (Tre.all_get _ _ h10 _ _ hp)⟩, h11, hc, fun f v h => by rw [show (Tre.e : Tre Value).get f = none from Tre.get_e f] at h; cases h⟩
end
end Go.Ev
