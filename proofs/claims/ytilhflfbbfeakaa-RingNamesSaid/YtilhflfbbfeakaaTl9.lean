/- Steps of the walk over plain trees, in one piece each. -/
import Derived.Test.YtilhflfbbfeakaaTl8
import Derived.IntWalk
namespace Go.Tl
open Go Go.RowKit
set_option linter.unusedVariables false

theorem blt_lt {d n : Nat} (h : Nat.blt d n = true) : d < n := Nat.le_of_ble_eq_true h

section
variable {P : Program} {N : Nat} {ro : Option Nat} {o : Oper} {s : Slots} {h : List Ent} {Q : Exit → Slots → List Ent → Prop} {ops : Array Oper} {rest : List Oper}
theorem awl_pv {y : AV} {d : Nat} (H : PV P o s y) (hg : o.guard = none) (hd : o.dst = some d) (hN : Nat.blt d N = true) (hK : AWL P N ops rest Q ((d, y) :: s) h) : AWL P N ops (o :: rest) Q s h :=
  awl_op (md := fun _ => True) hg (aop_pv H hd (blt_lt hN) hK)
theorem awl_lv {y y' : AV} {d : Nat} {e : Option Ent} (H : LV P o s h e y) (hy : y = y') (hg : o.guard = none) (hd : o.dst = some d) (hN : Nat.blt d N = true) (hK : AWL P N ops rest Q ((d, y') :: s) h) : AWL P N ops (o :: rest) Q s h := by
  subst hy
  exact awl_op (md := fun _ => True) hg (aop_lv H hd (blt_lt hN) hK)
/-- an operation that makes or writes memory -/
theorem awl_hv (H : AOp P N o (fun _ => True) s h (AWL P N ops rest Q)) (hg : o.guard = none) : AWL P N ops (o :: rest) Q s h := awl_op hg H

variable {K : Slots → List Ent → Prop} {id i : Nat} {I : Nat → Slots → List Ent → Prop} {n : Nat}
theorem then_n (H : K s h) : thenQ K Q .normal s h := H
theorem then_x (H : Q (.exit i) s h) : thenQ K Q (.exit i) s h := H
theorem then_r (H : Q .ret s h) : thenQ K Q .ret s h := H
theorem blk_n (H : Q .normal s h) : blockQ id Q .normal s h := H
theorem blk_x (H : Q .normal s h) : blockQ id Q (.exit id) s h := by simpa [blockQ, Nat.beq_refl] using H
theorem blk_y (hi : Nat.beq i id = false) (H : Q (.exit i) s h) : blockQ id Q (.exit i) s h := by simpa [blockQ, hi] using H
theorem blk_r (H : Q .ret s h) : blockQ id Q .ret s h := H
theorem sco_n (H : Q .normal s h) : scopeQ Q .normal s h := H
theorem sco_x (H : Q (.exit i) s h) : scopeQ Q (.exit i) s h := H
theorem sco_r (H : Q .ret s h) : scopeQ Q .ret s h := H
theorem rnd_x (H : Q (.exit i) s h) : roundQ I n Q (.exit i) s h := H
theorem rnd_r (H : Q .ret s h) : roundQ I n Q .ret s h := H
theorem rnd_n (m : Nat) (s' : Slots) (h' : List Ent) (hm : m < n) (hI : I m s' h') (h1 : SubS s' s) (h2 : SubH h' h) : roundQ I n Q .normal s h := ⟨m, s', h', hm, hI, h1, h2⟩
theorem awp_cond_t {c : Operand} {x y : Code} {b : Bool} (hc : evA s c = some (.v (.bool b))) (hb : b = true) (H : AWP P N ro x Q s h) : AWP P N ro (.cond c x y) Q s h := awp_cond hc (fun _ => H) (fun e => by rw [hb] at e; cases e)
theorem awp_cond_f {c : Operand} {x y : Code} {b : Bool} (hc : evA s c = some (.v (.bool b))) (hb : b = false) (H : AWP P N ro y Q s h) : AWP P N ro (.cond c x y) Q s h := awp_cond hc (fun e => by rw [hb] at e; cases e) (fun _ => H)
theorem body_r {T : TT P} {fn : Func} {R : AV → List Ent → Prop} {ys : List AV} {h' : List Ent} (h1 : resL T s h fn.results.toList ys) (h2 : SubH h' h) (h3 : R (resA ys) h') : bodyQ T fn R .ret s h := ⟨s, h, .refl, ys, h1, h', h2, h3⟩
theorem body_n {T : TT P} {fn : Func} {R : AV → List Ent → Prop} {ys : List AV} {h' : List Ent} (h1 : resL T s h fn.results.toList ys) (h2 : SubH h' h) (h3 : R (resA ys) h') : bodyQ T fn R .normal s h := ⟨s, h, .refl, ys, h1, h', h2, h3⟩
theorem body_p {T : TT P} {fn : Func} {R : AV → Prop} {ys : List AV} (h1 : resL T s h fn.results.toList ys) (h3 : R (resA ys)) : bodyQ T fn (fun r h' => R r ∧ h' = []) .ret s h := ⟨s, h, .refl, ys, h1, [], .nil, h3, rfl⟩
theorem body_pn {T : TT P} {fn : Func} {R : AV → Prop} {ys : List AV} (h1 : resL T s h fn.results.toList ys) (h3 : R (resA ys)) : bodyQ T fn (fun r h' => R r ∧ h' = []) .normal s h := ⟨s, h, .refl, ys, h1, [], .nil, h3, rfl⟩
theorem bodyQ_ghost {T : TT P} {fn : Func} {R : AV → List Ent → Prop} {e : Exit} {s1 : Slots} {h1 : List Ent} (G : Ghost s h s1 h1) (H : bodyQ T fn R e s1 h1) : bodyQ T fn R e s h := by
  cases e with
  | normal => obtain ⟨s2, h2, G', r⟩ := H; exact ⟨s2, h2, G.trans G', r⟩
  | ret => obtain ⟨s2, h2, G', r⟩ := H; exact ⟨s2, h2, G.trans G', r⟩
  | _ => exact H.elim
theorem res_tmp {T : TT P} {t : Nat} {y : AV} {vs : List ResultVar} {ys : List AV} (h1 : look s t = some y) (h2 : resL T s h vs ys) : resL T s h (.tmp t :: vs) (y :: ys) := .cons h1 h2
theorem res_cell {T : TT P} {c t g n : Nat} {T' : TypeId} {cs : List AV} {ag : Bool} {y : AV} {vs : List ResultVar} {ys : List AV} (h1 : look s c = some (.v (.pointer (some ⟨g, 0, none⟩)))) (h2 : f2 T.siz t = some (n, ag)) (h3 : Mem1 (.cl g T' cs) h) (h4 : Nat.ble n cs.length = true) (h5 : (ag || Nat.beq n 1) = true) (h6 : ldA ag n cs = y) (h7 : resL T s h vs ys) :
    resL T s h (.cell c t :: vs) (y :: ys) :=
  .cons ⟨g, T', cs, n, ag, h1, h2, h3, Nat.le_of_ble_eq_true h4, by simp only [Bool.or_eq_true] at h5; exact h5.imp id Nat.eq_of_beq_eq_true, h6⟩ h7
theorem wr64 {x : Int} (h : -9223372036854775808 ≤ x ∧ x ≤ 9223372036854775807) : IntKind.i64.wrap x = x := IntWalk.i64_in x h
end

/-! loads and addresses, in forms that a unification settles -/
inductive OfTrs : List Tr → List AV → Prop where
  | nil : OfTrs [] []
  | sc {v : Value} {r : List Tr} {q : List AV} (h : OfTrs r q) : OfTrs (.sc v :: r) (.v v :: q)
  | sl {cp : Bool} {sz n : Nat} {f : Nat → List Tr} {r : List Tr} {q : List AV} (h : OfTrs r q) : OfTrs (.sl cp sz n f :: r) (.t (.sl cp sz n f) :: q)
theorem OfTrs.eq {xs : List Tr} {ys : List AV} (h : OfTrs xs ys) : xs.map AV.ofTr = ys := by
  induction h with
  | nil => rfl
  | sc _ ih => simp [AV.ofTr, ih]
  | sl _ ih => simp [AV.ofTr, ih]
section
variable {P : Program} {N : Nat} {o : Oper} {s : Slots} {h : List Ent}
theorem lv_cl1 (T : TT P) {t g off : Nat} {x : Operand} {T' : TypeId} {cs : List AV} {y : AV} (ho : o.op = .load t x) (hx : evA s x = some (.v (.pointer (some ⟨g, off, none⟩)))) (ht : f2 T.siz t = some (1, false))
    (hm : Mem1 (.cl g T' cs) h) (hy : cs[off]? = some y) : LV P o s h (some (.cl g T' cs)) y := by
  obtain ⟨hl, e⟩ := List.getElem?_eq_some_iff.1 hy
  have h1 := lv_cl T ho hx ht hm (by omega) (.inr rfl)
  have : ldA false 1 (cs.drop off) = y := by
    simp only [ldA]
    rw [List.drop_eq_getElem_cons hl, e]
    rfl
  rwa [this] at h1
theorem lv_cla (T : TT P) {t n g : Nat} {x : Operand} {T' : TypeId} {cs : List AV} (ho : o.op = .load t x) (hx : evA s x = some (.v (.pointer (some ⟨g, 0, none⟩)))) (ht : f2 T.siz t = some (n, true))
    (hm : Mem1 (.cl g T' cs) h) (hl : Nat.beq cs.length n = true) : LV P o s h (some (.cl g T' cs)) (.ag cs) := by
  have hl := Nat.eq_of_beq_eq_true hl
  have h1 := lv_cl T ho hx ht hm (by omega) (.inl rfl)
  have : ldA true n (cs.drop 0) = .ag cs := by simp only [ldA, if_true, List.drop_zero]; exact congrArg AV.ag (List.take_of_length_le (by omega))
  rwa [this] at h1
/-- a struct within a variable -/
theorem lv_clp (T : TT P) {t n g off : Nat} {x : Operand} {T' : TypeId} {cs ds : List AV} (ho : o.op = .load t x) (hx : evA s x = some (.v (.pointer (some ⟨g, off, none⟩)))) (ht : f2 T.siz t = some (n, true))
    (hm : Mem1 (.cl g T' cs) h) (hl : Nat.ble (off + n) cs.length = true) (hd : (cs.drop off).take n = ds) : LV P o s h (some (.cl g T' cs)) (.ag ds) := by
  have h1 := lv_cl T ho hx ht hm (Nat.le_of_ble_eq_true hl) (.inl rfl)
  have : ldA true n (cs.drop off) = .ag ds := by simp [ldA, hd]
  rwa [this] at h1
theorem lv_elt_sc (T : TT P) {t sz m k off : Nat} {x : Operand} {f : Nat → List Tr} {v : Value} (ho : o.op = .load t x) (hx : evA s x = some (.elt sz m f k off)) (ht : f2 T.siz t = some (1, false))
    (hy : (f k)[off]? = some (.sc v)) : LV P o s h none (.v v) := by
  obtain ⟨hl, e⟩ := List.getElem?_eq_some_iff.1 hy
  have h1 := lv_elt (h := h) T ho hx ht (by omega) (.inr rfl)
  have : ldA false 1 (((f k).map AV.ofTr).drop off) = .v v := by
    simp only [ldA]
    rw [List.drop_eq_getElem_cons (by simpa using hl)]
    simp [e, AV.ofTr]
  rwa [this] at h1
theorem lv_elt_sl (T : TT P) {t sz m k off : Nat} {x : Operand} {f : Nat → List Tr} {cp : Bool} {sz' n' : Nat} {f' : Nat → List Tr} (ho : o.op = .load t x) (hx : evA s x = some (.elt sz m f k off)) (ht : f2 T.siz t = some (1, false))
    (hy : (f k)[off]? = some (.sl cp sz' n' f')) : LV P o s h none (.t (.sl cp sz' n' f')) := by
  obtain ⟨hl, e⟩ := List.getElem?_eq_some_iff.1 hy
  have h1 := lv_elt (h := h) T ho hx ht (by omega) (.inr rfl)
  have : ldA false 1 (((f k).map AV.ofTr).drop off) = .t (.sl cp sz' n' f') := by
    simp only [ldA]
    rw [List.drop_eq_getElem_cons (by simpa using hl)]
    simp [e, AV.ofTr]
  rwa [this] at h1
theorem lv_elt_ag (T : TT P) {t n sz m k : Nat} {x : Operand} {f : Nat → List Tr} {ys : List AV} (ho : o.op = .load t x) (hx : evA s x = some (.elt sz m f k 0)) (ht : f2 T.siz t = some (n, true))
    (hl : Nat.beq (f k).length n = true) (hy : OfTrs (f k) ys) : LV P o s h none (.ag ys) := by
  have hl := Nat.eq_of_beq_eq_true hl
  have h1 := lv_elt (h := h) T ho hx ht (by omega) (.inl rfl)
  have : ldA true n (((f k).map AV.ofTr).drop 0) = .ag ys := by rw [← hy.eq]; simp only [ldA, if_true, List.drop_zero]; exact congrArg AV.ag (List.take_of_length_le (by simp; omega))
  rwa [this] at h1
theorem pv_ix_t (T : TT P) {t e sz bt n kk : Nat} {x y : Operand} {cp : Bool} {f : Nat → List Tr} {k : IntKind} {i : Int} (ho : o.op = .indexAddr t x y) (hx : evA s x = some (.t (.sl cp sz n f))) (hy : evA s y = some (.v (.int k i)))
    (ht : f2 T.elm t = some (e, sz, bt)) (h0 : 0 ≤ i ∧ i < n) (hk : i.toNat = kk) : PV P o s (.elt sz n f kk 0) := by subst hk; exact pv_indexAddr_t T ho hx hy ht h0.1 h0.2
theorem pv_ix_own (T : TT P) {t e sz bt g n c kk : Nat} {x y : Operand} {k : IntKind} {i : Int} (ho : o.op = .indexAddr t x y) (hx : evA s x = some (.v (.slice (some ⟨g, 0, none⟩) n c))) (hy : evA s y = some (.v (.int k i)))
    (ht : f2 T.elm t = some (e, sz, bt)) (h0 : 0 ≤ i ∧ i < n) (hk : i.toNat = kk) : PV P o s (.rp (.slice (some ⟨g, 0, none⟩) n c) sz kk 0) := by subst hk; exact pv_indexAddr_own T ho hx hy ht h0.1 h0.2
theorem pv_ix_arr (T : TT P) {t n e m g off off' : Nat} {x y : Operand} {k : IntKind} {i : Int} (ho : o.op = .indexAddr t x y) (hx : evA s x = some (.v (.pointer (some ⟨g, off, none⟩)))) (hy : evA s y = some (.v (.int k i)))
    (ht : f2 T.arr t = some (n, e, m)) (h0 : 0 ≤ i ∧ i < n) (hk : off + i.toNat * m = off') : PV P o s (.v (.pointer (some ⟨g, off', none⟩))) := by subst hk; exact pv_indexAddr_arr T ho hx hy ht h0.1 h0.2
theorem pv_fa (T : TT P) {t : TypeId} {x : Operand} {i g k off k' : Nat} (ho : o.op = .fieldAddr t x i) (hx : evA s x = some (.v (.pointer (some ⟨g, k, none⟩)))) (hf : f3 T.fld t i = some off) (hk : k + off = k') : PV P o s (.v (.pointer (some ⟨g, k', none⟩))) := by
  subst hk; exact pv_fieldAddr T ho hx hf
theorem pv_fa_elt (T : TT P) {t : TypeId} {x : Operand} {i sz n k off off' k' : Nat} {f : Nat → List Tr} (ho : o.op = .fieldAddr t x i) (hx : evA s x = some (.elt sz n f k off')) (hf : f3 T.fld t i = some off) (hk : off' + off = k') : PV P o s (.elt sz n f k k') := by
  subst hk; exact pv_fieldAddr_elt T ho hx hf
theorem pv_fa_rp (T : TT P) {t : TypeId} {x : Operand} {i sz k off off' k' : Nat} {v : Value} (ho : o.op = .fieldAddr t x i) (hx : evA s x = some (.rp v sz k off')) (hf : f3 T.fld t i = some off) (hk : off' + off = k') : PV P o s (.rp v sz k k') := by
  subst hk; exact pv_fieldAddr_rp T ho hx hf
theorem nt_cast {n : Nat} : ((n : Int)).toNat = n := Int.toNat_natCast n
theorem add_lit {a b c : Nat} (h : Nat.beq (a + b) c = true) : a + b = c := Nat.eq_of_beq_eq_true h
end

/-! common trees -/
abbrev intA (x : Int) : AV := .v (.int .i64 x)
abbrev boolA (x : Bool) : AV := .v (.bool x)
/-- a list of integers -/
def intsT (cp : Bool) (xs : List Int) : Tr := .sl cp 1 xs.length (fun k => [.sc (.int .i64 (xs.getD k 0))])
end Go.Tl
