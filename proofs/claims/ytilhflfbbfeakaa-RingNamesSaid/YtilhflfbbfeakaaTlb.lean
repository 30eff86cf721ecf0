/- Forms of the steps that make or write memory, in which a unification settles what they come to. -/
import Derived.Test.YtilhflfbbfeakaaTla
namespace Go.Tl
open Go Go.RowKit
set_option linter.unusedVariables false

inductive Evs (s : Slots) : List Operand → List AV → Prop where
  | nil : Evs s [] []
  | cons {x : Operand} {y : AV} {xs : List Operand} {ys : List AV} (h : evA s x = some y) (r : Evs s xs ys) : Evs s (x :: xs) (y :: ys)
theorem Evs.eq {s : Slots} {xs : List Operand} {ys : List AV} (h : Evs s xs ys) : xs.map (evA s) = ys.map some := by
  induction h with
  | nil => rfl
  | cons h _ ih => simp [h, ih]
inductive Parts (s : Slots) : Nat → List (Nat × Operand) → List AV → Prop where
  | nil {k : Nat} : Parts s k [] []
  | cons {k : Nat} {x : Operand} {y : AV} {r : List (Nat × Operand)} {ys : List AV} (h : evA s x = some y) (p : Parts s (k + 1) r ys) : Parts s k ((k, x) :: r) (y :: ys)
theorem Parts.eq {s : Slots} {k : Nat} {r : List (Nat × Operand)} {ys : List AV} (h : Parts s k r ys) : ∃ xs, r = idxs k xs ∧ xs.map (evA s) = ys.map some ∧ xs.length = ys.length := by
  induction h with
  | nil => exact ⟨[], rfl, rfl, rfl⟩
  | cons h _ ih =>
    obtain ⟨xs, rfl, e, l⟩ := ih
    exact ⟨_ :: xs, rfl, by simp [h, e], by simp [l]⟩
inductive Sp : List AV → Nat → List AV → List AV → Prop where
  | done {cs : List AV} : Sp cs 0 [] cs
  | put {c y : AV} {cs ys cs' : List AV} (h : Sp cs 0 ys cs') : Sp (c :: cs) 0 (y :: ys) (y :: cs')
  | skip {c : AV} {off : Nat} {cs ys cs' : List AV} (h : Sp cs off ys cs') : Sp (c :: cs) (off + 1) ys (c :: cs')
theorem Sp.eq {cs ys cs' : List AV} {off : Nat} (h : Sp cs off ys cs') : spA cs off ys = cs' ∧ off + ys.length ≤ cs.length := by
  induction h with
  | done => simp [spA]
  | put h ih =>
    refine ⟨?_, by have := ih.2; simp at this ⊢; omega⟩
    rw [← ih.1]
    simp [spA]
  | @skip c off cs ys cs' h ih =>
    refine ⟨?_, by have := ih.2; simp at this ⊢; omega⟩
    rw [← ih.1]
    simp [spA, show off + 1 + ys.length = off + ys.length + 1 by omega]

section
variable {P : Program} {N : Nat} {o : Oper} {md : Nat → Prop} {s : Slots} {h h1 : List Ent} {K : Slots → List Ent → Prop}
theorem st_alloc (T : TT P) {t d : Nat} {z : Value} {cs : List AV} (ho : o.op = .alloc t) (hd : o.dst = some d) (hN : Nat.blt d N = true) (hz : f2 T.zer t = some z) (hcs : z.cells.toList.map AV.v = cs)
    (hK : ∀ g, K ((d, .v (.pointer (some ⟨g, 0, none⟩))) :: s) (.cl g t cs :: h)) : AOp P N o md s h K := aop_alloc T ho hd (blt_lt hN) hz hcs hK
theorem st_box {t d : Nat} {x : Operand} {y : AV} {cs : List AV} (ho : o.op = .box t x) (hx : evA s x = some y) (hok : okA y = true) (hcs : cellsA y = cs) (hd : o.dst = some d) (hN : Nat.blt d N = true)
    (hK : ∀ g, K ((d, .v (.pointer (some ⟨g, 0, none⟩))) :: s) (.cl g t cs :: h)) : AOp P N o md s h K := by subst hcs; exact aop_box ho hx hok hd (blt_lt hN) hK
theorem st_store (T : TT P) {t n g off : Nat} {ag : Bool} {x y : Operand} {u : AV} {T' : TypeId} {cs us cs' : List AV} {h' : List Ent} (ho : o.op = .store t x y) (hx : evA s x = some (.v (.pointer (some ⟨g, off, none⟩)))) (hy : evA s y = some u)
    (ht : f2 T.siz t = some (n, ag)) (hok : okA u = true) (hu : cellsA u = us) (hone : us.all oneA = true) (hn : Nat.beq us.length n = true) (hd : o.dst = none) (hp : Repl h (.cl g T' cs) (.cl g T' cs') h') (hcs : Sp cs off us cs') (hmd : md g)
    (hK : K s h') : AOp P N o md s h K := by
  subst hu
  have hn := Nat.eq_of_beq_eq_true hn
  exact aop_store T ho hx hy ht hok hone hn hd hp (by have := hcs.eq.2; omega) hcs.eq.1 hmd hK
theorem st_bsl (T : TT P) {t len d e sz bt : Nat} {z : Value} {parts : Array (Nat × Operand)} {ys : List AV} {rows : List (List AV)} (ho : o.op = .buildSlice t len parts) (hd : o.dst = some d) (hN : Nat.blt d N = true) (ht : f2 T.elm t = some (e, sz, bt)) (hz : f2 T.zer e = some z)
    (hp : Parts s 0 parts.toList ys) (hlen : Nat.beq ys.length len = true) (hmax : Nat.ble (len * sz) 16777216 = true) (hok : ys.all okA = true) (hsz : ys.all (fun y => Nat.beq (cellsA y).length sz) = true) (hr : ys.map cellsA = rows)
    (hK : ∀ g, K ((d, .v (.slice (some ⟨g, 0, none⟩) len len)) :: s) (.rw (.slice (some ⟨g, 0, none⟩) len len) e sz rows :: h)) : AOp P N o md s h K := by
  subst hr
  obtain ⟨xs, h1, h2, h3⟩ := hp.eq
  exact aop_buildSlice T ho hd (blt_lt hN) ht hz h1 (by rw [h3]; exact Nat.eq_of_beq_eq_true hlen) (Nat.le_of_ble_eq_true hmax) h2 hok hsz hK
theorem st_app (T : TT P) {t d e sz bt m c g' n : Nat} {z v : Value} {x y : Operand} {rows news : List (List AV)} (ho : o.op = .call { callee := .builtin .append, args := #[x, y], argTypes := #[t, t] }) (hd : o.dst = some d) (hN : Nat.blt d N = true)
    (ht : f2 T.elm t = some (e, sz, bt)) (hz : f2 T.zer e = some z) (hzs : z.cells.size = sz) (hbt : Nat.ble bt 1000 = true) (hx : evA s x = some (.v v)) (hy : evA s y = some (.v (.slice (some ⟨g', 0, none⟩) m c)))
    (hp : Pick h (.rw v e sz rows) h1) (hq : Mem1 (.rw (.slice (some ⟨g', 0, none⟩) m c) e sz news) h) (hm : Nat.beq news.length m = true) (hone : (news.flatten).all oneA = true) (hrl : rows.length = n) (hb : n + m ≤ 1000000) (hmd : ∀ b, v.ownBlock = some b → md b)
    (hK : ∀ ad cap, (0 < m → ∃ g, ad = some ⟨g, 0, none⟩) → K ((d, .v (.slice ad (n + m) cap)) :: s) (.rw (.slice ad (n + m) cap) e sz (rows ++ news) :: h1)) : AOp P N o md s h K := by
  subst hrl
  exact aop_append T ho hd (blt_lt hN) ht hz hzs hbt hx hy hp hq (Nat.eq_of_beq_eq_true hm) hb (fun r hr u hu => List.all_eq_true.1 hone u (List.mem_flatten.2 ⟨r, hr, hu⟩)) hmd hK
theorem st_call (T : TT P) {x : Operand} {xs : Array Operand} {ts : Array TypeId} {yc : AV} {f d : Nat} {fs cs ys args : List AV} {R : AV → Prop} (C : PCall P f args R) (ho : o.op = .call { callee := .value x, args := xs, argTypes := ts }) (hd : o.dst = some d) (hN : Nat.blt d N = true)
    (hcal : evA s x = some yc) (hcl : Callee yc f fs cs) (hx : Evs s xs.toList ys) (hfn : T.fns.any (Nat.beq f) = true) (hargs : fs ++ ys ++ cs = args)
    (hK : ∀ r, R r → K ((d, r) :: s) h) : AOp P N o md s h K := aop_pcall T ho hd (blt_lt hN) hcal hcl hx.eq hfn hargs C hK
theorem st_acall (T : TT P) {x : Operand} {xs : Array Operand} {ts : Array TypeId} {yc : AV} {f d : Nat} {fs cs ys args : List AV} {hc hf : List Ent} {Q : AV → List Ent → Prop} (C : ACall P f args hc Q) (ho : o.op = .call { callee := .value x, args := xs, argTypes := ts }) (hd : o.dst = some d) (hN : Nat.blt d N = true)
    (hcal : evA s x = some yc) (hcl : Callee yc f fs cs) (hx : Evs s xs.toList ys) (hfn : T.fns.any (Nat.beq f) = true) (hargs : fs ++ ys ++ cs = args) (hsub : SubH (hc ++ hf) h) (hmd : ∀ b, Own hc b → md b)
    (hK : ∀ r h', Q r h' → K ((d, r) :: s) (h' ++ hf)) : AOp P N o md s h K := aop_acall T ho hd (blt_lt hN) hcal hcl hx.eq hfn hargs hsub C hmd hK
end

/-- rows of integers -/
def intRow (x : Int) : List AV := [.v (.int .i64 x)]
theorem intRows_tree (xs : List Int) : ∀ k, k < xs.length → (xs.map intRow).getD k [] = ((fun k => [Tr.sc (.int .i64 (xs.getD k 0))]) k).map AV.ofTr := fun k hk => by
  simp [List.getD_eq_getElem?_getD, hk, intRow, AV.ofTr]
end Go.Tl
