/- The bounds of what is filled: walks. -/
import Derived.Test.YteaoclpikdmkiaaNm
import Derived.Test.YteaoclpikdmkiaaTlw
import Derived.Test.YteaoclpikdmkiaaMk
import Derived.Test.YteaoclpikdmkiaaTz
import Derived.Test.YteaoclpikdmkiaaTv
namespace Go.Tl
open Go Go.RowKit Go.Proofs.Yteaoclpikdmkiaa
/-- a call over entries that are put together -/
theorem acall_packT {P : Program} {g : Nat} {args : List AV} {hc hc' : List Ent} {R : AV → Prop} (C : ACall P g args hc (fun r h' => R r ∧ h' = hc')) : ACall P g args [.ob (packOb hc)] (fun r h' => R r ∧ h' = [.ob (packOb hc')]) := fun w S vs h1 h2 h3 => by
  have h2' : HRel w S hc := by have := unpack_hrel h2; rwa [List.append_nil] at this
  have hown : ∀ (hc : List Ent) b, Own [.ob (packOb hc)] b ↔ Own hc b := fun hc b => by have := own_pack (hc := hc) (h := []) (g := b); rwa [List.append_nil] at this
  refine (C w S vs h1 h2' h3).mono fun e w' ⟨v, S', r, h', e1, ⟨hR, eh⟩, hvr, E, hlt, hr, hl⟩ => ?_
  subst eh
  refine ⟨v, S', r, _, e1, ⟨hR, rfl⟩, hvr, ⟨E.os, E.tape, E.output, E.size, fun b hb hn => E.keep b hb (fun ho => hn ((hown hc b).2 ho)), E.stab, fun b hb => ?_⟩, hlt, ?_, fun e he g hg => ?_⟩
  · rcases E.new b hb with h | h | h
    · exact .inl h
    · exact .inr (.inl h)
    · exact .inr (.inr ((hown hc b).2 h))
  · exact pack_hrel (w := w') (S := S') (h := []) (by rwa [List.append_nil])
  · obtain ⟨e2, he2, hg2⟩ := (hown _ g).1 ⟨e, he, hg⟩
    rcases hl e2 he2 g hg2 with h | h
    · exact .inl ((hown hc g).2 h)
    · exact .inr h
theorem acall_unpackT {P : Program} {g : Nat} {args : List AV} {hc hc' : List Ent} {R : AV → Prop} (C : ACall P g args [.ob (packOb hc)] (fun r h' => R r ∧ h' = [.ob (packOb hc')])) : ACall P g args hc (fun r h' => R r ∧ h' = hc') := fun w S vs h1 h2 h3 => by
  have h2' : HRel w S [.ob (packOb hc)] := pack_hrel (h := []) (by rwa [List.append_nil])
  have hown : ∀ (hc : List Ent) b, Own [.ob (packOb hc)] b ↔ Own hc b := fun hc b => by have := own_pack (hc := hc) (h := []) (g := b); rwa [List.append_nil] at this
  refine (C w S vs h1 h2' h3).mono fun e w' ⟨v, S', r, h', e1, ⟨hR, eh⟩, hvr, E, hlt, hr, hl⟩ => ?_
  subst eh
  refine ⟨v, S', r, _, e1, ⟨hR, rfl⟩, hvr, ⟨E.os, E.tape, E.output, E.size, fun b hb hn => E.keep b hb (fun ho => hn ((hown hc b).1 ho)), E.stab, fun b hb => ?_⟩, hlt, ?_, fun e he g hg => ?_⟩
  · rcases E.new b hb with h | h | h
    · exact .inl h
    · exact .inr (.inl h)
    · exact .inr (.inr ((hown hc b).1 h))
  · have := unpack_hrel hr; rwa [List.append_nil] at this
  · obtain ⟨e2, he2, hg2⟩ := (hown hc' g).2 ⟨e, he, hg⟩
    rcases hl e2 he2 g hg2 with h | h
    · exact .inl ((hown hc g).1 h)
    · exact .inr h
end Go.Tl
namespace Go.Proofs.Yteaoclpikdmkiaa
open Go Go.RowKit Go.Tl
set_option linter.unusedVariables false
set_option linter.unusedSimpArgs false
set_option maxRecDepth 100000
set_option maxHeartbeats 4000000
def rngRow (r : Int × Int) : List AV := [intA r.1, intA r.2]
def rngL (r : Int × Int) : List Tr := [.sc (.int .i64 r.1), .sc (.int .i64 r.2)]
def rngsT (cp : Bool) (rs : List (Int × Int)) : Tr := .sl cp 2 rs.length (fun k => rngL (rs.getD k default))
def gRows (f : Nat → Int × Int) (n : Nat) : List (List AV) := (List.range n).map fun k => rngRow (f k)
theorem gRows_len (f : Nat → Int × Int) (n : Nat) : (gRows f n).length = n := by simp [gRows]
theorem gRows_at {f : Nat → Int × Int} {n k : Nat} (h : k < n) : (gRows f n).getD k [] = rngRow (f k) := by simp [gRows, List.getD_eq_getElem?_getD, h]
theorem gRows_set {f f' : Nat → Int × Int} {n k : Nat} {x : Int × Int} (h : k < n) (hf : ∀ q, q < n → f' q = if q = k then x else f q) : (gRows f n).set k (spA ((gRows f n).getD k []) 0 [intA x.1, intA x.2]) = gRows f' n := by
  rw [gRows_at h]
  have e : spA (rngRow (f k)) 0 [intA x.1, intA x.2] = rngRow x := rfl
  rw [e]
  refine List.ext_getElem (by simp [gRows]) fun i h1 h2 => ?_
  simp [gRows] at h1 h2
  have hi := hf i h2
  rw [List.getElem_set]
  by_cases c : k = i
  · subst c
    rw [if_pos rfl] at hi
    simp [gRows, hi]
  · rw [if_neg (fun e => c e.symm)] at hi
    simp [gRows, c, hi]
theorem gRows_tree {f : Nat → Int × Int} {n : Nat} : ∀ k, k < n → (gRows f n).getD k [] = ((fun q => rngL (((List.range n).map f).getD q default)) k).map AV.ofTr := fun k hk => by
  rw [gRows_at hk]
  simp [List.getD_eq_getElem?_getD, hk, rngL, rngRow, AV.ofTr]
/-- the bounds of a number over what has been visited -/
def bndL (f : Leaf → Int) (vs : List Leaf) : Bool × (Int × Int) := vs.foldl (fun s x => (false, wid s.1 s.2 (f x))) (true, (0, 0))
theorem bnd_snoc (f : Leaf → Int) (vs : List Leaf) (x : Leaf) : bndL f (vs ++ [x]) = (false, wid (bndL f vs).1 (bndL f vs).2 (f x)) := by simp [bndL, List.foldl_append]
theorem bnd_fst (f g : Leaf → Int) (vs : List Leaf) : (bndL f vs).1 = (bndL g vs).1 := by
  have : ∀ (vs : List Leaf) (a b : Bool × (Int × Int)), a.1 = b.1 → (vs.foldl (fun s x => (false, wid s.1 s.2 (f x))) a).1 = (vs.foldl (fun s x => (false, wid s.1 s.2 (g x))) b).1 := fun vs => by
    induction vs with
    | nil => intro a b h; exact h
    | cons x vs ih => intro a b h; exact ih _ _ rfl
  exact this vs _ _ rfl
def filF (i : Nat) (x : Leaf) : Int := (filP x.1 i x.1.length).1
def filM (i : Nat) (x : Leaf) : Int := (filP x.1 i x.1.length).2
attribute [local irreducible] AWP AWL AOp PV LV AWT AWE
section
variable {g2 g3 g6 gF gM n k : Nat} {F F' M M' : Nat → Int × Int} {a c : Int} {b : Bool} {u0 u2 u14 u15 : AV} {rest : List Ent}
abbrev slV (g n : Nat) : Value := .slice (some ⟨g, 0, none⟩) n n
theorem nn_5 (hk : k < n) (hn : n ≤ 6) (hF : ∀ q, q < n → F' q = if q = k then wid b (F k) a else F q) (hM : ∀ q, q < n → M' q = if q = k then wid b (M k) c else M q) {ops : Array Oper} (h : regF Try.f63 5 = some ops) :
    AWP Try.prog Try.f63.ntmps none (.region 5 ops true) (cutQ (fun s h => s = [(0, u0), (2, u2), (3, .v (ptrV g2)), (4, .v (ptrV g6)), (5, .v (ptrV g3)), (14, u14), (15, u15)] ∧ h = .cl g2 45 [.v (slV gF n)] :: .cl g6 4 [boolA b] :: .cl g3 45 [.v (slV gM n)] :: .rw (slV gF n) 54 2 (gRows F' n) :: .rw (slV gM n) 54 2 (gRows M' n) :: rest))
      [(0, u0), (2, u2), (3, .v (ptrV g2)), (4, .v (ptrV g6)), (5, .v (ptrV g3)), (9, intA k), (10, intA a), (11, intA c), (14, u14), (15, u15)]
      (.cl g2 45 [.v (slV gF n)] :: .cl g6 4 [boolA b] :: .cl g3 45 [.v (slV gM n)] :: .rw (slV gF n) 54 2 (gRows F n) :: .rw (slV gM n) 54 2 (gRows M n) :: rest) := by
  cases h
  have r1 : (gRows F n).getD k [] = [intA (F k).1, intA (F k).2] := gRows_at hk
  have r2 : (gRows M n).getD k [] = [intA (M k).1, intA (M k).2] := gRows_at hk
  have r3 := gRows_len F n
  have r4 := gRows_len M n
  have s1 := gRows_set hk hF
  have s2 := gRows_set hk hM
  refine awp_tree T0 [(0, 1), (1, 0), (3, 0), (4, 1), (5, 0), (6, 0), (8, 0), (9, 1), (11, 1), (12, 0), (13, 0), (14, 1), (15, 0), (16, 1), (2, 2), (7, 2), (10, 2), (17, 2), (18, 0), (19, 3), (20, 0), (21, 3)] (.op 0 1 (.op 1 0 (.op 3 0 (.op 4 1 (.op 5 0 (.op 6 0 (.op 8 0 (.op 9 1 (.op 11 1 (.op 12 0 (.op 13 0 (.op 14 1 (.op 15 0 (.op 16 1 (.fork 2 (.op 7 2 (.op 10 2 (.op 17 2 (.op 18 0 (.op 19 3 (.op 20 0 (.op 21 3 .stop))))))) 7 (.fork 2 (.op 10 2 (.op 17 2 (.op 18 0 (.op 19 3 (.op 20 0 (.op 21 3 .stop)))))) 10 (.fork 2 (.op 17 2 (.op 18 0 (.op 19 3 (.op 20 0 (.op 21 3 .stop))))) 17 (.op 18 0 (.fork 2 (.op 19 3 (.op 20 0 (.op 21 3 .stop))) 19 (.op 2 2 (.op 20 0 (.op 21 3 .stop)))))))))))))))))))))) [.cl g2 _ _, .cl g6 _ _, .cl g3 _ _, .rw (slV gM n) _ _ _] rfl (by kernel_rfl) (by solve | repeat' constructor) ?_
  refine awt_lo rfl (wt_none rfl) (lv_cl1 T0 rfl rfl rfl (by solve | repeat' constructor) (by first | rfl | assumption)) rfl rfl rfl ?_
  refine awt_po rfl (wt_none rfl) (pv_move rfl rfl) rfl rfl ?_
  refine awt_po rfl (wt_none rfl) (pv_move rfl rfl) rfl rfl ?_
  refine awt_lo rfl (wt_none rfl) (lv_cl1 T0 rfl rfl rfl (by solve | repeat' constructor) (by first | rfl | assumption)) rfl rfl rfl ?_
  refine awt_po rfl (wt_none rfl) (pv_move rfl rfl) rfl rfl ?_
  refine awt_po rfl (wt_none rfl) (pv_ix_own T0 rfl rfl rfl rfl (by omega) (by first | exact (rfl : Int.toNat 0 = 0) | exact Int.toNat_natCast _ | rfl)) rfl rfl ?_
  refine awt_po rfl (wt_none rfl) (pv_move rfl rfl) rfl rfl ?_
  refine awt_lo rfl (wt_none rfl) (lv_cl1 T0 rfl rfl rfl (by solve | repeat' constructor) (by first | rfl | assumption)) rfl rfl rfl ?_
  refine awt_lo rfl (wt_none rfl) (lv_cl1 T0 rfl rfl rfl (by solve | repeat' constructor) (by first | rfl | assumption)) rfl rfl rfl ?_
  refine awt_po rfl (wt_none rfl) (pv_move rfl rfl) rfl rfl ?_
  refine awt_po rfl (wt_none rfl) (pv_ix_own T0 rfl rfl rfl rfl (by omega) (by first | exact (rfl : Int.toNat 0 = 0) | exact Int.toNat_natCast _ | rfl)) rfl rfl ?_
  refine awt_lo rfl (wt_none rfl) (lv_rpa T0 rfl rfl rfl (by solve | repeat' constructor) (by first | omega | (simp; omega)) (by first | assumption | rfl)) rfl rfl rfl ?_
  refine awt_po rfl (wt_none rfl) (pv_move rfl rfl) rfl rfl ?_
  refine awt_lo rfl (wt_none rfl) (lv_cl1 T0 rfl rfl rfl (by solve | repeat' constructor) (by first | rfl | assumption)) rfl rfl rfl ?_
  refine awt_fork ?_ ?_
  · skip
    refine awt_h (hm := []) rfl (wt_none rfl) (by solve | repeat' constructor) rfl (aop_lv (lv_cl1 T0 rfl rfl rfl (by solve | repeat' constructor) rfl) rfl (blt_lt rfl) ?_)
    refine awt_h (hm := []) rfl (wt_none rfl) (by solve | repeat' constructor) rfl (aop_lv (lv_rpa T0 rfl rfl rfl (by solve | repeat' constructor) (by omega) r1) rfl (blt_lt rfl) ?_)
    refine awt_h (hm := []) rfl (wt_none rfl) (by solve | repeat' constructor) rfl (st_call T0 (wider_p (F k) a b) rfl rfl rfl rfl (by first | exact callee_lit | exact callee_v | exact callee_fn | assumption) (by solve | repeat' constructor) (by first | rfl | assumption) rfl ?_)
    rintro _ rfl
    refine awt_h (hm := []) rfl (wt_none rfl) (by solve | repeat' constructor) rfl (st_call T0 (wider_p (M k) c b) rfl rfl rfl rfl (by first | exact callee_lit | exact callee_v | exact callee_fn | assumption) (by solve | repeat' constructor) (by first | rfl | assumption) rfl ?_)
    rintro _ rfl
    refine awt_po rfl (wt_none rfl) (pv_ix_own T0 rfl rfl rfl rfl (by omega) (by first | exact (rfl : Int.toNat 0 = 0) | exact Int.toNat_natCast _ | rfl)) rfl rfl ?_
    refine awt_s (md := fun _ => True) rfl (wt_none rfl) (aop_store_rp T0 rfl rfl rfl rfl rfl rfl rfl rfl (by solve | repeat' constructor) (by first | omega | (simp; omega)) (by omega) rfl trivial ?_)
    first
      | refine awe_p rfl (wt_none rfl) (pv_ix_t T0 rfl rfl rfl rfl (by omega) (by first | exact (rfl : Int.toNat 0 = 0) | exact Int.toNat_natCast _ | rfl)) rfl rfl ?_
      | refine awe_p rfl (wt_none rfl) (pv_ix_own T0 rfl rfl rfl rfl (by omega) (by first | exact (rfl : Int.toNat 0 = 0) | exact Int.toNat_natCast _ | rfl)) rfl rfl ?_
      | refine awe_p rfl (wt_none rfl) (pv_ix_arr T0 rfl rfl rfl rfl (by omega) (by simp; rfl)) rfl rfl ?_
    refine awe_s (md := fun _ => True) rfl (wt_none rfl) (aop_store_rp T0 rfl rfl rfl rfl rfl rfl rfl rfl (by solve | repeat' constructor) (by first | omega | (simp; omega)) (by omega) rfl trivial ?_)
    refine awe_end ?_
    simp only [cellsA]
    rw [s1, s2]
    exact cut_n ⟨rfl, rfl⟩ (by first | ((repeat' (first | exact True.intro | refine ⟨rfl, ?_⟩)); all_goals fail) | fail) (SubH.refl _)
  · skip
    refine awt_h (hm := []) rfl (wt_none rfl) (by solve | repeat' constructor) rfl (aop_lv (lv_rpa T0 rfl rfl rfl (by solve | repeat' constructor) (by omega) r1) rfl (blt_lt rfl) ?_)
    refine awt_fork ?_ ?_
    · skip
      refine awt_h (hm := []) rfl (wt_none rfl) (by solve | repeat' constructor) rfl (aop_lv (lv_cl1 T0 rfl rfl rfl (by solve | repeat' constructor) rfl) rfl (blt_lt rfl) ?_)
      refine awt_h (hm := []) rfl (wt_none rfl) (by solve | repeat' constructor) rfl (st_call T0 (wider_p (F k) a b) rfl rfl rfl rfl (by first | exact callee_lit | exact callee_v | exact callee_fn | assumption) (by solve | repeat' constructor) (by first | rfl | assumption) rfl ?_)
      rintro _ rfl
      refine awt_h (hm := []) rfl (wt_none rfl) (by solve | repeat' constructor) rfl (st_call T0 (wider_p (M k) c b) rfl rfl rfl rfl (by first | exact callee_lit | exact callee_v | exact callee_fn | assumption) (by solve | repeat' constructor) (by first | rfl | assumption) rfl ?_)
      rintro _ rfl
      refine awt_po rfl (wt_none rfl) (pv_ix_own T0 rfl rfl rfl rfl (by omega) (by first | exact (rfl : Int.toNat 0 = 0) | exact Int.toNat_natCast _ | rfl)) rfl rfl ?_
      refine awt_s (md := fun _ => True) rfl (wt_none rfl) (aop_store_rp T0 rfl rfl rfl rfl rfl rfl rfl rfl (by solve | repeat' constructor) (by first | omega | (simp; omega)) (by omega) rfl trivial ?_)
      first
        | refine awe_p rfl (wt_none rfl) (pv_ix_t T0 rfl rfl rfl rfl (by omega) (by first | exact (rfl : Int.toNat 0 = 0) | exact Int.toNat_natCast _ | rfl)) rfl rfl ?_
        | refine awe_p rfl (wt_none rfl) (pv_ix_own T0 rfl rfl rfl rfl (by omega) (by first | exact (rfl : Int.toNat 0 = 0) | exact Int.toNat_natCast _ | rfl)) rfl rfl ?_
        | refine awe_p rfl (wt_none rfl) (pv_ix_arr T0 rfl rfl rfl rfl (by omega) (by simp; rfl)) rfl rfl ?_
      refine awe_s (md := fun _ => True) rfl (wt_none rfl) (aop_store_rp T0 rfl rfl rfl rfl rfl rfl rfl rfl (by solve | repeat' constructor) (by first | omega | (simp; omega)) (by omega) rfl trivial ?_)
      refine awe_end ?_
      simp only [cellsA]
      rw [s1, s2]
      exact cut_n ⟨rfl, rfl⟩ (by first | ((repeat' (first | exact True.intro | refine ⟨rfl, ?_⟩)); all_goals fail) | fail) (SubH.refl _)
    · skip
      refine awt_h (hm := []) rfl (wt_none rfl) (by solve | repeat' constructor) rfl (st_call T0 (wider_p (F k) a b) rfl rfl rfl rfl (by first | exact callee_lit | exact callee_v | exact callee_fn | assumption) (by solve | repeat' constructor) (by first | rfl | assumption) rfl ?_)
      rintro _ rfl
      refine awt_fork ?_ ?_
      · skip
        refine awt_h (hm := []) rfl (wt_none rfl) (by solve | repeat' constructor) rfl (aop_lv (lv_cl1 T0 rfl rfl rfl (by solve | repeat' constructor) rfl) rfl (blt_lt rfl) ?_)
        refine awt_h (hm := []) rfl (wt_none rfl) (by solve | repeat' constructor) rfl (st_call T0 (wider_p (M k) c b) rfl rfl rfl rfl (by first | exact callee_lit | exact callee_v | exact callee_fn | assumption) (by solve | repeat' constructor) (by first | rfl | assumption) rfl ?_)
        rintro _ rfl
        refine awt_po rfl (wt_none rfl) (pv_ix_own T0 rfl rfl rfl rfl (by omega) (by first | exact (rfl : Int.toNat 0 = 0) | exact Int.toNat_natCast _ | rfl)) rfl rfl ?_
        refine awt_s (md := fun _ => True) rfl (wt_none rfl) (aop_store_rp T0 rfl rfl rfl rfl rfl rfl rfl rfl (by solve | repeat' constructor) (by first | omega | (simp; omega)) (by omega) rfl trivial ?_)
        first
          | refine awe_p rfl (wt_none rfl) (pv_ix_t T0 rfl rfl rfl rfl (by omega) (by first | exact (rfl : Int.toNat 0 = 0) | exact Int.toNat_natCast _ | rfl)) rfl rfl ?_
          | refine awe_p rfl (wt_none rfl) (pv_ix_own T0 rfl rfl rfl rfl (by omega) (by first | exact (rfl : Int.toNat 0 = 0) | exact Int.toNat_natCast _ | rfl)) rfl rfl ?_
          | refine awe_p rfl (wt_none rfl) (pv_ix_arr T0 rfl rfl rfl rfl (by omega) (by simp; rfl)) rfl rfl ?_
        refine awe_s (md := fun _ => True) rfl (wt_none rfl) (aop_store_rp T0 rfl rfl rfl rfl rfl rfl rfl rfl (by solve | repeat' constructor) (by first | omega | (simp; omega)) (by omega) rfl trivial ?_)
        refine awe_end ?_
        simp only [cellsA]
        rw [s1, s2]
        exact cut_n ⟨rfl, rfl⟩ (by first | ((repeat' (first | exact True.intro | refine ⟨rfl, ?_⟩)); all_goals fail) | fail) (SubH.refl _)
      · skip
        refine awt_h (hm := []) rfl (wt_none rfl) (by solve | repeat' constructor) rfl (st_call T0 (wider_p (M k) c b) rfl rfl rfl rfl (by first | exact callee_lit | exact callee_v | exact callee_fn | assumption) (by solve | repeat' constructor) (by first | rfl | assumption) rfl ?_)
        rintro _ rfl
        refine awt_po rfl (wt_none rfl) (pv_ix_own T0 rfl rfl rfl rfl (by omega) (by first | exact (rfl : Int.toNat 0 = 0) | exact Int.toNat_natCast _ | rfl)) rfl rfl ?_
        refine awt_fork ?_ ?_
        · skip
          refine awt_h (hm := []) rfl (wt_none rfl) (by solve | repeat' constructor) rfl (aop_lv (lv_cl1 T0 rfl rfl rfl (by solve | repeat' constructor) rfl) rfl (blt_lt rfl) ?_)
          refine awt_s (md := fun _ => True) rfl (wt_none rfl) (aop_store_rp T0 rfl rfl rfl rfl rfl rfl rfl rfl (by solve | repeat' constructor) (by first | omega | (simp; omega)) (by omega) rfl trivial ?_)
          first
            | refine awe_p rfl (wt_none rfl) (pv_ix_t T0 rfl rfl rfl rfl (by omega) (by first | exact (rfl : Int.toNat 0 = 0) | exact Int.toNat_natCast _ | rfl)) rfl rfl ?_
            | refine awe_p rfl (wt_none rfl) (pv_ix_own T0 rfl rfl rfl rfl (by omega) (by first | exact (rfl : Int.toNat 0 = 0) | exact Int.toNat_natCast _ | rfl)) rfl rfl ?_
            | refine awe_p rfl (wt_none rfl) (pv_ix_arr T0 rfl rfl rfl rfl (by omega) (by simp; rfl)) rfl rfl ?_
          refine awe_s (md := fun _ => True) rfl (wt_none rfl) (aop_store_rp T0 rfl rfl rfl rfl rfl rfl rfl rfl (by solve | repeat' constructor) (by first | omega | (simp; omega)) (by omega) rfl trivial ?_)
          refine awe_end ?_
          simp only [cellsA]
          rw [s1, s2]
          exact cut_n ⟨rfl, rfl⟩ (by first | ((repeat' (first | exact True.intro | refine ⟨rfl, ?_⟩)); all_goals fail) | fail) (SubH.refl _)
        · skip
          refine awt_h (hm := _) rfl (wt_none rfl) ?sub rfl (aop_store_rp_o T0 rfl rfl rfl rfl rfl rfl rfl rfl (by solve | repeat' constructor) (by first | omega | (simp; omega)) (by omega) rfl ?_)
          case sub => exact (by solve | repeat' constructor)
          refine awt_h (hm := []) rfl (wt_none rfl) (by solve | repeat' constructor) rfl (aop_lv (lv_cl1 T0 rfl rfl rfl (by solve | repeat' constructor) rfl) rfl (blt_lt rfl) ?_)
          refine awt_n1 rfl (wt_none rfl) (pv_ix_own T0 rfl rfl rfl rfl (by omega) (by first | exact (rfl : Int.toNat 0 = 0) | exact Int.toNat_natCast _ | rfl)) rfl rfl rfl ?_
          refine awt_s (md := fun _ => True) rfl (wt_none rfl) (aop_store_rp T0 rfl rfl rfl rfl rfl rfl rfl rfl (by solve | repeat' constructor) (by first | omega | (simp; omega)) (by omega) rfl trivial ?_)
          refine awe_end ?_
          simp only [cellsA]
          rw [s1, s2]
          exact cut_n ⟨rfl, rfl⟩ (by first | ((repeat' (first | exact True.intro | refine ⟨rfl, ?_⟩)); all_goals fail) | fail) (SubH.refl _)
end
theorem bnd_emp (f : Leaf → Int) (vs : List Leaf) : (bndL f vs).1 = vs.isEmpty := by
  rcases List.eq_nil_or_concat vs with rfl | ⟨l, x, rfl⟩
  · rfl
  · rw [List.concat_eq_append, bnd_snoc]; simp
/-- the memory of Fills' function -/
abbrev fiE (g1 g2 g3 g6 gF gM : Nat) (cp : Bool) (p : PostD) (vs : List Leaf) : List Ent :=
  [.cl g1 34 [.t (ordsT cp p.ords)], .cl g2 45 [.v (slV gF p.ords.length)], .cl g6 4 [boolA vs.isEmpty], .cl g3 45 [.v (slV gM p.ords.length)], .rw (slV gF p.ords.length) 54 2 (gRows (fun i => (bndL (filF i) vs).2) p.ords.length), .rw (slV gM p.ords.length) 54 2 (gRows (fun i => (bndL (filM i) vs).2) p.ords.length)]
theorem fills1_p (g1 g2 g3 g6 gF gM : Nat) (cp c2 c3 : Bool) (p : PostD) (hv : VPost p) (vs : List Leaf) (x : Leaf) (hl : x.1.length ≤ 1000) (hs : ∀ s ∈ x.1, NumOk s) :
    ACall Try.prog 63 [.t (salesT c2 x.1), .t (intsT c3 x.2), .v (ptrV g1), .v (ptrV g2), .v (ptrV g6), .v (ptrV g3)] (fiE g1 g2 g3 g6 gF gM cp p vs) (fun r h' => r = boolA false ∧ h' = fiE g1 g2 g3 g6 gF gM cp p (vs ++ [x])) := by
  have hlen := hv.len
  have hne : (vs ++ [x]).isEmpty = false := by simp
  have e0 : ∀ f : Nat → Leaf → Int, gRows (fun i => (bndL (f i) vs).2) p.ords.length = gRows (fun i => if i < 0 then (bndL (f i) (vs ++ [x])).2 else (bndL (f i) vs).2) p.ords.length := fun f => by
    congr 1
  unfold fiE
  rw [e0 filF, e0 filM]
  clear e0
  refine acall_of_awp T0 Try.func63 rfl rfl rfl ?_
  repeat (first | refine awp_seq ?_ | refine awp_block ?_ | refine awp_region_lit rfl ?_ | (show AWL _ _ _ (⟨_, .move _, _, _, _, _⟩ :: _) _ _ _; refine awl_pw (wt_none rfl) (pv_move rfl rfl) rfl rfl ?_) | (show AWL _ _ _ (⟨_, .assign _, _, _, _, _⟩ :: _) _ _ _; refine awl_pw (wt_none rfl) (pv_assign rfl rfl) rfl rfl ?_) | (show AWL _ _ _ (⟨_, .load _ _, _, _, _, _⟩ :: _) _ _ _; refine awl_lw (wt_none rfl) (lv_cl1 T0 rfl rfl rfl (by solve | repeat' constructor) (by first | rfl | assumption)) rfl rfl rfl ?_) | (show AWL _ _ _ (⟨_, .fieldAddr _ _ _, _, _, _, _⟩ :: _) _ _ _; refine awl_pw (wt_none rfl) (pv_fa T0 rfl rfl rfl (by simp; rfl)) rfl rfl ?_) | (show AWL _ _ _ (⟨_, .call ⟨.builtin .len, _, _⟩, _, _, _, _⟩ :: _) _ _ _; refine awl_pw (wt_none rfl) (pv_len_t T0 rfl rfl rfl) rfl rfl ?_) | refine awl_nil ?_)
  refine awp_loop (fun m s h => ∃ (k : Nat), k ≤ p.ords.length ∧ m = p.ords.length - k ∧ s = [(0, .t (salesT c2 x.1)), (2, .v (ptrV g1)), (3, .v (ptrV g2)), (4, .v (ptrV g6)), (5, .v (ptrV g3)), (14, intA p.ords.length), (15, intA k)] ∧
    h = [.cl g1 34 [.t (ordsT cp p.ords)], .cl g2 45 [.v (slV gF p.ords.length)], .cl g6 4 [boolA vs.isEmpty], .cl g3 45 [.v (slV gM p.ords.length)], .rw (slV gF p.ords.length) 54 2 (gRows (fun i => if i < k then (bndL (filF i) (vs ++ [x])).2 else (bndL (filF i) vs).2) p.ords.length), .rw (slV gM p.ords.length) 54 2 (gRows (fun i => if i < k then (bndL (filM i) (vs ++ [x])).2 else (bndL (filM i) vs).2) p.ords.length)]) ?_ ⟨0, Nat.zero_le _, rfl, rfl, rfl⟩ (by first | ((repeat' (first | exact True.intro | refine ⟨rfl, ?_⟩)); all_goals fail) | fail) (by solve | repeat' constructor)
  rintro m s h ⟨k, hk, rfl, rfl, rfl⟩
  by_cases hkt : k < p.ords.length
  case neg =>
    obtain rfl : k = p.ords.length := by omega
    have e : ∀ f : Nat → Leaf → Int, gRows (fun i => if i < p.ords.length then (bndL (f i) (vs ++ [x])).2 else (bndL (f i) vs).2) p.ords.length = gRows (fun i => (bndL (f i) (vs ++ [x])).2) p.ords.length := fun f => by
      refine List.map_congr_left fun i hi => ?_
      simp [List.mem_range.1 hi]
    rw [e filF, e filM]
    repeat (first | refine awp_seq ?_ | refine awp_region_lit rfl ?_ | refine awp_exit ?_ | refine awp_ret ?_ | refine awp_cond_f rfl (by first | rfl | assumption | exact dF (by omega)) ?_ | (show AWL _ _ _ (⟨_, .assign _, _, _, _, _⟩ :: _) _ _ _; refine awl_pw (wt_none rfl) (pv_assign rfl rfl) rfl rfl ?_) | (show AWL _ _ _ (⟨_, .binOp .lss _ _ _ _, _, _, _, _⟩ :: _) _ _ _; refine awl_pw (wt_none rfl) (pv_lss rfl rfl rfl) rfl rfl ?_) | (show AWL _ _ _ (⟨_, .store _ _ _, _, _, _, _⟩ :: _) _ _ _; refine awl_hw (wt_none rfl) (st_store T0 rfl rfl rfl rfl rfl (by first | assumption | (simp only [cellsA]; rfl)) rfl rfl rfl (by solve | repeat' constructor) (by solve | repeat' constructor) trivial ?_)) | refine awl_nil ?_)
    refine body_r (h' := fiE g1 g2 g3 g6 gF gM cp p (vs ++ [x])) (.cons rfl .nil) (by unfold fiE; rw [hne]; exact (by solve | repeat' constructor)) ⟨rfl, rfl⟩
  have hst : ∀ f : Nat → Leaf → Int, ∀ q, q < p.ords.length → (if q < k + 1 then (bndL (f q) (vs ++ [x])).2 else (bndL (f q) vs).2) = if q = k then wid vs.isEmpty (if k < k then (bndL (f k) (vs ++ [x])).2 else (bndL (f k) vs).2) (f k x) else (if q < k then (bndL (f q) (vs ++ [x])).2 else (bndL (f q) vs).2) := fun f q _ => by
    by_cases e : q = k
    · subst e
      rw [if_pos (Nat.lt_succ_self _), if_pos rfl, if_neg (Nat.lt_irrefl _), bnd_snoc, bnd_emp]
    · rw [if_neg e]
      by_cases e2 : q < k
      · rw [if_pos e2, if_pos (by omega)]
      · rw [if_neg e2, if_neg (by omega)]
  repeat (first | refine awp_seq ?_ | refine awp_block ?_ | refine awp_region_lit rfl ?_ | refine awp_skip ?_ | refine awp_cond_t rfl (by first | rfl | assumption | exact dT (by omega)) ?_ | (show AWL _ _ _ (⟨_, .move _, _, _, _, _⟩ :: _) _ _ _; refine awl_pw (wt_none rfl) (pv_move rfl rfl) rfl rfl ?_) | (show AWL _ _ _ (⟨_, .assign _, _, _, _, _⟩ :: _) _ _ _; refine awl_pw (wt_none rfl) (pv_assign rfl rfl) rfl rfl ?_) | (show AWL _ _ _ (⟨_, .binOp .lss _ _ _ _, _, _, _, _⟩ :: _) _ _ _; refine awl_pw (wt_none rfl) (pv_lss rfl rfl rfl) rfl rfl ?_) | refine awl_nil ?_)
  refine awl_hw (wt_none rfl) (st_call T0 (filled_p c2 x.1 k hl hs) rfl rfl rfl rfl (by first | exact callee_lit | exact callee_v | exact callee_fn | assumption) (by solve | repeat' constructor) (by first | rfl | assumption) rfl ?_)
  rintro _ rfl
  repeat (first | refine then_n ?_ | (show AWL _ _ _ (⟨_, .move _, _, _, _, _⟩ :: _) _ _ _; refine awl_pw (wt_none rfl) (pv_move rfl rfl) rfl rfl ?_) | (show AWL _ _ _ (⟨_, .assign _, _, _, _, _⟩ :: _) _ _ _; refine awl_pw (wt_none rfl) (pv_assign rfl rfl) rfl rfl ?_) | (show AWL _ _ _ (⟨_, .extract _ _, _, _, _, _⟩ :: _) _ _ _; refine awl_pw (wt_none rfl) (pv_extract rfl rfl rfl) rfl rfl ?_) | refine awl_nil ?_)
  refine awp_cutB _ (awp_weak (by first | ((repeat' (first | exact True.intro | refine ⟨rfl, ?_⟩)); all_goals fail) | fail) (by solve | repeat' constructor) (nn_5 (u0 := .t (salesT c2 x.1)) (u2 := .v (ptrV g1)) (u14 := intA p.ords.length) (u15 := intA k) (g2 := g2) (g3 := g3) (g6 := g6) (gF := gF) (gM := gM) (n := p.ords.length) (k := k) (F := fun i => if i < k then (bndL (filF i) (vs ++ [x])).2 else (bndL (filF i) vs).2) (M := fun i => if i < k then (bndL (filM i) (vs ++ [x])).2 else (bndL (filM i) vs).2) (F' := fun i => if i < k + 1 then (bndL (filF i) (vs ++ [x])).2 else (bndL (filF i) vs).2) (M' := fun i => if i < k + 1 then (bndL (filM i) (vs ++ [x])).2 else (bndL (filM i) vs).2) (a := filF k x) (c := filM k x) (b := vs.isEmpty) (rest := [.cl g1 34 [.t (ordsT cp p.ords)]]) hkt hlen (hst filF) (hst filM) rfl)) ?_
  rintro s h ⟨rfl, rfl⟩
  repeat (first | refine awp_region_lit rfl ?_ | (show AWL _ _ _ (⟨_, .move _, _, _, _, _⟩ :: _) _ _ _; refine awl_pw (wt_none rfl) (pv_move rfl rfl) rfl rfl ?_) | (show AWL _ _ _ (⟨_, .binOp .add _ _ _ _, _, _, _, _⟩ :: _) _ _ _; refine awl_pw (wt_none rfl) (pv_add rfl rfl rfl (by first | assumption | exact wr64 (by omega))) rfl rfl ?_) | refine awl_nil ?_)
  refine rnd_n _ _ _ ?_ ⟨k + 1, hkt, rfl, rfl, rfl⟩ (by first | ((repeat' (first | exact True.intro | refine ⟨rfl, ?_⟩)); all_goals fail) | fail) (by solve | repeat' constructor)
  omega
/-- what Fills returns -/
def fillsR (p : PostD) : List (Int × Int) × List (Int × Int) × Int :=
  if faultN p ≠ 0 then ([], [], faultN p) else ((List.range p.ords.length).map fun i => (bndL (filF i) (leaves p)).2, (List.range p.ords.length).map fun i => (bndL (filM i) (leaves p)).2, 0)
theorem fills_en (g1 g2 g3 g6 gF gM : Nat) (cp : Bool) (p : PostD) (hv : VPost p) : EnOk p (.v (.func (.func 63) #[] #[ptrV g1, ptrV g2, ptrV g6, ptrV g3])) 63 [] [.v (ptrV g1), .v (ptrV g2), .v (ptrV g6), .v (ptrV g3)] (fun _ => false) (fun vs => packOb (fiE g1 g2 g3 g6 gF gM cp p vs)) :=
  ⟨callee_v (a := []) (b := [ptrV g1, ptrV g2, ptrV g6, ptrV g3]), rfl, rfl, fun vs x hx => acall_packT (fills1_p g1 g2 g3 g6 gF gM cp true true p hv vs x (by have := leaf_len hv hx; omega) (fun s hs => sok_num hv (leaf_sok hv hx s hs)))⟩
section
variable {g1 g2 g3 : Nat} {cp : Bool} {p : PostD} {u4 : AV}
theorem nq_4 (hl : p.ords.length ≤ 1000) {ops : Array Oper} (h : regF Try.f29 4 = some ops) :
    AWP Try.prog Try.f29.ntmps none (.region 4 ops true) (cutQ (fun s h => ∃ gF gM, s = [(1, .v (ptrV g1)), (2, .v (ptrV g2)), (3, .v (ptrV g3)), (4, u4)] ∧ h = [.cl g1 34 [.t (ordsT cp p.ords)], .cl g2 45 [.v (slV gF p.ords.length)], .cl g3 45 [.v (slV gM p.ords.length)], .rw (slV gF p.ords.length) 54 2 (List.replicate p.ords.length [intA 0, intA 0]), .rw (slV gM p.ords.length) 54 2 (List.replicate p.ords.length [intA 0, intA 0])]))
      [(1, .v (ptrV g1)), (2, .v (ptrV g2)), (3, .v (ptrV g3)), (4, u4)] [.cl g1 34 [.t (ordsT cp p.ords)], .cl g2 45 [.v (.slice none 0 0)], .cl g3 45 [.v (.slice none 0 0)]] := by
  cases h
  refine awp_tree T0 [(0, 0), (1, 1), (2, 0), (4, 0), (5, 1), (6, 0), (3, 2), (7, 2), (8, 2), (9, 3)] (.op 0 0 (.op 1 1 (.op 2 0 (.op 4 0 (.op 5 1 (.op 6 0 (.fork 3 (.fork 7 (.op 8 2 (.op 9 3 .stop)) 8 (.op 7 2 (.op 9 3 .stop))) 7 (.op 3 2 (.op 8 2 (.op 9 3 .stop)))))))))) [.cl g1 _ _] rfl (by kernel_rfl) (by solve | repeat' constructor) ?_
  refine awt_po rfl (wt_none rfl) (pv_fa T0 rfl rfl rfl (by simp; rfl)) rfl rfl ?_
  refine awt_lo rfl (wt_none rfl) (lv_cl1 T0 rfl rfl rfl (by solve | repeat' constructor) (by first | rfl | assumption)) rfl rfl rfl ?_
  refine awt_po rfl (wt_none rfl) (pv_len_t T0 rfl rfl rfl) rfl rfl ?_
  refine awt_po rfl (wt_none rfl) (pv_fa T0 rfl rfl rfl (by simp; rfl)) rfl rfl ?_
  refine awt_lo rfl (wt_none rfl) (lv_cl1 T0 rfl rfl rfl (by solve | repeat' constructor) (by first | rfl | assumption)) rfl rfl rfl ?_
  refine awt_po rfl (wt_none rfl) (pv_len_t T0 rfl rfl rfl) rfl rfl ?_
  refine awt_fork ?_ ?_
  · skip
    (first | refine awt_h (hm := []) rfl (wt_none rfl) (by solve | repeat' constructor) rfl (aop_makeG T0 (row := [intA 0, intA 0]) rfl rfl rfl rfl rfl rfl rfl rfl (by omega) rfl rfl rfl ?_) | refine awt_s (md := fun _ => True) rfl (wt_none rfl) (aop_makeG T0 (row := [intA 0, intA 0]) rfl rfl rfl rfl rfl rfl rfl rfl (by omega) rfl rfl rfl ?_) | refine awe_s (md := fun _ => True) rfl (wt_none rfl) (aop_makeG T0 (row := [intA 0, intA 0]) rfl rfl rfl rfl rfl rfl rfl rfl (by omega) rfl rfl rfl ?_)); intro g15
    refine awt_fork ?_ ?_
    · skip
      (first | refine awt_h (hm := []) rfl (wt_none rfl) (by solve | repeat' constructor) rfl (aop_makeG T0 (row := [intA 0, intA 0]) rfl rfl rfl rfl rfl rfl rfl rfl (by omega) rfl rfl rfl ?_) | refine awt_s (md := fun _ => True) rfl (wt_none rfl) (aop_makeG T0 (row := [intA 0, intA 0]) rfl rfl rfl rfl rfl rfl rfl rfl (by omega) rfl rfl rfl ?_) | refine awe_s (md := fun _ => True) rfl (wt_none rfl) (aop_makeG T0 (row := [intA 0, intA 0]) rfl rfl rfl rfl rfl rfl rfl rfl (by omega) rfl rfl rfl ?_)); intro g19
      refine awt_h (hm := _) rfl (wt_none rfl) ?sub rfl (st_store_o T0 rfl rfl rfl rfl rfl (by first | assumption | (simp only [cellsA]; rfl)) rfl rfl rfl (by solve | repeat' constructor) (by solve | repeat' constructor) ?_)
      case sub => exact (by solve | repeat' constructor)
      refine awt_s (md := fun _ => True) rfl (wt_none rfl) (st_store T0 rfl rfl rfl rfl rfl (by first | assumption | (simp only [cellsA]; rfl)) rfl rfl rfl (by solve | repeat' constructor) (by solve | repeat' constructor) trivial ?_)
      refine awe_end ?_
      exact cut_n ⟨_, _, rfl, rfl⟩ (by first | ((repeat' (first | exact True.intro | refine ⟨rfl, ?_⟩)); all_goals fail) | fail) (by solve | repeat' constructor)
    · skip
      refine awt_h (hm := _) rfl (wt_none rfl) ?sub rfl (st_store_o T0 rfl rfl rfl rfl rfl (by first | assumption | (simp only [cellsA]; rfl)) rfl rfl rfl (by solve | repeat' constructor) (by solve | repeat' constructor) ?_)
      case sub => exact (by solve | repeat' constructor)
      (first | refine awt_h (hm := []) rfl (wt_none rfl) (by solve | repeat' constructor) rfl (aop_makeG T0 (row := [intA 0, intA 0]) rfl rfl rfl rfl rfl rfl rfl rfl (by omega) rfl rfl rfl ?_) | refine awt_s (md := fun _ => True) rfl (wt_none rfl) (aop_makeG T0 (row := [intA 0, intA 0]) rfl rfl rfl rfl rfl rfl rfl rfl (by omega) rfl rfl rfl ?_) | refine awe_s (md := fun _ => True) rfl (wt_none rfl) (aop_makeG T0 (row := [intA 0, intA 0]) rfl rfl rfl rfl rfl rfl rfl rfl (by omega) rfl rfl rfl ?_)); intro g19
      refine awt_s (md := fun _ => True) rfl (wt_none rfl) (st_store T0 rfl rfl rfl rfl rfl (by first | assumption | (simp only [cellsA]; rfl)) rfl rfl rfl (by solve | repeat' constructor) (by solve | repeat' constructor) trivial ?_)
      refine awe_end ?_
      exact cut_n ⟨_, _, rfl, rfl⟩ (by first | ((repeat' (first | exact True.intro | refine ⟨rfl, ?_⟩)); all_goals fail) | fail) (by solve | repeat' constructor)
  · skip
    (first | refine awt_h (hm := []) rfl (wt_none rfl) (by solve | repeat' constructor) rfl (aop_makeG T0 (row := [intA 0, intA 0]) rfl rfl rfl rfl rfl rfl rfl rfl (by omega) rfl rfl rfl ?_) | refine awt_s (md := fun _ => True) rfl (wt_none rfl) (aop_makeG T0 (row := [intA 0, intA 0]) rfl rfl rfl rfl rfl rfl rfl rfl (by omega) rfl rfl rfl ?_) | refine awe_s (md := fun _ => True) rfl (wt_none rfl) (aop_makeG T0 (row := [intA 0, intA 0]) rfl rfl rfl rfl rfl rfl rfl rfl (by omega) rfl rfl rfl ?_)); intro g19
    (first | refine awt_h (hm := []) rfl (wt_none rfl) (by solve | repeat' constructor) rfl (aop_makeG T0 (row := [intA 0, intA 0]) rfl rfl rfl rfl rfl rfl rfl rfl (by omega) rfl rfl rfl ?_) | refine awt_s (md := fun _ => True) rfl (wt_none rfl) (aop_makeG T0 (row := [intA 0, intA 0]) rfl rfl rfl rfl rfl rfl rfl rfl (by omega) rfl rfl rfl ?_) | refine awe_s (md := fun _ => True) rfl (wt_none rfl) (aop_makeG T0 (row := [intA 0, intA 0]) rfl rfl rfl rfl rfl rfl rfl rfl (by omega) rfl rfl rfl ?_)); intro g15
    refine awt_h (hm := _) rfl (wt_none rfl) ?sub rfl (st_store_o T0 rfl rfl rfl rfl rfl (by first | assumption | (simp only [cellsA]; rfl)) rfl rfl rfl (by solve | repeat' constructor) (by solve | repeat' constructor) ?_)
    case sub => exact (by solve | repeat' constructor)
    refine awt_s (md := fun _ => True) rfl (wt_none rfl) (st_store T0 rfl rfl rfl rfl rfl (by first | assumption | (simp only [cellsA]; rfl)) rfl rfl rfl (by solve | repeat' constructor) (by solve | repeat' constructor) trivial ?_)
    refine awe_end ?_
    exact cut_n ⟨_, _, rfl, rfl⟩ (by first | ((repeat' (first | exact True.intro | refine ⟨rfl, ?_⟩)); all_goals fail) | fail) (by solve | repeat' constructor)
end
theorem grep_eq (f : Nat → Int × Int) (n : Nat) (h : ∀ i, f i = (0, 0)) : List.replicate n [AV.v (Value.int IntKind.i64 0), AV.v (Value.int IntKind.i64 0)] = gRows f n := by
  refine List.ext_getElem (by simp [gRows]) fun i h1 h2 => ?_
  simp [gRows, h, rngRow]
section
variable {g2 g3 : Nat} {A B : AV} {u4 : AV}
theorem nq_7 {l1 l2 : List (Int × Int)} {ops : Array Oper} (h : regF Try.f29 7 = some ops) :
    AWP Try.prog Try.f29.ntmps none (.region 7 ops true) (cutQ (fun s h => s = [(2, .v (ptrV g2)), (3, .v (ptrV g3)), (4, intA 0)] ∧ h = [.cl g2 45 [.t (rngsT true l1)], .cl g3 45 [.t (rngsT true l2)]]))
      [(2, .v (ptrV g2)), (3, .v (ptrV g3)), (4, u4)] [.cl g2 45 [.t (rngsT true l1)], .cl g3 45 [.t (rngsT true l2)]] := by
  cases h
  refine awp_tree T0 [(1, 1), (0, 2), (2, 2), (3, 3), (4, 0)] (.op 1 1 (.op 0 2 (.op 2 2 (.op 3 3 (.op 4 0 .stop))))) [.cl g3 _ _] rfl (by kernel_rfl) (by solve | repeat' constructor) ?_
  refine awt_lo rfl (wt_none rfl) (lv_cl1 T0 rfl rfl rfl (by solve | repeat' constructor) (by first | rfl | assumption)) rfl rfl rfl ?_
  refine awt_h (hm := []) rfl (wt_none rfl) (by solve | repeat' constructor) rfl (aop_lv (lv_cl1 T0 rfl rfl rfl (by solve | repeat' constructor) rfl) rfl (blt_lt rfl) ?_)
  refine awt_h (hm := _) rfl (wt_none rfl) ?sub rfl (st_store_o T0 rfl rfl rfl rfl rfl (by first | assumption | (simp only [cellsA]; rfl)) rfl rfl rfl (by solve | repeat' constructor) (by solve | repeat' constructor) ?_)
  case sub => exact (by solve | repeat' constructor)
  refine awt_s (md := fun _ => True) rfl (wt_none rfl) (st_store T0 rfl rfl rfl rfl rfl (by first | assumption | (simp only [cellsA]; rfl)) rfl rfl rfl (by solve | repeat' constructor) (by solve | repeat' constructor) trivial ?_)
  refine awe_p rfl (wt_none rfl) (pv_assign rfl rfl) rfl rfl ?_
  refine awe_end ?_
  exact cut_n ⟨rfl, rfl⟩ (by first | ((repeat' (first | exact True.intro | refine ⟨rfl, ?_⟩)); all_goals fail) | fail) (by solve | repeat' constructor)
end
theorem Fills_p (cp : Bool) (p : PostD) (hl : p.ords.length ≤ 1000) : PCall Try.prog 29 [postA cp p] (fun r => r = .tup [.t (rngsT true (fillsR p).1), .t (rngsT true (fillsR p).2.1), intA (fillsR p).2.2]) := by
  refine acall_of_awp T0 Try.func29 rfl rfl rfl ?_
  have hfr := fault_rng p
  unfold fillsR
  repeat (first | refine awp_seq ?_ | refine awp_region_lit rfl ?_)
  refine awl_hw (wt_none rfl) (st_box rfl rfl (by first | rfl | assumption) (by first | assumption | (simp only [cellsA]; rfl)) rfl rfl ?_)
  intro g1
  skip
  refine awl_hw (wt_none rfl) (st_alloc T0 rfl rfl rfl rfl (by simp only [Value.cells, List.toList_toArray, List.map_cons, List.map_nil]; rfl) ?_)
  intro g2
  skip
  refine awl_hw (wt_none rfl) (st_alloc T0 rfl rfl rfl rfl (by simp only [Value.cells, List.toList_toArray, List.map_cons, List.map_nil]; rfl) ?_)
  intro g3
  repeat (first | refine awp_seq ?_ | refine awp_region_lit rfl ?_ | (show AWL _ _ _ (⟨_, .assign _, _, _, _, _⟩ :: _) _ _ _; refine awl_pw (wt_none rfl) (pv_assign rfl rfl) rfl rfl ?_) | (show AWL _ _ _ (⟨_, .load _ _, _, _, _, _⟩ :: _) _ _ _; refine awl_lw (wt_none rfl) (lv_cla T0 rfl rfl rfl (by solve | repeat' constructor) rfl) rfl rfl rfl ?_) | refine awl_nil ?_)
  refine awl_hw (wt_none rfl) (st_call T0 (check_p cp p hl) rfl rfl rfl rfl (by first | exact callee_lit | exact callee_v | exact callee_fn | assumption) (by solve | repeat' constructor) (by first | rfl | assumption) rfl ?_)
  rintro _ rfl
  by_cases h1 : faultN p = 0
  case neg =>
    have d1 : decide (faultN p ≠ 0) = true := decide_eq_true h1
    rw [if_pos h1]
    repeat (first | refine awp_seq ?_ | refine awp_region_lit rfl ?_ | refine awp_ret ?_ | refine then_n ?_ | refine then_r ?_ | refine awp_cond_t rfl (by first | rfl | assumption | exact dT (by omega)) ?_ | (show AWL _ _ _ (⟨_, .move _, _, _, _, _⟩ :: _) _ _ _; refine awl_pw (wt_none rfl) (pv_move rfl rfl) rfl rfl ?_) | (show AWL _ _ _ (⟨_, .assign _, _, _, _, _⟩ :: _) _ _ _; refine awl_pw (wt_none rfl) (pv_assign rfl rfl) rfl rfl ?_) | (show AWL _ _ _ (⟨_, .binOp .neq _ _ _ _, _, _, _, _⟩ :: _) _ _ _; refine awl_pw (wt_none rfl) (pv_neq rfl rfl rfl) rfl rfl ?_) | (show AWL _ _ _ (⟨_, .store _ _ _, _, _, _, _⟩ :: _) _ _ _; refine awl_hw (wt_none rfl) (st_store T0 rfl rfl rfl rfl rfl (by first | assumption | (simp only [cellsA]; rfl)) rfl rfl rfl (by solve | repeat' constructor) (by solve | repeat' constructor) trivial ?_)) | refine awl_nil ?_)
    refine bodyQ_ghost (ghost_nilrow 54 2) ?_
    refine bodyQ_ghost (ghost_freeze_cell (g := g2) (j := 0) (v := .slice none 0 0) (E := 54) (sz := 2) (n := 0) (rows := []) (fun q => rngL (([] : List (Int × Int)).getD q default)) (by solve | repeat' constructor) (by solve | repeat' constructor) rfl rfl rfl (fun k hk => absurd hk (Nat.not_lt_zero _))) ?_
    refine bodyQ_ghost (ghost_nilrow 54 2) ?_
    refine bodyQ_ghost (ghost_freeze_cell (g := g3) (j := 0) (v := .slice none 0 0) (E := 54) (sz := 2) (n := 0) (rows := []) (fun q => rngL (([] : List (Int × Int)).getD q default)) (by solve | repeat' constructor) (by solve | repeat' constructor) rfl rfl rfl (fun k hk => absurd hk (Nat.not_lt_zero _))) ?_
    exact body_p (.cons ⟨g2, _, _, _, _, rfl, rfl, (by solve | repeat' constructor), Nat.le_refl _, .inr rfl, rfl⟩ (.cons ⟨g3, _, _, _, _, rfl, rfl, (by solve | repeat' constructor), Nat.le_refl _, .inr rfl, rfl⟩ (.cons rfl .nil))) rfl
  have d1 : decide (faultN p ≠ 0) = false := decide_eq_false (fun h => h h1)
  rw [if_neg (fun h => h h1)]
  have hv := vpost h1
  repeat (first | refine awp_seq ?_ | refine awp_region_lit rfl ?_ | refine awp_skip ?_ | refine then_n ?_ | refine awp_cond_f rfl (by first | rfl | assumption | exact dF (by omega)) ?_ | (show AWL _ _ _ (⟨_, .move _, _, _, _, _⟩ :: _) _ _ _; refine awl_pw (wt_none rfl) (pv_move rfl rfl) rfl rfl ?_) | (show AWL _ _ _ (⟨_, .assign _, _, _, _, _⟩ :: _) _ _ _; refine awl_pw (wt_none rfl) (pv_assign rfl rfl) rfl rfl ?_) | (show AWL _ _ _ (⟨_, .binOp .neq _ _ _ _, _, _, _, _⟩ :: _) _ _ _; refine awl_pw (wt_none rfl) (pv_neq rfl rfl rfl) rfl rfl ?_) | refine awl_nil ?_)
  refine awp_cut _ (awp_weak (by first | ((repeat' (first | exact True.intro | refine ⟨rfl, ?_⟩)); all_goals fail) | fail) (by solve | repeat' constructor) (nq_4 (g1 := g1) (g2 := g2) (g3 := g3) (cp := cp) (p := p) (u4 := intA 0) hl rfl)) ?_
  rintro s h ⟨gF, gM, rfl, rfl⟩
  rw [grep_eq (fun i => (bndL (filF i) []).2) p.ords.length (fun _ => rfl)]
  repeat (first | refine awp_seq ?_ | refine awp_region_lit rfl ?_)
  refine awl_hw (wt_none rfl) (st_alloc T0 rfl rfl rfl rfl (by simp only [Value.cells, List.toList_toArray, List.map_cons, List.map_nil]; rfl) ?_)
  intro g6
  repeat (first | refine awp_seq ?_ | refine awp_region_lit rfl ?_ | (show AWL _ _ _ (⟨_, .load _ _, _, _, _, _⟩ :: _) _ _ _; refine awl_lw (wt_none rfl) (lv_cla T0 rfl rfl rfl (by solve | repeat' constructor) rfl) rfl rfl rfl ?_) | (show AWL _ _ _ (⟨_, .store _ _ _, _, _, _, _⟩ :: _) _ _ _; refine awl_hw (wt_none rfl) (st_store T0 rfl rfl rfl rfl rfl (by first | assumption | (simp only [cellsA]; rfl)) rfl rfl rfl (by solve | repeat' constructor) (by solve | repeat' constructor) trivial ?_)) | refine awl_nil ?_)
  refine awl_pw (wt_none rfl) (pv_makeFunc_v (fs := []) (cs := [ptrV g1, ptrV g2, ptrV g6, ptrV g3]) rfl rfl rfl) rfl rfl ?_
  skip
  have hup : uptoL (fun _ : Leaf => false) (leaves p) = leaves p := upto_none (by simp)
  have hC := acall_unpackT (truths_p cp p hv (fills_en g1 g2 g3 g6 gF gM cp p hv))
  rw [hup] at hC
  refine awl_hw (wt_none rfl) (st_acall T0 (hC) rfl rfl rfl rfl (by first | exact callee_lit | exact callee_v | exact callee_fn | assumption) (by solve | repeat' constructor) (by first | rfl | assumption) rfl (by first | ((repeat' (first | exact SubH.refl _ | apply SubH.cons | exact Pick.here | apply Pick.there)); all_goals fail) | fail) (fun _ _ => trivial) ?_)
  rintro r h ⟨rfl, rfl⟩
  simp only [List.cons_append, List.nil_append]
  refine awl_ghost (ghost_freeze_cell (g := g2) (j := 0) (v := slV gF p.ords.length) (E := 54) (sz := 2) (n := p.ords.length) (rows := gRows (fun i => (bndL (filF i) (leaves p)).2) p.ords.length) (fun q => rngL (((List.range p.ords.length).map (fun i => (bndL (filF i) (leaves p)).2)).getD q default)) (by solve | repeat' constructor) (by solve | repeat' constructor) rfl rfl (gRows_len _ _) gRows_tree) ?_
  refine awl_ghost (ghost_freeze_cell (g := g3) (j := 0) (v := slV gM p.ords.length) (E := 54) (sz := 2) (n := p.ords.length) (rows := gRows (fun i => (bndL (filM i) (leaves p)).2) p.ords.length) (fun q => rngL (((List.range p.ords.length).map (fun i => (bndL (filM i) (leaves p)).2)).getD q default)) (by solve | repeat' constructor) (by solve | repeat' constructor) rfl rfl (gRows_len _ _) gRows_tree) ?_
  have hr : ∀ f : Nat → Int × Int, (Tr.sl true 2 p.ords.length fun q => rngL (((List.range p.ords.length).map f).getD q default)) = rngsT true ((List.range p.ords.length).map f) := fun f => by unfold rngsT; simp
  rw [hr, hr]
  repeat (first | refine awp_seq ?_ | refine awl_nil ?_)
  refine awp_cut _ (awp_weak (by first | ((repeat' (first | exact True.intro | refine ⟨rfl, ?_⟩)); all_goals fail) | fail) (by solve | repeat' constructor) (nq_7 (g2 := g2) (g3 := g3) (u4 := intA 0) (l1 := (List.range p.ords.length).map (fun i => (bndL (filF i) (leaves p)).2)) (l2 := (List.range p.ords.length).map (fun i => (bndL (filM i) (leaves p)).2)) rfl)) ?_
  rintro s h ⟨rfl, rfl⟩
  repeat (first | refine awp_ret ?_)
  exact body_p (.cons ⟨g2, _, _, _, _, rfl, rfl, (by solve | repeat' constructor), Nat.le_refl _, .inr rfl, rfl⟩ (.cons ⟨g3, _, _, _, _, rfl, rfl, (by solve | repeat' constructor), Nat.le_refl _, .inr rfl, rfl⟩ (.cons rfl .nil))) rfl
end Go.Proofs.Yteaoclpikdmkiaa
