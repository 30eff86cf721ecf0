/- The machine for closed calls: regions, code, calls. -/
import Derived.Test.YtfiacjdkdjkiiaaEv4
import Derived.Test.YtfiacjdkdjkiiaaPj
namespace Go.Ev
open Go Go.RowKit Go.Tl
set_option linter.unusedVariables false
set_option linter.unusedSimpArgs false
noncomputable section
inductive Ex where
  | normal
  | ret
  | exit (id : Nat)
  deriving Inhabited
structure Fr where
  s : Tre Value
  ds : List Nat
  deriving Inhabited
structure Plan where
  t : PJ
  full : List (Nat × Nat)
  fk : Bool
structure Cx where
  P : Program
  T : TD
  M : Tre MP
  pl : Tre (Tre Plan)
  kn : Tre Value
structure Lv where
  call : Nat → List Value → St → Option (Value × St)
  code : Nat → Nat → Bool → Code → Fr → St → Option (Ex × Fr × St)
def put (N : Nat) (fr : Fr) (d : Option Nat) (v : Value) : Option Fr :=
  match d with
  | none => some fr
  | some d => cond (Nat.blt d N) (fz v fun v => match Tre.set 64 fr.s d (some v) with
    | none => none
    | some s' => some ⟨s', fr.ds⟩) none
def setAll (N : Nat) : Tre Value → List Nat → List Value → Option (Tre Value)
  | s, [], [] => some s
  | s, p :: ps, v :: vs => cond (Nat.blt p N) (fz v fun v => match Tre.set 64 s p (some v) with
    | none => none
    | some s' => setAll N s' ps vs) none
  | _, _, _ => none
def wantV (ops : List Oper) (s : Tre Value) (o : Oper) : Option Bool :=
  match o.guard with
  | none => some true
  | some (g, b) => match lget ops g with
    | none => none
    | some og => match og.dst with
      | none => none
      | some t => match s.get t with
        | some (.bool c) => match b, c with
          | true, true => some true
          | false, false => some true
          | _, _ => some false
        | some (.tuple a) => match a.toList with
          | [] => some false
          | _ => none
        | _ => none
def yieldE (L : Lv) (l : Nat) (vs : List Value) (st : St) : Option (Value × St) :=
  match st.m.get l with
  | some (.lp .ready pe f N s ps as body d) => match setAll N s ps vs with
    | none => none
    | some s1 => match L.code f N true as ⟨s1, []⟩ st with
      | some (.normal, fr1, st1) => match st1.m.get l with
        | some (.lp .ready pe f' N' s' ps' as' body' d') => match putO st1 l (.lp .busy pe f' N' s' ps' as' body' d') with
          | none => none
          | some st2 => match L.code f N true body fr1 st2 with
            | none => none
            | some (e, _, st3) => match st3.m.get l with
              | some (.lp _ _ f' N' s' ps' as' body' d') => match e with
                | .normal => (putO st3 l (.lp .ready none f' N' s' ps' as' body' d')).map fun st4 => (.bool true, st4)
                | .ret => (putO st3 l (.lp .done (some .ret) f' N' s' ps' as' body' d')).map fun st4 => (.bool false, st4)
                | .exit id => (putO st3 l (.lp .done (some (.exit id)) f' N' s' ps' as' body' d')).map fun st4 => (.bool false, st4)
              | _ => none
        | _ => none
      | _ => none
  | _ => none
def callE (L : Lv) (s : Tre Value) (st : St) : Op → Option (Value × St)
  | .call { callee := .value f, args := xs, argTypes := _ } => match lk s f with
    | some (.func fn cs ds) => match lks s xs.toList with
      | none => none
      | some vs => match fn with
        | .func g => L.call g (cs.toList ++ vs ++ ds.toList) st
        | .yield l => yieldE L l vs st
        | _ => none
    | _ => none
  | _ => none
def opk : Op → Nat
  | .load _ _ => 1
  | .lookup _ _ _ _ => 1
  | .alloc _ => 2
  | .box _ _ => 2
  | .buildSlice _ _ _ => 2
  | .makeSlice _ _ _ => 2
  | .makeMap _ _ => 2
  | .store _ _ _ => 2
  | .mapUpdate _ _ _ _ => 2
  | .mapEntry _ _ _ => 2
  | .entryStore _ _ _ _ => 2
  | .call { callee := .builtin .append, args := _, argTypes := _ } => 2
  | .call { callee := .builtin .copy, args := _, argTypes := _ } => 2
  | .call { callee := .builtin .clear, args := _, argTypes := _ } => 2
  | .call { callee := .value _, args := _, argTypes := _ } => 3
  | _ => 0
def withSt (st : St) : Option Value → Option (Value × St)
  | none => none
  | some v => some (v, st)
def withSt1 (st : St) : Option (Value × Nat) → Option (Value × St)
  | none => none
  | some (v, _) => some (v, st)
def stepK (C : Cx) (L : Lv) (o : Op) (s : Tre Value) (st : St) : Nat → Option (Value × St)
  | 0 => withSt st (evP C.T st.m s o)
  | 1 => withSt1 st (evL C.T C.M st.m s o)
  | 2 => evM C.T C.M st s o
  | _ => callE L s st o
def stepO (C : Cx) (L : Lv) (o : Oper) (s : Tre Value) (st : St) : Option (Value × St) := stepK C L o.op s st (opk o.op)
def evOps (C : Cx) (L : Lv) (N : Nat) (ops : List Oper) : List Oper → Fr → St → Option (Fr × St)
  | [], fr, st => some (fr, st)
  | o :: rest, fr, st => match wantV ops fr.s o with
    | none => none
    | some false => match put N fr o.dst undef with
      | none => none
      | some fr' => evOps C L N ops rest fr' st
    | some true => match stepO C L o fr.s st with
      | none => none
      | some (v, st') => match put N fr o.dst v with
        | none => none
        | some fr' => evOps C L N ops rest fr' st'
def anq : Option Addr → Option Addr → Bool
  | none, none => true
  | some ⟨b, o, none⟩, some ⟨b', o', none⟩ => Nat.beq b b' && Nat.beq o o'
  | _, _ => false
def listq {α : Type} (q : α → α → Bool) : List α → List α → Bool
  | [], [] => true
  | x :: xs, y :: ys => q x y && listq q xs ys
  | _, _ => false
def veq : Nat → Value → Value → Bool
  | 0, _, _ => false
  | _ + 1, .int k a, .int k' b => ikq k k' && decide (a = b)
  | _ + 1, .bool a, .bool b => a == b
  | _ + 1, .pointer a, .pointer b => anq a b
  | _ + 1, .slice a n c, .slice b n' c' => anq a b && Nat.beq n n' && Nat.beq c c'
  | _ + 1, .map none, .map none => true
  | _ + 1, .map (some a), .map (some b) => Nat.beq a b
  | _ + 1, .nilFunc, .nilFunc => true
  | _ + 1, .nilIface, .nilIface => true
  | n + 1, .func (.func f) a b, .func (.func g) c d => Nat.beq f g && listq (veq n) a.toList c.toList && listq (veq n) b.toList d.toList
  | n + 1, .agg a, .agg b => listq (veq n) a.toList b.toList
  | n + 1, .tuple a, .tuple b => listq (veq n) a.toList b.toList
  | _, _, _ => false
def moq : MO → MO → Bool
  | .cl T sz ex cs, .cl T' sz' ex' cs' => Nat.beq T T' && Nat.beq sz sz' && (ex == ex') && listq (veq 9) cs cs'
  | .mp kk es ck, .mp kk' es' ck' => kkq kk kk' && listq (fun a b => veq 9 a.1 b.1 && veq 9 a.2.1 b.2.1 && Nat.beq a.2.2 b.2.2) es es' && Nat.beq ck ck'
  | .df, .df => true
  | .dead, .dead => true
  | _, _ => false
def trq {α : Type} (q : α → α → Bool) : Tre α → Tre α → Bool
  | .e, .e => true
  | .n l x r, .n l' x' r' => (match x, x' with | none, none => true | some a, some b => q a b | _, _ => false) && trq q l l' && trq q r r'
  | _, _ => false
def optq {α : Type} (q : α → α → Bool) : Option α → Option α → Bool
  | none, none => true
  | some a, some b => q a b
  | _, _ => false
def tmpL : List Operand → List Nat
  | [] => []
  | .tmp t :: r => t :: tmpL r
  | _ :: r => tmpL r
def optL : Option Operand → List Operand
  | none => []
  | some x => [x]
def opsL : Op → List Operand
  | .move x => [x]
  | .assign x => [x]
  | .pick c a b => [c, a, b]
  | .nilCheck x => [x]
  | .binOp _ _ x y _ => [x, y]
  | .unOp _ _ x => [x]
  | .convert _ _ x => [x]
  | .makeFunc _ f c => f.toList ++ c.toList
  | .build _ parts => parts.toList.map (·.2)
  | .slice _ x lo hi mx => x :: (optL lo ++ (optL hi ++ optL mx))
  | .fieldAddr _ x _ => [x]
  | .field _ x _ => [x]
  | .indexAddr _ x y => [x, y]
  | .index _ x y => [x, y]
  | .extract x _ => [x]
  | .load _ x => [x]
  | .lookup _ x k _ => [x, k]
  | .box _ x => [x]
  | .buildSlice _ _ parts => parts.toList.map (·.2)
  | .makeSlice _ x y => [x, y]
  | .store _ x y => [x, y]
  | .mapUpdate _ x k y => [x, k, y]
  | .mapEntry _ x k => [x, k]
  | .entryStore _ x k y => [x, k, y]
  | .call { callee := .value f, args := xs, argTypes := _ } => f :: xs.toList
  | .call { callee := _, args := xs, argTypes := _ } => xs.toList
  | _ => []
def gslot (ops : List Oper) (o : Oper) : List Nat := match o.guard with
  | none => []
  | some (g, _) => match lget ops g with
    | none => []
    | some og => match og.dst with
      | none => []
      | some t => [t]
def slotsO (ops : List Oper) (o : Oper) : List Nat := gslot ops o ++ tmpL (opsL o.op)
structure RE where
  k : Nat
  e : Bool
  dl : List (Nat × MO)
def setL : List (Nat × MO) → Tre MO → Tre MO
  | [], t => t
  | (i, o) :: r, t => (setL r t).force fun t' => Tre.ins (some o) t' i
def lookL : List (Nat × MO) → Nat → Option MO
  | [], _ => none
  | (i, o) :: r, j => cond (Nat.beq i j) (some o) (lookL r j)
def viewT (m0 : Tre MO) : List RE → Nat → Bool → Tre MO
  | [], _, _ => m0
  | x :: r, hv, b => cond (cond x.e b (bt hv x.k)) (setL x.dl (viewT m0 r hv b)) (viewT m0 r hv b)
def viewOk (V : Tre MO) : List RE → Nat → Bool → Bool
  | [], _, _ => true
  | x :: r, hv, b => cond (cond x.e b (bt hv x.k)) (x.dl.all fun y => objIn V y.2) true && viewOk V r hv b
def vids : Nat → Value → List Nat → List Nat
  | 0, _, r => r
  | _ + 1, .pointer (some a), r => a.block :: r
  | _ + 1, .slice (some a) _ _, r => a.block :: r
  | _ + 1, .map (some i), r => i :: r
  | n + 1, .func _ a b, r => a.toList.foldr (vids n) (b.toList.foldr (vids n) r)
  | n + 1, .agg a, r => a.toList.foldr (vids n) r
  | n + 1, .tuple a, r => a.toList.foldr (vids n) r
  | _ + 1, _, r => r
def oids : MO → List Nat → List Nat
  | .cl _ _ _ cs, r => cs.foldr (vids 9) r
  | .mp _ es _, r => es.foldr (fun e => vids 9 e.2.1) r
  | _, r => r
def reachL : Nat → Tre MO → Tre MO → List Nat → List (Nat × MO) → List (Nat × MO)
  | 0, _, _, _, acc => acc
  | _ + 1, _, _, [], acc => acc
  | n + 1, V, V', j :: r, acc => match V.get j with
    | some _ => reachL n V V' r acc
    | none => match lookL acc j with
      | some _ => reachL n V V' r acc
      | none => match V'.get j with
        | none => reachL n V V' r acc
        | some o => reachL n V V' (oids o r) ((j, o) :: acc)
def dedL (V' : Tre MO) : List Nat → List (Nat × MO) → List (Nat × MO)
  | [], acc => acc
  | j :: r, acc => match lookL acc j with
    | some _ => dedL V' r acc
    | none => match V'.get j with
      | none => dedL V' r acc
      | some o => dedL V' r ((j, o) :: acc)
def nxOf (n n' : Nat) : List (Nat × MO) → Nat
  | [] => n
  | _ => n'
def runV (C : Cx) (L : Lv) (ops : List Oper) (o : Oper) (s : Tre Value) (V mf : Tre MO) (n : Nat) (q : Bool) : Option (Value × List (Nat × MO) × Nat) :=
  cond ((slotsO ops o).all fun t => match s.get t with | none => true | some x => vin 9 V x) (match stepO C L o s ⟨V, n, []⟩ with
    | none => none
    | some (v, st') => fz v fun v => match st'.lg with
      | [] => cond (vin 9 V v) (some (v, [], n)) none
      | j :: lg => cond (cond q ((j :: lg).all fun j => (V.get j).isNone) true)
        (runE V mf n v st' (cond q (reachL 100000 V st'.m (vids 9 v []) []) (dedL st'.m (j :: lg) []))) none) none
where runE (V mf : Tre MO) (n : Nat) (v : Value) (st' : St) (dl : List (Nat × MO)) : Option (Value × List (Nat × MO) × Nat) :=
  (setL dl V).force fun V2 => cond (vin 9 V2 v && dl.all fun x => objIn V2 x.2 && (match V.get x.1 with | some _ => true | none => (mf.get x.1).isNone)) (some (v, dl, nxOf n st'.nx dl)) none
def runW (C : Cx) (L : Lv) (ops : List Oper) (m0 : Tre MO) (rc : List RE) (mf : Tre MO) (n : Nat) (s : Tre Value) (o : Oper) (hv : Nat) (b q : Bool) : Option (Value × List (Nat × MO) × Nat) :=
  (viewT m0 rc hv b).force fun V => cond (viewOk V rc hv b) (runV C L ops o s V mf n q) none
def dlq : List (Nat × MO) → List (Nat × MO) → Bool := listq fun a b => Nat.beq a.1 b.1 && moq a.2 b.2
def parOp (C : Cx) (L : Lv) (ops : List Oper) (m0 : Tre MO) (rc : List RE) (mf : Tre MO) (n : Nat) (s : Tre Value) (o : Oper) (hv c : Nat) : Option (Value × List (Nat × MO) × Nat) :=
  match wantV ops s o with
  | none => none
  | some false => some (undef, [], n)
  | some true => match c with
    | 0 => runW C L ops m0 rc mf n s o hv false true
    | 1 => runW C L ops m0 rc mf n s o hv true true
    | 2 => match runW C L ops m0 rc mf n s o hv false true with
      | none => none
      | some (v, dl, n') => match runW C L ops m0 rc mf n s o hv true true with
        | none => none
        | some (v', dl', _) => cond (veq 9 v v' && dlq dl dl') (some (v, dl, n')) none
    | _ => runW C L ops m0 rc mf n s o hv false false
def parGo (C : Cx) (L : Lv) (N : Nat) (ops : List Oper) (m0 : Tre MO) : List (Nat × Nat × Nat) → List RE → Tre MO → Nat → Fr → Option (Fr × List RE × Tre MO × Nat)
  | [], rc, mf, n, fr => some (fr, rc, mf, n)
  | (i, hv, c) :: rest, rc, mf, n, fr => match lget ops i with
    | none => none
    | some o => match parOp C L ops m0 rc mf n fr.s o hv c with
      | none => none
      | some (v, dl, n') => match put N fr o.dst v with
        | none => none
        | some fr' => match dl with
          | [] => parGo C L N ops m0 rest rc mf n fr'
          | x :: dl => (setL (x :: dl) mf).force fun mf' => parGo C L N ops m0 rest (⟨i, Nat.beq c 3, x :: dl⟩ :: rc) mf' n' fr'
def rcKeys : List RE → List Nat → List Nat
  | [], r => r
  | x :: xs, r => rcKeys xs (x.dl.foldr (fun y r => y.1 :: r) r)
def delL : List Nat → Tre MO → Tre MO
  | [], t => t
  | i :: r, t => (delL r t).force fun t' => Tre.ins none t' i
def dstB (t : Nat) : Option Nat → Bool
  | none => false
  | some d => Nat.beq d t
abbrev PE := (Nat × Nat × Nat) × Option Oper
def laterB (t : Nat) (r : List PE) : Bool := r.all fun x => match x.2 with | none => false | some o => !(dstB t o.dst)
def parC (anc : List Nat) (e : Nat) (hasE seen : Bool) (i hv c : Nat) : Bool := (match lnth anc i with | none => false | some m => Nat.beq (Nat.lor hv m) m) && (match c with
  | 0 => !(Nat.beq i e) && (!hasE || preB anc i e)
  | 1 => seen && preB anc e i && !(Nat.beq i e)
  | 2 => seen && !(Nat.beq i e)
  | 3 => Nat.beq i e && hasE
  | _ => false)
def parS (anc : List Nat) (ops : List Oper) (e : Nat) (hasE : Bool) : List (Nat × Nat) → Bool → List PE → Bool
  | _, _, [] => true
  | dn, seen, ((i, hv, c), oo) :: r => match oo with
    | none => false
    | some o => (slotsO ops o).all (fun t => dn.all (fun x => !(Nat.beq x.2 t) || preB anc x.1 i) && !(dstB t o.dst) && laterB t r) &&
      (match o.dst with | none => true | some d => laterB d r) && parC anc e hasE seen i hv c &&
      parS anc ops e hasE (match o.dst with | none => dn | some d => (i, d) :: dn) (seen || Nat.beq c 3) r
def peOf (ops : List Oper) (l : List (Nat × Nat × Nat)) : List PE := l.map fun x => (x, lget ops x.1)
def nodB : List Nat → Bool
  | [] => true
  | x :: r => (r.all fun y => !(Nat.beq y x)) && nodB r
def pjS (ops : List Oper) : PJ → Bool
  | .stop => true
  | .op _ _ r => pjS ops r
  | .fork _ r _ s => pjS ops r && pjS ops s
  | .par anc e l r => parS anc ops e (l.any fun x => Nat.beq x.2.2 3) [] false (peOf ops l) && nodB (l.map (·.1)) && pjS ops r
structure TR where
  fr : Fr
  st : St
  ks : List Nat
  sn : List (Tre MO)
def stB (st : St) (bs : Option Nat) (k : Nat) : St := match bs with
  | none => st
  | some b => ⟨st.m, b + k, st.lg⟩
theorem stB_m {st : St} {bs : Option Nat} {k : Nat} : (stB st bs k).m = st.m := by cases bs <;> rfl
def hvT (C : Cx) (L : Lv) (N : Nat) (ops : List Oper) (bs : Option Nat) (i : Nat) (sn : Bool) (k : Fr → St → Option TR) (fr : Fr) (st : St) : Option TR :=
  match lget ops i with
  | none => none
  | some o => match wantV ops fr.s o with
    | none => none
    | some false => match put N fr o.dst undef with
      | none => none
      | some fr' => match k fr' st with
        | none => none
        | some R => some (cond sn { R with sn := st.m :: R.sn } R)
    | some true => match stepO C L o fr.s (stB st bs (i * 1024)) with
      | none => none
      | some (v, st') => match put N fr o.dst v with
        | none => none
        | some fr' => match k fr' st' with
          | none => none
          | some R => some (cond sn { R with sn := st'.m :: R.sn } R)
def evT (C : Cx) (L : Lv) (N : Nat) (ops : List Oper) (m0 : Tre MO) (bs : Option Nat) : PJ → Fr → St → Option TR
  | .stop, fr, st => some ⟨fr, stB st bs (ops.length * 1024), [], []⟩
  | .op i 0 r, fr, st => match lget ops i with
    | none => none
    | some o => match wantV ops fr.s o with
      | none => none
      | some false => match put N fr o.dst undef with
        | none => none
        | some fr' => evT C L N ops m0 bs r fr' st
      | some true => match evP C.T st.m fr.s o.op with
        | none => none
        | some v => match put N fr o.dst v with
          | none => none
          | some fr' => evT C L N ops m0 bs r fr' st
  | .op i 1 r, fr, st => match lget ops i with
    | none => none
    | some o => match wantV ops fr.s o with
      | none => none
      | some false => match put N fr o.dst undef with
        | none => none
        | some fr' => evT C L N ops m0 bs r fr' st
      | some true => match evL C.T C.M m0 fr.s o.op with
        | none => none
        | some (v, id) => match put N fr o.dst v with
          | none => none
          | some fr' => cond (optq moq (st.m.get id) (m0.get id)) (match evT C L N ops m0 bs r fr' st with
            | none => none
            | some R => some { R with ks := id :: R.ks }) none
  | .op i 2 r, fr, st => hvT C L N ops bs i true (fun fr st => evT C L N ops m0 bs r fr st) fr st
  | .op i _ r, fr, st => hvT C L N ops bs i false (fun fr st => evT C L N ops m0 bs r fr st) fr st
  | .fork i r j s, fr, st =>
    match hvT C L N ops bs i true (fun fr st => evT C L N ops m0 bs r fr st) fr st with
    | none => none
    | some A => match hvT C L N ops bs j true (fun fr st => evT C L N ops m0 bs s fr st) fr st with
      | none => none
      | some B => cond (trq (veq 9) A.fr.s B.fr.s && listq Nat.beq A.fr.ds B.fr.ds && trq moq A.st.m B.st.m) (some ⟨A.fr, A.st, A.ks ++ B.ks, A.sn ++ B.sn⟩) none
  | .par _ _ l r, fr, st => match parGo C L N ops st.m l [] st.m st.nx fr with
    | none => none
    | some (fr', rc, mf, n) => match evT C L N ops m0 bs r fr' ⟨mf, n, rcKeys rc st.lg⟩ with
      | none => none
      | some R => some { R with sn := st.m :: delL (rcKeys rc []) st.m :: R.sn }
def evReg (C : Cx) (L : Lv) (f N id : Nat) (ops : Array Oper) (draw : Bool) (fr : Fr) (st : St) : Option (Fr × St) :=
  match draw with
  | false => evOps C L N ops.toList ops.toList fr st
  | true => match C.pl.get f with
    | none => none
    | some pls => match pls.get id with
      | none => none
      | some p => match evT C L N ops.toList st.m (cond p.fk (some st.nx) none) p.t fr st with
        | none => none
        | some R => cond (R.ks.all fun k => R.sn.all fun m => optq moq (m.get k) (st.m.get k)) (some (R.fr, R.st)) none
def plC (pl : Tre Plan) : Code → Bool
  | .region id ops true => ops.toList.all ndO && (match pl.get id with | none => false | some p => pjB ops p.full p.t && pjS ops.toList p.t)
  | .region _ ops false => ops.toList.all ndO
  | .seq a b => plC pl a && plC pl b
  | .cond _ a b => plC pl a && plC pl b
  | .block _ b => plC pl b
  | .loop b => plC pl b
  | .scope b => plC pl b
  | .rangeFunc _ _ a b => plC pl a && plC pl b
  | _ => true
def plOkF (P : Program) (f : Nat) (pl : Tre Plan) : Bool :=
  match P.funcs[f]? with
  | none => true
  | some fn => match fn.body with
    | none => true
    | some c => plC pl c
def CPC (C : Cx) (f : Nat) (c : Code) : Prop := ∃ pl, C.pl.get f = some pl ∧ plC pl c = true
def jumpE (pe : Option Code) (fr : Fr) (st : St) : Option (Ex × Fr × St) :=
  match pe with
  | none => some (.normal, fr, st)
  | some .ret => some (.ret, fr, st)
  | some (.exit id) => some (.exit id, fr, st)
  | _ => none
def rangeE (L : Lv) (f N : Nat) (g : Operand) (ps : List Tmp) (as body : Code) (fr : Fr) (st : St) : Option (Ex × Fr × St) :=
  match lk fr.s g with
  | some (.func (.func h) cs ds) => match newO st .df with
    | none => none
    | some (d, st1) => match newO st1 (.lp .ready none f N fr.s ps as body d) with
      | none => none
      | some (l, st2) => match L.call h (cs.toList ++ [.func (.yield l) #[] #[]] ++ ds.toList) st2 with
        | none => none
        | some (_, st3) => match st3.m.get l with
          | some (.lp stt pe _ _ _ _ _ _ _) => match stt with
            | .busy => none
            | _ => match putO st3 l .dead with
              | none => none
              | some st4 => jumpE pe ⟨fr.s, d :: fr.ds⟩ st4
          | _ => none
  | _ => none
def codeF (C : Cx) (L : Lv) (f N : Nat) (rd : Bool) (c : Code) (fr : Fr) (st : St) : Option (Ex × Fr × St) :=
  match c with
  | .skip => some (.normal, fr, st)
  | .label _ => some (.normal, fr, st)
  | .exit id => some (.exit id, fr, st)
  | .ret => some (.ret, fr, st)
  | .region id ops draw => match evReg C L f N id ops draw fr st with
    | none => none
    | some (fr', st') => some (.normal, fr', st')
  | .seq a b => match L.code f N rd a fr st with
    | some (.normal, fr', st') => L.code f N rd b fr' st'
    | r => r
  | .cond c x y => match lk fr.s c with
    | some (.bool true) => L.code f N rd x fr st
    | some (.bool false) => L.code f N rd y fr st
    | _ => none
  | .block id b => match L.code f N rd b fr st with
    | some (.exit j, fr', st') => cond (Nat.beq j id) (some (.normal, fr', st')) (some (.exit j, fr', st'))
    | r => r
  | .loop b => match L.code f N rd b fr st with
    | some (.normal, fr', st') => L.code f N rd (.loop b) fr' st'
    | r => r
  | .scope b => cond rd none (L.code f N rd b fr st)
  | .rangeFunc g ps as body => cond rd none (rangeE L f N g ps.toList as body fr st)
  | _ => none
def shutE : List Nat → St → Option St
  | [], st => some st
  | d :: ds, st => match st.m.get d with
    | some .df => match putO st d .dead with
      | none => none
      | some st' => shutE ds st'
    | _ => none
def resE (T : TD) (m : Tre MO) (s : Tre Value) : List ResultVar → Option (List Value)
  | [] => some []
  | .tmp t :: rs => match s.get t with
    | none => none
    | some v => match resE T m s rs with
      | none => none
      | some vs => some (v :: vs)
  | .cell c t :: rs => match s.get c with
    | some (.pointer (some ⟨i, o, none⟩)) => match T.siz.get t with
      | none => none
      | some (n, ag) => match m.get i with
        | some (.cl _ _ _ cs) => match partL ag n cs o with
          | none => none
          | some v => match resE T m s rs with
            | none => none
            | some vs => some (v :: vs)
        | _ => none
    | _ => none
def resV : List Value → Value
  | [v] => v
  | vs => .tuple vs.toArray
def callB (C : Cx) (L : Lv) (f : Nat) (args : List Value) (st : St) : Option (Value × St) :=
  match C.P.funcs[f]? with
  | none => none
  | some fn => match fn.body with
    | none => none
    | some c => match setAll fn.ntmps .e (List.range args.length) args with
      | none => none
      | some s => match L.code f fn.ntmps false c ⟨s, []⟩ st with
        | none => none
        | some (e, fr, st1) => match e with
          | .exit _ => none
          | _ => match shutE fr.ds st1 with
            | none => none
            | some st2 => match resE C.T st2.m fr.s fn.results.toList with
              | none => none
              | some vs => some (resV vs, st2)
def knownE (v : Value) (st : St) : List Value → Option (Value × St)
  | [] => some (v, st)
  | _ => none
def callF (C : Cx) (L : Lv) (f : Nat) (args : List Value) (st : St) : Option (Value × St) :=
  match C.pl.get f with
  | none => none
  | some _ => match C.kn.get f with
    | some v => knownE v st args
    | none => callB C L f args st
def lv (C : Cx) : Nat → Lv
  | 0 => ⟨fun _ _ _ => none, fun _ _ _ _ _ _ => none⟩
  | n + 1 => ⟨callF C (lv C n), codeF C (lv C n)⟩
end
end Go.Ev
