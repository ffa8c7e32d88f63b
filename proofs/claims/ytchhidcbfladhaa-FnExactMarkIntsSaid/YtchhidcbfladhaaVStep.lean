/- The symbolic evaluator, second part: operations, regions, code. -/
import Derived.Test.YtchhidcbfladhaaVEval
namespace Go.Proofs.Ytchhidcbfladhaa
namespace V
set_option linter.unusedVariables false
def tyE (E : Env) (i : TI) : Option TI := match i.k with | .sl e => E.ty e | _ => none
section
variable {α : Type}
def bitsOf (op : BinOp) (k : IntKind) (x y : Int) : Option Int :=
  match op with
  | .and => some (k.wrap (BitVec.ofInt k.bits x &&& BitVec.ofInt k.bits y).toNat)
  | .or => some (k.wrap (BitVec.ofInt k.bits x ||| BitVec.ofInt k.bits y).toNat)
  | .xor => some (k.wrap (BitVec.ofInt k.bits x ^^^ BitVec.ofInt k.bits y).toNat)
  | .andNot => some (k.wrap (BitVec.ofInt k.bits x &&& ~~~(BitVec.ofInt k.bits y)).toNat)
  | _ => none
def intRest (k : IntKind) (op : BinOp) (a b : Int) (K : AV → Option α) : Option α :=
  match op with
  | .shl => bif decide (0 ≤ b) then K (vint k (k.wrap (a * 2 ^ (min b.toNat k.bits)))) else none
  | .shr => bif decide (0 ≤ b) then K (vint k (a.fdiv (2 ^ (min b.toNat k.bits)))) else none
  | op => match bitsOf op k a b with | some r => K (vint k r) | none => none
def kindsOk : List Lf → List Sg → Bool
  | [], [] => true
  | .val (.int k _) :: r, .int k' _ :: s => decide (k = k') && kindsOk r s
  | .val (.bool _) :: r, .bool _ :: s => kindsOk r s
  | .val (.str _) :: r, .str _ :: s => kindsOk r s
  | _, _ => false
def binE (tk : Tk) (eqOk : Bool) (z : List Lf) (op : BinOp) (a b : AV) (K : AV → Option α) : Option α :=
  match a, b with
  | .v false [.val (.int k x)], .v false [.val (.int k' y)] =>
    match decide (k = k') with
    | true => intBin op k x y (intRest k) K
    | false =>
      match op with
      | .shl | .shr => intRest k op x y K
      | _ => none
  | .v false [.val (.str x)], .v false [.val (.str y)] => strBin op x y K
  | .v false [.val (.bool x)], .v false [.val (.bool y)] =>
    match tk, op with
    | .bool, .eql => K (vbool (x == y))
    | .bool, .neq => K (vbool !(x == y))
    | _, _ => none
  | .v true ls, .v true ms =>
    match vals ls, vals ms with
    | some gs, some hs =>
      match sgsEq gs hs with
      | some c =>
        match eqOk && kindsOk z gs, op with
        | true, .eql => K (vbool c)
        | true, .neq => K (vbool !c)
        | _, _ => none
      | none => none
    | _, _ => none
  | _, _ => none
def elemLs (d : Bool) (n i : Nat) : Nat → List Sg → List Lf
  | _, [] => []
  | q, g :: r => (match g.t.flat || !d with | true => .val g | false => .pref n i q) :: elemLs d n i (q + 1) r
def cut (ls : List Lf) (off n : Nat) : Option (List Lf) :=
  let r := (ls.drop off).take n
  match Nat.beq r.length n with
  | true => some r
  | false => none
def loadL (H : Hp) (l : Lf) (n : Nat) : Option (List Lf) :=
  match l with
  | .ptr m off => match look H m with | some (.box ls) => cut ls off n | _ => none
  | .rptr p j => cut ((p.T.sgs p.x).map .val) j n
  | .val (.ptr T x) => cut ((T.sgs x).map .val) 0 n
  | .eptr m i j => match look H m with | some (.row T d xs) => cut (elemLs d m i 0 (T.sgs (xs.getD i T.dflt))) j n | _ => none
  | _ => none
def setLs (ls : List Lf) (off : Nat) (ms : List Lf) : List Lf := ls.take off ++ ms ++ ls.drop (off + ms.length)
def setSg : (T : ETy) → T.den → Nat → Sg → Option T.den
  | .nil, _, _, _ => none
  | .cons t .nil, _, j, g => match j with | 0 => t.get g | _ => none
  | .cons t (.cons u ts), x, j, g =>
    match j with
    | 0 => match t.get g with | some y => some (y, x.2) | none => none
    | j + 1 => match setSg (.cons u ts) x.2 j g with | some y => some (x.1, y) | none => none
def prefFree (n : Nat) : List (Nat × AV) → Bool
  | [] => true
  | (_, .v _ ls) :: r => !(lsPref n ls) && prefFree n r
  | (_, .tup _) :: r | (_, .undef) :: r => prefFree n r
where
  lsPref (n : Nat) : List Lf → Bool
  | [] => false
  | .pref m _ _ :: r => Nat.beq n m || lsPref n r
  | _ :: r => lsPref n r
def storeD (E : Env) (σ : St) (l : Lf) (ls : List Lf) (K : D → Option α) : Option α :=
  match l with
  | .ptr m off =>
    match look σ.heap m with
    | some (.box old) =>
      match Nat.ble (off + ls.length) old.length with
      | true => K ⟨.undef, [], [], [(m, .box (setLs old off ls))]⟩
      | false => none
    | _ => none
  | .eptr m i j =>
    match look σ.heap m with
    | some (.row T d xs) =>
      match Nat.beq j 0 && Nat.beq ls.length T.len with
      | true =>
        match frzRs σ.heap T ls with
        | some x =>
          match (!d || ownLs σ.heap ls) && nodup (refsOf ls) && !(mem (refsOf ls) m) && (T.flat || prefFree m σ.tmps) with
          | true => K ⟨.undef, [], refsOf ls, [(m, .row T d (xs.set i x))]⟩
          | false => none
        | none => none
      | false =>
        match ls with
        | [.val g] =>
          match g.t.flat with
          | true =>
            match setSg T (xs.getD i T.dflt) j g with
            | some x => K ⟨.undef, [], [], [(m, .row T d (xs.set i x))]⟩
            | none => none
          | false => none
        | _ => none
    | _ => none
  | _ => none
def isPtr (H : Hp) : Lf → Bool
  | .ptr n _ => match look H n with | some (.box _) => true | _ => false
  | .eptr n _ _ => match look H n with | some (.row ..) => true | _ => false
  | .rptr _ _ => true
  | .val (.ptr _ _) => true
  | _ => false
def addrOff (H : Hp) (l : Lf) (off : Nat) : Option Lf :=
  match isPtr H l with
  | true =>
    match l with
    | .ptr n o => some (.ptr n (o + off))
    | .eptr n i j => some (.eptr n i (j + off))
    | .rptr p j => some (.rptr p (j + off))
    | .val (.ptr T x) => some (.rptr ⟨T, x⟩ off)
    | _ => none
  | false => none
def bound (i : Int) (n : Nat) (k : Option α) : Option α := bif decide (0 ≤ i) then bif decide (i < (n : Int)) then k else none else none
def indexE (H : Hp) (n : Nat) (l : Lf) (i : Int) (K : AV → Option α) : Option α :=
  match l with
  | .val (.sl T xs) =>
    match Nat.beq T.len n with
    | true => bound i xs.length (K (.v false [.rptr ⟨T, xs.getD i.toNat T.dflt⟩ 0]))
    | false => none
  | .ref m =>
    match look H m with
    | some (.row T _ xs) =>
      match Nat.beq T.len n with
      | true => bound i xs.length (K (.v false [.eptr m i.toNat 0]))
      | false => none
    | _ => none
  | _ => none
def rng (i j : Int) (n : Nat) (k : Option α) : Option α := bif decide (0 ≤ i) then bif decide (i ≤ j) then bif decide (j ≤ (n : Int)) then k else none else none else none
def sliceStr (s : ByteArray) (lo hi mx : Option Int) (K : D → Option α) : Option α :=
  match mx with
  | none => rng (lo.getD 0) (hi.getD s.size) s.size (K ⟨val1 (.str (s.extract (lo.getD 0).toNat (hi.getD s.size).toNat)), [], [], []⟩)
  | some _ => none
def isZ : Option Int → Bool
  | some 0 => true
  | _ => false
def isZN : Option Int → Bool
  | none => true
  | some 0 => true
  | _ => false
def cutL {β : Type} (xs : List β) (lo hi : Option Int) : List β :=
  match lo, hi with
  | none, none => xs
  | some i, none => xs.drop i.toNat
  | none, some j => xs.take j.toNat
  | some i, some j => (xs.take j.toNat).drop i.toNat
def sliceE (H : Hp) (site n : Nat) (l : Lf) (lo hi mx : Option Int) (K : D → Option α) : Option α :=
  match l with
  | .nil0 => match isZN lo && isZN hi && (isZN mx && (mx.isNone || hi.isSome)) with | true => K ⟨.v false [.nil0], [], [], []⟩ | false => none
  | .val (.sl T xs) =>
    match isZ lo && isZ hi && isZ mx, mx with
    | true, _ => K ⟨.v false [.nil0], [], [], []⟩
    | false, none =>
      match Nat.beq T.len n with
      | true => rng (lo.getD 0) (hi.getD xs.length) xs.length (K ⟨val1 (.sl T (cutL xs lo hi)), [], [], []⟩)
      | false => none
    | _, _ => none
  | .ref m =>
    match look H m, mx with
    | some (.row T d xs), none =>
      match Nat.beq T.len n && T.flat with
      | true => rng (lo.getD 0) (hi.getD xs.length) xs.length (K ⟨.v false [.ref (site * 64)], [(site * 64, .row T d (cutL xs lo hi))], [m], []⟩)
      | false => none
    | _, _ => none
  | _ => none
def frzEach (H : Hp) (T : ETy) : List (List Lf) → Option (List T.den)
  | [] => some []
  | ls :: r => match frzRs H T ls, frzEach H T r with | some x, some xs => some (x :: xs) | _, _ => none
def flat2 : List (List Lf) → List Lf
  | [] => []
  | ls :: r => ls ++ flat2 r
/-- The row that is appended to, and the rows that come in its place. -/
def appendE (E : Env) (H : Hp) (site : Nat) (T : ETy) (s x : Lf) (K : D → Option α) : Option α :=
  let N := site * 64
  let put (d : Bool) (xs ys : List T.den) (dels : List Nat) : Option α :=
    bif decide (xs.length + ys.length < lim) then K ⟨.v false [.ref N], [(N, .row T d (xs ++ ys))], dels, []⟩ else none
  match x with
  | .nil0 => K ⟨.v false [s], [], [], []⟩
  | x =>
    match frzR H (.sl T) x with
    | none => none
    | some ys =>
      match s with
      | .nil0 =>
        match T.flat, x with
        | true, _ => put true [] ys []
        | false, .ref m => match look H m with | some (.row _ d _) => put d [] ys [m] | _ => none
        | false, .val _ => put false [] ys []
        | _, _ => none
      | .ref n =>
        match look H n with
        | some (.row T' d xs) =>
          match ETy.casts? T' T xs with
          | none => none
          | some xs =>
            match T.flat, x, d with
            | true, .ref m, _ => match Nat.beq m n with | true => none | false => put d xs ys [n]
            | true, _, _ => put d xs ys [n]
            | false, .ref m, d =>
              match look H m, Nat.beq m n with
              | some (.row _ d' _), false => match !d || d' with | true => put d xs ys [n, m] | false => none
              | _, _ => none
            | false, .val _, false => put d xs ys [n]
            | _, _, _ => none
        | _ => none
      | _ => none
def zerosE (E : Env) (site : Nat) (T : ETy) (zero : T.den) (s : Lf) (m : Int) (K : D → Option α) : Option α :=
  match s with
  | .nil0 => bif decide (0 ≤ m) then bif decide (m < (lim : Int)) then K ⟨.v false [.ref (site * 64)], [(site * 64, .row T true (List.replicate m.toNat zero))], [], []⟩ else none else none
  | _ => none
def zeroOf (T : ETy) : T.den := T.dflt
def mm (isMax : Bool) : Int → Int → Int := fun x y => bif isMax then (if y > x then y else x) else (if y < x then y else x)
def mmE (isMax : Bool) (k : IntKind) (acc : Int) : List AV → (AV → Option α) → Option α
  | [], K => K (vint k acc)
  | .v false [.val (.int _ y)] :: r, K => mmE isMax k (mm isMax acc y) r K
  | _, _ => none
def shapes : List (Bool × List Lf) → List (Bool × Nat)
  | [] => []
  | (g, ls) :: r => (g, ls.length) :: shapes r
def flatA : List (Bool × List Lf) → List Lf
  | [] => []
  | (_, ls) :: r => ls ++ flatA r
def shapesEq : List (Bool × Nat) → List (Bool × Nat) → Bool
  | [], [] => true
  | (g, n) :: r, (h, m) :: s => (g == h) && Nat.beq n m && shapesEq r s
  | _, _ => false
def avs (σ : St) : List Operand → Option (List (Bool × List Lf))
  | [] => some []
  | x :: r => match σ.eval x, avs σ r with | some (.v g ls), some s => some ((g, ls) :: s) | _, _ => none
/-- The results' leaves: what is owned gets names. -/
def resLs (site : Nat) : Nat → List Bool → List Sg → List Lf × Hp
  | _, _, [] => ([], [])
  | q, own, g :: r =>
    let rest := resLs site (q + 1) own.tail r
    match own.headD false, g with
    | true, (.sl T xs) => (.ref (site * 64 + q) :: rest.1, (site * 64 + q, .row T true xs) :: rest.2)
    | true, (.ptr T x) => (.ptr (site * 64 + q) 0 :: rest.1, (site * 64 + q, .box ((T.sgs x).map .val)) :: rest.2)
    | _, g => (.val g :: rest.1, rest.2)
def shaped : List (Bool × Nat) → List Lf → List (Bool × List Lf)
  | [], _ => []
  | (g, n) :: r, ls => (g, ls.take n) :: shaped r (ls.drop n)
def avOf : List (Bool × List Lf) → AV
  | [] => .undef
  | [(g, ls)] => .v g ls
  | vs => .tup vs
def roOut : List Bool → List Sg → Bool
  | _, [] => false
  | own, g :: r => (!(g.t.flat) && !(own.headD false)) || roOut own.tail r
/-- A written argument's row or variable, behind the call. -/
def ioSet (H : Hp) (site p : Nat) (ow : Bool) (l : Lf) (g : Sg) : Option (Hp × Hp × List Nat) :=
  match l, g with
  | .ref n, (.sl T xs) =>
    match look H n with
    | some (.row _ true _) => some ([(n, .row T true xs)], [], [])
    | _ => none
  | .pref n i j, (.sl U ys) =>
    match look H n with
    | some (.row T true xs) =>
      match setSg T (xs.getD i T.dflt) j (.sl U ys) with
      | some x => some ([(n, .row T true (xs.set i x))], [], [])
      | none => none
    | _ => none
  | .ptr n 0, (.ptr T x) =>
    match look H n with
    | some (.box old) =>
      match ow with
      | true =>
        match ownLs H old && nodup (refsOf old) with
        | true => let r := resLs ((site * 64 + p) * 1000) 0 (List.replicate T.len true) (T.sgs x); some ([(n, .box r.1)], r.2, refsOf old)
        | false => none
      | false => some ([(n, .box ((T.sgs x).map .val))], [], [])
    | _ => none
  | _, _ => none
def ioSets (H : Hp) (site : Nat) (ls : List Lf) : List (Nat × Bool) → List Sg → Option (Hp × Hp × List Nat)
  | [], _ => some ([], [], [])
  | (p, ow) :: r, g :: gs =>
    match ls[p]? with
    | some l =>
      match ioSet H site p ow l g, ioSets H site ls r gs with
      | some (a, b, c), some (a', b', c') => some (a ++ a', b ++ b', c ++ c')
      | _, _ => none
    | none => none
  | _, _ => none
def isIo (p : Nat) : List (Nat × Bool) → Bool
  | [] => false
  | (q, _) :: r => Nat.beq p q || isIo p r
def deepNames (H : Hp) : Lf → List Nat
  | .ptr n _ => n :: boxRefs H [n]
  | .fnl _ caps => caps ++ boxRefs H caps
  | l => l.names
/-- The written arguments' names; the other arguments'. -/
def ioNames (H : Hp) (io : List (Nat × Bool)) (yes : Bool) : Nat → List Lf → List Nat
  | _, [] => []
  | p, l :: r => (match isIo p io == yes with | true => deepNames H l | false => []) ++ ioNames H io yes (p + 1) r
def disj : List Nat → List Nat → Bool
  | [], _ => true
  | n :: r, s => !(mem s n) && disj r s
def callE (E : Env) (σ : St) (site : Nat) (g : Nat) (as : List (Bool × List Lf)) (K : D → Option α) : Option α :=
  match E.tab g with
  | none => none
  | some con =>
    let ls := flatA as
    match shapesEq (shapes as) con.ps, frzs σ.heap con.A ls with
    | true, some x =>
      match nodup (ioNames σ.heap con.io true 0 ls) && disj (ioNames σ.heap con.io true 0 ls) (ioNames σ.heap con.io false 0 ls) with
      | true =>
        (con.f x).bind fun y =>
          let gs := con.B.sgs y
          let m := con.io.length
          match ioSets σ.heap site ls con.io (gs.take m) with
          | some (ss, as', ds) =>
            let r := resLs site 0 con.own (gs.drop m)
            let dels := match roOut con.own (gs.drop m) with | true => allRefs σ.heap ls | false => []
            match nodup dels && disj dels (ioNames σ.heap con.io true 0 ls) with
            | true => K ⟨avOf (shaped con.rs r.1), as' ++ r.2, ds ++ dels, ss⟩
            | false => none
          | none => none
      | false => none
    | _, _ => none
def intOf? : Option AV → Option Int
  | some (.v false [.val (.int _ n)]) => some n
  | _ => none
def getI (σ : St) : Option Operand → Option (Option Int)
  | none => some none
  | some y => match intOf? (σ.eval y) with | some n => some (some n) | none => none
def bt (s : ByteArray) (i : Int) : Int := ((s.data.getD i.toNat 0).toNat : Int)
def outO (x : Option AV) (K : AV → Option α) : Option α := match x with | some a => K a | none => none
def natsFrom : Nat → List Nat → Bool
  | _, [] => true
  | n, m :: r => Nat.beq n m && natsFrom (n + 1) r
def buildLs (fields : List (Nat × Nat × Bool)) (σ : St) (ls : List Lf) : List (Nat × Operand) → Option (List Lf)
  | [] => some ls
  | (f, x) :: r =>
    match fields[f]?, σ.eval x with
    | some (off, n, _), some (.v _ ms) =>
      match Nat.beq ms.length n && Nat.ble (off + n) ls.length && alives σ.heap ms with
      | true => buildLs fields σ (setLs ls off ms) r
      | false => none
    | _, _ => none
def firsts (A : ETy) (agg : Bool) (a : A.den) : List (Bool × List Lf) := match A, a with | .nil, _ => [] | .cons t ts, a => [(agg, ((ETy.cons t ts).sgs a).map .val)]
def lss : List (Bool × List Lf) → List (List Lf)
  | [] => []
  | (_, ls) :: r => ls :: lss r
def aggsOk (g : Bool) : List (Bool × List Lf) → Bool
  | [] => true
  | (g', _) :: r => (g == g') && aggsOk g r
def boxNames : List (Bool × List Lf) → Option (List Nat)
  | [] => some []
  | (false, [.ptr n 0]) :: r => match boxNames r with | some s => some (n :: s) | none => none
  | _ => none
def kindOk : Tk → Lf → Bool
  | .str, .val (.str _) => true
  | .sl _, .val (.sl _ _) => true
  | .sl _, .val _ => false
  | .sl _, _ => true
  | _, _ => false
/-- An operation. -/
def opD (E : Env) (σ : St) (site : Nat) (o : Oper) (K : D → Option α) : Option α :=
  let N := site * 64
  let out (a : AV) : Option α := K ⟨a, [], [], []⟩
  match o.op with
  | .move x | .assign x => match σ.eval x with | some a => out a | none => none
  | .pick c a b =>
    match σ.eval c with
    | some (.v false [.val (.bool t)]) => bif t then outO (σ.eval a) out else outO (σ.eval b) out
    | _ => none
  | .alloc t => match E.ty t with | some i => K ⟨.v false [.ptr N 0], [(N, .box i.zero)], [], []⟩ | none => none
  | .box _ x => match σ.eval x with | some (.v _ ls) => (match alives σ.heap ls with | true => K ⟨.v false [.ptr N 0], [(N, .box ls)], [], []⟩ | false => none) | _ => none
  | .load t x =>
    match E.ty t, σ.eval x with
    | some i, some (.v false [l]) =>
      match loadL σ.heap l i.zero.length, i.k.agg || Nat.beq i.zero.length 1 with
      | some ls, true => out (.v i.k.agg ls)
      | _, _ => none
    | _, _ => none
  | .store t x y =>
    match E.ty t, σ.eval x, σ.eval y with
    | some i, some (.v false [l]), some (.v _ ls) => match Nat.beq ls.length i.zero.length && alives σ.heap ls with | true => storeD E σ l ls K | false => none
    | _, _, _ => none
  | .fieldAddr t x f =>
    match E.ty t, σ.eval x with
    | some i, some (.v false [l]) =>
      match i.fields[f]? with
      | some (off, _, _) => match addrOff σ.heap l off with | some l' => out (.v false [l']) | none => none
      | none => none
    | _, _ => none
  | .field t x f =>
    match E.ty t, σ.eval x with
    | some i, some (.v true ls) =>
      match i.fields[f]? with
      | some (off, n, g) => match cut ls off n, g || Nat.beq n 1 with | some ms, true => out (.v g ms) | _, _ => none
      | none => none
    | _, _ => none
  | .indexAddr t x ix =>
    match (E.ty t).bind (tyE E), σ.eval x, σ.eval ix with
    | some j, some (.v false [l]), some (.v false [.val (.int _ i)]) => indexE σ.heap j.zero.length l i out
    | _, _, _ => none
  | .index t x ix =>
    match (E.ty t).map TI.k, σ.eval x, σ.eval ix with
    | some .str, some (.v false [.val (.str s)]), some (.v false [.val (.int _ i)]) => bound i s.size (out (vint .u8 (bt s i)))
    | _, _, _ => none
  | .nilCheck x =>
    match σ.eval x with
    | some (.v false [l]) =>
      match isPtr σ.heap l with
      | true => out (.v false [l])
      | false => none
    | _ => none
  | .binOp op t x y _ => match E.ty t, σ.eval x, σ.eval y with | some i, some a, some b => binE i.k i.eq i.zero op a b out | _, _, _ => none
  | .unOp op _ x =>
    match op, σ.eval x with
    | .not, some (.v false [.val (.bool b)]) => out (vbool !b)
    | .neg, some (.v false [.val (.int k n)]) => out (vint k (k.wrap (0 - n)))
    | _, _ => none
  | .convert t d x =>
    match E.ty t, E.ty d, σ.eval x with
    | some _, some i, some (.v false [.val (.int _ n)]) => (match i.k with | .int k => out (vint k (k.wrap n)) | _ => none)
    | some _, some i, some (.v false [.val (.str s)]) => (match i.k with | .str => out (val1 (.str s)) | _ => none)
    | _, _, _ => none
  | .makeFunc (.func f) first captured =>
    match avs σ first.toList, avs σ captured.toList with
    | some [], some [] => out (val1 (.fn f false .nil .nil () ()))
    | some [], some cs => (match boxNames cs with | some ns => out (.v false [.fnl f ns]) | none => none)
    | some [(true, ls)], some [] => (match vals ls with | some (g :: gs) => out (val1 (.fn f true (packs (g :: gs)).T .nil (packs (g :: gs)).x ())) | _ => none)
    | _, _ => none
  | .makeSlice t l c =>
    match E.ty t, intOf? (σ.eval l), intOf? (σ.eval c) with
    | some i, some n, some m =>
      match tyE E i with
      | some j =>
        match Nat.beq j.T.len j.zero.length && Nat.ble j.bytes 4096 with
        | true => bif n == m then bif decide (0 ≤ n) then bif decide (n < (lim : Int)) then K ⟨.v false [.ref N], [(N, .row j.T (E.deep N) (List.replicate n.toNat j.T.dflt))], [], []⟩ else none else none else none
        | false => none
      | none => none
    | _, _, _ => none
  | .slice t x lo hi mx =>
    match E.ty t, σ.eval x, getI σ lo, getI σ hi, getI σ mx with
    | some i, some (.v false [l]), some lo, some hi, some mx =>
      match i.k, l with
      | .str, .val (.str s) => sliceStr s lo hi mx K
      | .sl e, l => (match E.ty e with | some j => sliceE σ.heap site j.zero.length l lo hi mx K | none => none)
      | _, _ => none
    | _, _, _, _, _ => none
  | .buildSlice t n parts =>
    match E.ty t, avs σ (parts.toList.map (·.2)) with
    | some i, some as =>
      match tyE E i with
      | some j =>
        match frzEach σ.heap j.T (lss as), natsFrom 0 (parts.toList.map (·.1)) && Nat.beq n as.length && Nat.beq j.T.len j.zero.length && Nat.blt n 100000 && aggsOk j.k.agg as with
        | some xs, true =>
          let rs := refsOf (flat2 (lss as))
          match (!(E.deep N) || ownLs σ.heap (flat2 (lss as))) && nodup rs with
          | true => K ⟨.v false [.ref N], [(N, .row j.T (E.deep N) xs)], rs, []⟩
          | false => none
        | _, _ => none
      | none => none
    | _, _ => none
  | .build t parts =>
    match E.ty t with
    | some i => (match i.k.agg, buildLs i.fields σ i.zero parts.toList with | true, some ls => out (.v true ls) | _, _ => none)
    | none => none
  | .extract x ix => match σ.eval x with | some (.tup vs) => (match vs[ix]? with | some (g, ls) => out (.v g ls) | none => none) | _ => none
  | .call c =>
    match c.callee with
    | .builtin b =>
      match b, avs σ c.args.toList with
      | .len, some [(false, [l])] =>
        match c.argTypes.toList with
        | [t] =>
          match E.ty t with
          | some i => (match kindOk i.k l, lenOf σ.heap l with | true, some n => out (vint .i64 n) | _, _ => none)
          | none => none
        | _ => none
      | .cap, some [(false, [.nil0])] =>
        match c.argTypes.toList with
        | [t] =>
          match E.ty t with
          | some i => (match i.k with | .sl _ => out (vint .i64 0) | _ => none)
          | none => none
        | _ => none
      | .append, some [(false, [s]), (false, [x])] =>
        match c.argTypes.toList with
        | [t, u] =>
          match E.ty t, E.ty u with
          | some i, some i' =>
            match tyE E i, i'.k with
            | some j, .int _ => (match x with | .val (.int _ m) => zerosE E site j.T j.T.dflt s m K | _ => none)
            | some j, .sl _ => (match Nat.ble j.bytes 1024 && Nat.beq j.T.len j.zero.length with | true => appendE E σ.heap site j.T s x K | false => none)
            | _, _ => none
          | _, _ => none
        | _ => none
      | .min, some ((false, [.val (.int k x)]) :: r) => mmE false k x (r.map fun p => .v p.1 p.2) out
      | .max, some ((false, [.val (.int k x)]) :: r) => mmE true k x (r.map fun p => .v p.1 p.2) out
      | _, _ => none
    | .value f =>
      match σ.eval f, avs σ c.args.toList with
      | some (.v false [.val (.fn g agg A B a b)]), some as =>
        callE E σ site g (firsts A agg a ++ as ++ (B.sgs b).map fun z => (false, [.val z])) K
      | some (.v false [.fnl g caps]), some as => callE E σ site g (as ++ caps.map fun n => (false, [.ptr n 0])) K
      | _, _ => none
    | _ => none
  | _ => none
end
end V
end Go.Proofs.Ytchhidcbfladhaa
