/- The symbolic evaluator: what a function's code does to plain data and to memory of its own. -/
import Derived.Test.YtchhidcbfladhaaVTy
namespace Go.Proofs.Ytchhidcbfladhaa
namespace V
set_option linter.unusedVariables false
mutual
def LTy.dflt : (t : LTy) → t.den
  | .int _ => (0 : Int)
  | .bool => false
  | .str => (⟨#[]⟩ : ByteArray)
  | .sl _ => []
  | .ptr t => ETy.dflt t
  | .fn _ _ a b => (ETy.dflt a, ETy.dflt b)
def ETy.dflt : (T : ETy) → T.den
  | .nil => ()
  | .cons t .nil => LTy.dflt t
  | .cons t (.cons u ts) => (LTy.dflt t, ETy.dflt (.cons u ts))
end
def LTy.flat : LTy → Bool
  | .int _ | .bool | .str => true
  | _ => false
def ETy.flat : ETy → Bool
  | .nil => true
  | .cons t ts => t.flat && ts.flat
/-- What a temporary's cell holds. -/
inductive Lf where
  | val (g : Sg)
  | nil0
  | ref (n : Nat)
  | pref (n i j : Nat)
  | ptr (n off : Nat)
  | eptr (n i j : Nat)
  | rptr (p : Pk) (j : Nat)
  | fnl (f : Nat) (caps : List Nat)
  | nilp
  | dead
inductive AV where
  | v (agg : Bool) (ls : List Lf)
  | tup (vs : List (Bool × List Lf))
  | undef
inductive Ent where
  | box (ls : List Lf)
  | row (T : ETy) (deep : Bool) (xs : List T.den)
structure St where
  tmps : List (Nat × AV)
  heap : List (Nat × Ent)
def look {α : Type} : List (Nat × α) → Nat → Option α
  | [], _ => none
  | (m, a) :: r, n => match Nat.beq n m with | true => some a | false => look r n
def mem : List Nat → Nat → Bool
  | [], _ => false
  | m :: r, n => match Nat.beq n m with | true => true | false => mem r n
def Lf.names : Lf → List Nat
  | .ref n | .pref n _ _ | .ptr n _ | .eptr n _ _ => [n]
  | .fnl _ caps => caps
  | _ => []
def Lf.says (n : Nat) : Lf → Bool
  | .ref m | .pref m _ _ | .ptr m _ | .eptr m _ _ => Nat.beq n m
  | .fnl _ caps => mem caps n
  | _ => false
def lsSay (n : Nat) : List Lf → Bool
  | [] => false
  | l :: r => l.says n || lsSay n r
def vsSay (n : Nat) : List (Bool × List Lf) → Bool
  | [] => false
  | (_, ls) :: r => lsSay n ls || vsSay n r
def AV.says (n : Nat) : AV → Bool
  | .v _ ls => lsSay n ls
  | .tup vs => vsSay n vs
  | .undef => false
def Ent.says (n : Nat) : Ent → Bool
  | .box ls => lsSay n ls
  | .row .. => false
def tmpsSay (n : Nat) : List (Nat × AV) → Bool
  | [] => false
  | (_, a) :: r => a.says n || tmpsSay n r
def heapSay (n : Nat) : List (Nat × Ent) → Bool
  | [] => false
  | (m, e) :: r => Nat.beq n m || e.says n || heapSay n r
def St.fresh (σ : St) (n : Nat) : Bool := !(tmpsSay n σ.tmps) && !(heapSay n σ.heap)
/-- A type's kind: of a slice the element type's number. -/
inductive Tk where
  | int (k : IntKind) | bool | str | sl (e : Nat) | st | oth
def Tk.agg : Tk → Bool
  | .st => true
  | _ => false
structure TI where
  k : Tk
  eq : Bool
  zero : List Lf
  bytes : Nat
  fields : List (Nat × Nat × Bool)
  T : ETy
structure Con where
  A : ETy
  B : ETy
  f : A.den → Option B.den
  io : List (Nat × Bool)
  ps : List (Bool × Nat)
  rs : List (Bool × Nat)
  own : List Bool
structure Env where
  ty : Nat → Option TI
  tab : Nat → Option Con
  heads : Nat → Option (List Nat × List (Nat × ETy × Bool))
  pre : Nat → Nat
  deep : Nat → Bool
  K : Nat
abbrev Hp := List (Nat × Ent)
def nilAs : (t : LTy) → Option t.den
  | .sl _ => some []
  | _ => none
def rowAs (H : Hp) (n : Nat) (T : ETy) : Option (List T.den) :=
  match look H n with
  | some (.row T' _ xs) => ETy.casts? T' T xs
  | _ => none
def refAs (H : Hp) (n : Nat) : (t : LTy) → Option t.den
  | .sl T => rowAs H n T
  | _ => none
def partOf (H : Hp) (n i j : Nat) : Option Sg :=
  match look H n with
  | some (.row T xs' xs) => (T.sgs (xs.getD i T.dflt))[j]?
  | _ => none
/-- How a leaf reads as data of a type that is asked for. -/
def frzR (H : Hp) (t : LTy) : Lf → Option t.den
  | .nil0 => nilAs t
  | .ref n => refAs H n t
  | .pref n i j => match partOf H n i j with | some g => t.get g | none => none
  | .val g => t.get g
  | _ => none
def frzRs (H : Hp) : (T : ETy) → List Lf → Option T.den
  | .nil, ls => match ls with | [] => some () | _ => none
  | .cons t .nil, ls => match ls with | [l] => frzR H t l | _ => none
  | .cons t (.cons u ts), ls =>
    match ls with
    | l :: r =>
      match frzR H t l, frzRs H (.cons u ts) r with
      | some x, some y => some (x, y)
      | _, _ => none
    | [] => none
/-- The same of captured variables: boxes. -/
def frzB (H : Hp) (T : ETy) (n : Nat) : Option T.den :=
  match look H n with
  | some (.box ls) => frzRs H T ls
  | _ => none
def capAs (H : Hp) (n : Nat) : (t : LTy) → Option t.den
  | .ptr T => frzB H T n
  | _ => none
def frzCaps (H : Hp) : (B : ETy) → List Nat → Option B.den
  | .nil, ns => match ns with | [] => some () | _ => none
  | .cons t .nil, ns => match ns with | [n] => capAs H n t | _ => none
  | .cons t (.cons u ts), ns =>
    match ns with
    | n :: r =>
      match capAs H n t, frzCaps H (.cons u ts) r with
      | some x, some y => some (x, y)
      | _, _ => none
    | [] => none
def pkAs (p : Pk) : (t : LTy) → Option t.den
  | .ptr T => ETy.cast? p.T T p.x
  | _ => none
def fnAs (H : Hp) (f' : Nat) (caps : List Nat) : (t : LTy) → Option t.den
  | .fn f g A B =>
    match decide (f = f'), g, A with
    | true, false, .nil => match frzCaps H B caps with | some b => some ((), b) | none => none
    | _, _, _ => none
  | _ => none
def frz (H : Hp) (t : LTy) (l : Lf) : Option t.den :=
  match l with
  | .ptr n off => match off with | 0 => capAs H n t | _ => none
  | .rptr p off => match off with | 0 => pkAs p t | _ => none
  | .fnl f' caps => fnAs H f' caps t
  | l => frzR H t l
def frzs (H : Hp) : (T : ETy) → List Lf → Option T.den
  | .nil, ls => match ls with | [] => some () | _ => none
  | .cons t .nil, ls => match ls with | [l] => frz H t l | _ => none
  | .cons t (.cons u ts), ls =>
    match ls with
    | l :: r =>
      match frz H t l, frzs H (.cons u ts) r with
      | some x, some y => some (x, y)
      | _, _ => none
    | [] => none
/-- Is a leaf owned to the ground (or does it hold no row). -/
def ownL (H : Hp) : Lf → Bool
  | .val g => g.t.flat
  | .nil0 => true
  | .ref n => match look H n with | some (.row _ d _) => d | _ => false
  | _ => false
def ownLs (H : Hp) : List Lf → Bool
  | [] => true
  | l :: r => ownL H l && ownLs H r
/-- Is a leaf's meaning known. -/
def alive (H : Hp) : Lf → Bool
  | .val _ | .nil0 | .nilp | .fnl _ _ | .rptr _ _ => true
  | .ref n => match look H n with | some (.row ..) => true | _ => false
  | .eptr n _ _ => match look H n with | some (.row ..) => true | _ => false
  | .ptr n _ => match look H n with | some (.box _) => true | _ => false
  | _ => false
def alives (H : Hp) : List Lf → Bool
  | [] => true
  | l :: r => alive H l && alives H r
/-- The rows that leaves name. -/
def refsOf : List Lf → List Nat
  | [] => []
  | .ref n :: r => n :: refsOf r
  | .pref n _ _ :: r => n :: refsOf r
  | _ :: r => refsOf r
def boxRefs (H : Hp) : List Nat → List Nat
  | [] => []
  | n :: r => (match look H n with | some (.box ls) => refsOf ls | _ => []) ++ boxRefs H r
def allRefs (H : Hp) : List Lf → List Nat
  | [] => []
  | .ref n :: r => n :: allRefs H r
  | .pref n _ _ :: r => n :: allRefs H r
  | .ptr n _ :: r => boxRefs H [n] ++ allRefs H r
  | .fnl _ caps :: r => boxRefs H caps ++ allRefs H r
  | _ :: r => allRefs H r
def nodup : List Nat → Bool
  | [] => true
  | n :: r => !(mem r n) && nodup r
/-- What an operation does: its value, rows and boxes that come, go and change. -/
structure D where
  av : AV
  adds : Hp
  dels : List Nat
  sets : Hp
def drop (H : Hp) (ns : List Nat) : Hp :=
  match H with
  | [] => []
  | (m, e) :: r => match mem ns m with | true => drop r ns | false => (m, e) :: drop r ns
def sets (H : Hp) (S : Hp) : Hp :=
  match H with
  | [] => []
  | (m, e) :: r => match look S m with | some e' => (m, e') :: sets r S | none => (m, e) :: sets r S
def lim : Nat := 68719476736
def val1 (g : Sg) : AV := .v false [.val g]
def vint (k : IntKind) (n : Int) : AV := val1 (.int k n)
def vbool (b : Bool) : AV := val1 (.bool b)
def const : Value → Option AV
  | .int k n => some (vint k n)
  | .bool b => some (vbool b)
  | .string s => some (val1 (.str s))
  | .slice none 0 0 => some (.v false [.nil0])
  | .pointer none => some (.v false [.nilp])
  | _ => none
def St.eval (σ : St) : Operand → Option AV
  | .tmp t => look σ.tmps t
  | .const v => const v
  | .func f => some (val1 (.fn f false .nil .nil () ()))
  | .global _ => none
section
variable {α : Type}
def lenOf (H : Hp) : Lf → Option Nat
  | .nil0 => some 0
  | .val (.sl _ xs) => some xs.length
  | .val (.str s) => some s.size
  | .ref n => match look H n with | some (.row _ _ xs) => some xs.length | _ => none
  | .pref n i j => match partOf H n i j with | some (.sl _ ys) => some ys.length | _ => none
  | _ => none
def sgsEq : List Sg → List Sg → Option Bool
  | [], [] => some true
  | .int k a :: r, .int k' b :: s =>
    match decide (k = k'), sgsEq r s with
    | true, some c => some (a == b && c)
    | _, _ => none
  | .bool a :: r, .bool b :: s => match sgsEq r s with | some c => some (a == b && c) | none => none
  | .str a :: r, .str b :: s => match sgsEq r s with | some c => some (a.toList == b.toList && c) | none => none
  | _, _ => none
def vals : List Lf → Option (List Sg)
  | [] => some []
  | .val g :: r => match vals r with | some s => some (g :: s) | none => none
  | _ => none
def intBin (op : BinOp) (k : IntKind) (a b : Int) (no : BinOp → Int → Int → (AV → Option α) → Option α) (K : AV → Option α) : Option α :=
  match op with
  | .add => K (vint k (k.wrap (a + b)))
  | .sub => K (vint k (k.wrap (a - b)))
  | .mul => K (vint k (k.wrap (a * b)))
  | .quo => bif b == 0 then none else K (vint k (k.wrap (a.tdiv b)))
  | .rem => bif b == 0 then none else K (vint k (a.tmod b))
  | .eql => K (vbool (a == b))
  | .neq => K (vbool (a != b))
  | .lss => K (vbool (a < b))
  | .leq => K (vbool (a ≤ b))
  | .gtr => K (vbool (a > b))
  | .geq => K (vbool (a ≥ b))
  | op => no op a b K
def strBin (op : BinOp) (a b : ByteArray) (K : AV → Option α) : Option α :=
  match op with
  | .eql => K (vbool (a.toList == b.toList))
  | .neq => K (vbool !(a.toList == b.toList))
  | .lss => K (vbool (Op.bytesLess a.toList b.toList))
  | .geq => K (vbool !(Op.bytesLess a.toList b.toList))
  | .add => bif decide (a.size + b.size < 281474976710656) then K (val1 (.str (a ++ b))) else none
  | _ => none
end
end V
end Go.Proofs.Ytchhidcbfladhaa
