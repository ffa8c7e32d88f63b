/- The symbolic evaluator, third part: regions, code, bodies. -/
import Derived.Test.YtchhidcbfladhaaVStep
namespace Go.Proofs.Ytchhidcbfladhaa
namespace V
set_option linter.unusedVariables false
/-- Names are new, each once. -/
def newOk (σ : St) : Hp → Bool
  | [] => true
  | (n, _) :: r => σ.fresh n && newOk σ r
def keys : Hp → List Nat
  | [] => []
  | (n, _) :: r => n :: keys r
def St.put (σ : St) (dst : Option Nat) (a : AV) : List (Nat × AV) := match dst with | some d => (d, a) :: σ.tmps | none => σ.tmps
def St.apply (σ : St) (dst : Option Nat) (d : D) : St := ⟨σ.put dst d.av, d.adds ++ sets (drop σ.heap d.dels) d.sets⟩
def dOk (σ : St) (d : D) : Bool := newOk σ d.adds && nodup (keys d.adds) && nodup d.dels && disj (keys d.sets) d.dels
/-- A number too great for small machines apart: the tmps there are. -/
def dstOk (nt : Nat) : Option Nat → Bool
  | none => true
  | some d => Nat.blt d nt
section
variable {α : Type}
structure Kt (α : Type) where
  n : St → Option α
  e : Nat → St → Option α
  r : St → Option α
/-- A test: both ways, each knowing its answer. -/
def split (σ : St) (x : Operand) (yes no : St → Option α) : Option α :=
  match σ.eval x with
  | some (.v false [.val (.bool b)]) =>
    match x with
    | .tmp t => bif b then yes ⟨(t, vbool true) :: σ.tmps, σ.heap⟩ else no ⟨(t, vbool false) :: σ.tmps, σ.heap⟩
    | _ => bif b then yes σ else no σ
  | _ => none
/-- The operations from number i on, in the text's order; p: the first p may run in any order their edges allow (they only add). -/
def runOps (E : Env) (nt rid : Nat) (ops : Array Oper) (any : Bool) (p : Nat) : List Oper → Nat → St → (St → Option α) → Option α
  | [], _, σ, K => K σ
  | o :: r, i, σ, K =>
    let go (σ : St) : Option α :=
      opD E σ ((rid + 1) * 1000 + i) o fun d =>
        match dOk σ d && dstOk nt o.dst && (!any || !(Nat.blt i p) || (d.dels.isEmpty && d.sets.isEmpty)) with
        | true => runOps E nt rid ops any p r (i + 1) (σ.apply o.dst d) K
        | false => none
    let skip (σ : St) : Option α := match dstOk nt o.dst with | true => runOps E nt rid ops any p r (i + 1) ⟨σ.put o.dst .undef, σ.heap⟩ K | false => none
    match o.guard with
    | none => go σ
    | some (j, want) =>
      match (ops[j]?).bind (·.dst) with
      | none => none
      | some t =>
        match look σ.tmps t with
        | some .undef => skip σ
        | some _ => split σ (.tmp t) (fun τ => match want with | true => go τ | false => skip τ) (fun τ => match want with | true => skip τ | false => go τ)
        | none => none
def Code.rid : Code → Nat
  | .region id _ _ => id
  | .seq a _ => Code.rid a
  | .block _ c => Code.rid c
  | .loop c => Code.rid c
  | .cond _ a _ => Code.rid a
  | _ => 0
/-! The state at a loop's head, or where ways meet: the live slots alone, what they lead to under names of its own. -/
def nmT (rid s q : Nat) : Nat := (1000000000000 + rid * 100000 + s) * 64 + q
def nmB (n j : Nat) : Nat := (n + 1000000000000000000) * 64 + j
def addPair (ρ : List (Nat × Nat)) (n m : Nat) : List (Nat × Nat) := match look ρ n with | some _ => ρ | none => ρ ++ [(n, m)]
def pairsBox (n : Nat) : Nat → List Lf → List (Nat × Nat) → List (Nat × Nat)
  | _, [], ρ => ρ
  | j, .ref m :: r, ρ => pairsBox n (j + 1) r (addPair ρ m (nmB n j))
  | j, _ :: r, ρ => pairsBox n (j + 1) r ρ
def pairsBoxes (H : Hp) : List Nat → List (Nat × Nat) → List (Nat × Nat)
  | [], ρ => ρ
  | n :: ns, ρ =>
    let ρ := addPair ρ n n
    pairsBoxes H ns (match look H n with | some (.box ls) => pairsBox n 0 ls ρ | _ => ρ)
def pairsLs (H : Hp) (rid s : Nat) : Nat → List Lf → List (Nat × Nat) → List (Nat × Nat)
  | _, [], ρ => ρ
  | q, .ref n :: r, ρ => pairsLs H rid s (q + 1) r (addPair ρ n (match Nat.blt n 1000 with | true => n | false => nmT rid s q))
  | q, .ptr n _ :: r, ρ => pairsLs H rid s (q + 1) r (pairsBoxes H [n] ρ)
  | q, .fnl _ caps :: r, ρ => pairsLs H rid s (q + 1) r (pairsBoxes H caps ρ)
  | q, _ :: r, ρ => pairsLs H rid s (q + 1) r ρ
def pairs (σ : St) (rid : Nat) : List Nat → List (Nat × Nat) → List (Nat × Nat)
  | [], ρ => ρ
  | s :: r, ρ => pairs σ rid r (match look σ.tmps s with | some (.v _ ls) => pairsLs σ.heap rid s 0 ls ρ | _ => ρ)
abbrev Cv := List (Nat × ETy × Bool)
/-- A leaf under the new names; a nil slice as an empty row where that is asked for. -/
def renL (ρ : List (Nat × Nat)) (cv : Cv) (name : Nat) : Lf → Lf
  | .ref n => match look ρ n with | some m => .ref m | none => .dead
  | .ptr n o => match look ρ n with | some m => .ptr m o | none => .dead
  | .nil0 => match look cv name with | some _ => .ref name | none => .nil0
  | .val g => .val g
  | .rptr p j => .rptr p j
  | .fnl f caps => match mapCaps caps with | some cs => .fnl f cs | none => .dead
  | .nilp => .nilp
  | _ => .dead
where
  mapCaps : List Nat → Option (List Nat)
  | [] => some []
  | n :: r => match look ρ n, mapCaps r with | some m, some s => some (m :: s) | _, _ => none
def renLs (ρ : List (Nat × Nat)) (cv : Cv) (name : Nat → Nat) : Nat → List Lf → List Lf
  | _, [] => []
  | q, l :: r => renL ρ cv (name q) l :: renLs ρ cv name (q + 1) r
def isNil0 : Lf → Bool
  | .nil0 => true
  | _ => false
def cvRows (cv : Cv) (name : Nat → Nat) : Nat → List Lf → Hp
  | _, [] => []
  | q, l :: r => (match isNil0 l, look cv (name q) with | true, some (T, d) => [(name q, .row T d [])] | _, _ => []) ++ cvRows cv name (q + 1) r
def renTmps (σ : St) (ρ : List (Nat × Nat)) (cv : Cv) (rid : Nat) : List Nat → Option (List (Nat × AV) × Hp)
  | [] => some ([], [])
  | s :: r =>
    match look σ.tmps s, renTmps σ ρ cv rid r with
    | some (.v g ls), some (ts, hs) => some ((s, .v g (renLs ρ cv (nmT rid s) 0 ls)) :: ts, cvRows cv (nmT rid s) 0 ls ++ hs)
    | _, _ => none
def renHeap (H : Hp) (ρ : List (Nat × Nat)) (cv : Cv) : List (Nat × Nat) → Option (Hp × Hp)
  | [] => some ([], [])
  | (n, m) :: r =>
    match look H n, renHeap H ρ cv r with
    | some (.box ls), some (a, b) => some ((m, .box (renLs ρ cv (nmB n) 0 ls)) :: a, cvRows cv (nmB n) 0 ls ++ b)
    | some (.row T d xs), some (a, b) => some ((m, .row T d xs) :: a, b)
    | _, _ => none
def seconds : List (Nat × Nat) → List Nat
  | [] => []
  | (_, m) :: r => m :: seconds r
def norm (rid : Nat) (L : List Nat × Cv) (σ : St) : Option St :=
  let ρ := pairs σ rid L.1 []
  match renTmps σ ρ L.2 rid L.1, renHeap σ.heap ρ L.2 ρ with
  | some (ts, h1), some (h2, h3) =>
    match nodup (keys (h2 ++ (h1 ++ h3))) with
    | true => some ⟨ts, h2 ++ (h1 ++ h3)⟩
    | false => none
  | _, _ => none
def normK (rid : Nat) (L : List Nat × Cv) (K : St → Option α) (σ : St) : Option α := match norm rid L σ with | some τ => K τ | none => none
def loopN (F : (St → Option α) → St → Option α) : Nat → St → Option α
  | 0, _ => none
  | n + 1, σ => F (loopN F n) σ
def allBits (b : Array Nat) (p : Nat) : Nat → List Oper → Bool
  | _, [] => true
  | q, _ :: r => (Nat.blt q p || Nat.beq (b.getD q 0) (2 ^ q - 1)) && allBits b p (q + 1) r
/-- Where the order is open: the first p operations set each temporary once, before it is read. -/
def ssaOk (ops : Array Oper) (b : Array Nat) (p : Nat) : Nat → List Oper → Bool
  | _, [] => true
  | i, o :: r =>
    (Nat.ble p i || readsOk o i 0 ops.toList) && ssaOk ops b p (i + 1) r
where
  readsOk (o : Oper) (i : Nat) : Nat → List Oper → Bool
  | _, [] => true
  | j, q :: r =>
    (Nat.ble p j || Nat.beq i j ||
      match q.dst with
      | none => true
      | some d => !(o.dst == some d) && ((b.getD i 0).testBit j || !((o.op.operands.toList.any fun x => match x with | .tmp t => t == d | _ => false) || (match o.guard with | some (g, _) => (ops[g]?.bind (·.dst)) == some d | none => false)))) && readsOk o i (j + 1) r
def drawOk (ops : Array Oper) (p : Nat) : Bool :=
  let b := Region.before ops
  allBits b p 0 ops.toList && ssaOk ops b p 0 ops.toList
def evC (E : Env) (nt : Nat) : Code → Kt α → St → Option α
  | .skip, k, σ => k.n σ
  | .region id ops draw, k, σ =>
    match draw with
    | false => runOps E nt id ops false 0 ops.toList 0 σ k.n
    | true => match drawOk ops (E.pre id) with | true => runOps E nt id ops true (E.pre id) ops.toList 0 σ k.n | false => none
  | .seq a b, k, σ =>
    evC E nt a ⟨match E.heads (2 * Code.rid b + 1) with | none => evC E nt b k | some L => normK (2 * Code.rid b + 1) L (evC E nt b k), k.e, k.r⟩ σ
  | .cond c x y, k, σ => split σ c (evC E nt x k) (evC E nt y k)
  | .block id c, k, σ => evC E nt c ⟨k.n, fun i τ => match Nat.beq i id with | true => k.n τ | false => k.e i τ, k.r⟩ σ
  | .loop c, k, σ =>
    match E.heads (2 * Code.rid c) with
    | none => none
    | some L => normK (2 * Code.rid c) L (loopN (fun rec τ => evC E nt c ⟨normK (2 * Code.rid c) L rec, k.e, k.r⟩ τ) E.K) σ
  | .exit id, k, σ => k.e id σ
  | .ret, k, σ => k.r σ
  | _, _, _ => none
/-! A body: the parameters' state, the results. -/
def parLs (io : List (Nat × Bool)) : Nat → List Sg → List Lf × Hp
  | _, [] => ([], [])
  | q, g :: r =>
    let rest := parLs io (q + 1) r
    match isIo q io, g with
    | true, .sl T xs => (.ref q :: rest.1, (q, .row T true xs) :: rest.2)
    | true, .ptr T x =>
      match look io q with
      | some true => let z := resLs (q + 900) 0 (List.replicate T.len true) (T.sgs x); (.ptr q 0 :: rest.1, (q, .box z.1) :: (z.2 ++ rest.2))
      | _ => (.ptr q 0 :: rest.1, (q, .box ((T.sgs x).map .val)) :: rest.2)
    | _, g => (.val g :: rest.1, rest.2)
def avTmps : Nat → List (Bool × List Lf) → List (Nat × AV)
  | _, [] => []
  | i, (g, ls) :: r => (i, .v g ls) :: avTmps (i + 1) r
def entry (con : Con) (x : con.A.den) : St :=
  let z := parLs con.io 0 (con.A.sgs x)
  ⟨avTmps 0 (shaped con.ps z.1), z.2⟩
def results (E : Env) (σ : St) : List ResultVar → Option (List (Bool × List Lf))
  | [] => some []
  | .tmp t :: r => match look σ.tmps t, results E σ r with | some (.v g ls), some s => some ((g, ls) :: s) | _, _ => none
  | .cell a t :: r =>
    match look σ.tmps a, E.ty t, results E σ r with
    | some (.v false [l]), some i, some s =>
      match loadL σ.heap l i.zero.length, i.k.agg || Nat.beq i.zero.length 1 with
      | some ls, true => some ((i.k.agg, ls) :: s)
      | _, _ => none
    | _, _, _ => none
/-- The written parameters, as they stand at the end. -/
def ioOuts (σ : St) : List (Nat × Bool) → List Sg → Option (List Lf)
  | [], _ => some []
  | (p, ow) :: r, gs =>
    match gs[p]?, ioOuts σ r gs with
    | some (.sl _ _), some s => some (.ref p :: s)
    | some (.ptr _ _), some s =>
      match look σ.heap p with
      | some (.box ls) => match !ow || ownLs σ.heap ls with | true => some (.ptr p 0 :: s) | false => none
      | _ => none
    | _, _ => none
def ownOuts (H : Hp) : List Bool → List Lf → Bool
  | _, [] => true
  | own, l :: r => (match own.headD false with | true => (match l with | .ptr n 0 => (match look H n with | some (.box ls) => true | _ => false) | l => ownL H l) | false => true) && ownOuts H own.tail r
/-- The rows that owned results name. -/
def ownRefs : List Bool → List Lf → List Nat
  | _, [] => []
  | own, l :: r => (match own.headD false with | true => l.names | false => []) ++ ownRefs own.tail r
def fin (E : Env) (con : Con) (rs : List ResultVar) (x : con.A.den) (σ : St) : Option con.B.den :=
  match results E σ rs, ioOuts σ con.io (con.A.sgs x) with
  | some vs, some os =>
    let ls := flatA vs
    match shapesEq (shapes vs) con.rs && ownOuts σ.heap con.own ls && nodup (ownRefs con.own ls) && disj (ioNames σ.heap (os.zipIdx.map fun p => (p.2, true)) true 0 os) (ownRefs con.own ls) with
    | true => frzs σ.heap con.B (os ++ ls)
    | false => none
  | _, _ => none
def evBody (E : Env) (con : Con) (fn : Func) (x : con.A.den) : Option con.B.den :=
  match fn.body with
  | some c => evC E fn.ntmps c ⟨fin E con fn.results.toList x, fun _ _ => none, fin E con fn.results.toList x⟩ (entry con x)
  | none => none
end
end V
end Go.Proofs.Ytchhidcbfladhaa
