/- A verified symbolic evaluator, part A. -/
import Derived.Calls
import Derived.Orders
import Derived.Laws.Sem
import Derived.Laws.Entries
import Derived.Laws.World
import Derived.Laws.Cells
import Derived.Laws.IdiomCopy
import Derived.Laws.StructEq
namespace Go.Proofs.YtcbeaoigenjoeaeGreat
namespace V
set_option linter.unusedSimpArgs false
set_option linter.unusedVariables false
theorem no {α:Type}{x:α}{p:Prop}(h:(none:Option α)=some x):p:=absurd h.symm (Option.some_ne_none x)
mutual
inductive LTy where
 |int (k:IntKind)|bool|str|sl (t:ETy)|ptr (t:ETy)|fn (f:Nat) (agg:Bool) (a b:ETy)
inductive ETy where
 |nil|cons (t:LTy) (ts:ETy)
end
mutual
def LTy.den :LTy→Type
 | .int _=>Int
 | .bool=>Bool
 | .str=>ByteArray
 | .sl t=>List t.den
 | .ptr t=>t.den
 | .fn _ _ a b=>a.den×b.den
def ETy.den :ETy→Type
 | .nil=>Unit
 | .cons t .nil=>t.den
 | .cons t (.cons u ts)=>t.den×(ETy.cons u ts).den
end
mutual
def LTy.beq :LTy→LTy→Bool
 | .int k, .int k'=>decide (k=k')
 | .bool, .bool=>true
 | .str, .str=>true
 | .sl t, .sl t'=>t.beq t'
 | .ptr t, .ptr t'=>t.beq t'
 | .fn f g a b, .fn f' g' a' b'=>decide (f=f')&&decide (g=g')&&a.beq a'&&b.beq b'
 |_,_=>false
def ETy.beq :ETy→ETy→Bool
 | .nil, .nil=>true
 | .cons t ts, .cons t' ts'=>t.beq t'&&ts.beq ts'
 |_,_=>false
end
mutual
theorem LTy.eq_of_beq :∀(a b:LTy),a.beq b=true→a=b
 | .int k,b,h=>by cases b<;>simp_all [LTy.beq]
 | .bool,b,h=>by cases b<;>simp_all [LTy.beq]
 | .str,b,h=>by cases b<;>simp_all [LTy.beq]
 | .sl t,b,h=>by
   cases b with
   |sl t'=>rw[ETy.eq_of_beq t t' (by simpa [LTy.beq]using h)]
   |_=>simp[LTy.beq]at h
 | .ptr t,b,h=>by
   cases b with
   |ptr t'=>rw[ETy.eq_of_beq t t' (by simpa [LTy.beq]using h)]
   |_=>simp[LTy.beq]at h
 | .fn f g x y,b,h=>by
   cases b with
   |fn f' g' x' y'=>
    simp only[LTy.beq,Bool.and_eq_true,decide_eq_true_eq]at h
    obtain⟨⟨⟨h1,h2⟩,h3⟩,h4⟩:=h
    rw[h1,h2,ETy.eq_of_beq x x' h3,ETy.eq_of_beq y y' h4]
   |_=>simp[LTy.beq]at h
theorem ETy.eq_of_beq :∀(a b:ETy),a.beq b=true→a=b
 | .nil,b,h=>by cases b<;>simp_all [ETy.beq]
 | .cons t ts,b,h=>by
   cases b with
   |nil=>simp[ETy.beq]at h
   |cons t' ts'=>
    simp only[ETy.beq,Bool.and_eq_true]at h
    rw[LTy.eq_of_beq t t' h.1,ETy.eq_of_beq ts ts' h.2]
end
mutual
theorem LTy.beq_refl :∀(a:LTy),a.beq a=true
 | .int k=>by simp[LTy.beq]
 | .bool=>rfl
 | .str=>rfl
 | .sl t=>by simp[LTy.beq,ETy.beq_refl t]
 | .ptr t=>by simp[LTy.beq,ETy.beq_refl t]
 | .fn f g x y=>by simp[LTy.beq,ETy.beq_refl x,ETy.beq_refl y]
theorem ETy.beq_refl :∀(a:ETy),a.beq a=true
 | .nil=>rfl
 | .cons t ts=>by simp[ETy.beq,LTy.beq_refl t,ETy.beq_refl ts]
end
def ETy.cast? (a b:ETy)(x:a.den):Option b.den:=if h:a.beq b=true then some (cast (congrArg ETy.den (ETy.eq_of_beq a b h)) x)else none
def ETy.casts? (a b:ETy)(x:List a.den):Option (List b.den):=if h:a.beq b=true then some (cast (congrArg (fun T=>List (ETy.den T)) (ETy.eq_of_beq a b h)) x)else none
theorem ETy.cast?_some {a b:ETy}{x:a.den}{y:b.den}(h:ETy.cast? a b x=some y):∃e:a=b,e▸x=y:=by
 unfold ETy.cast? at h
 split at h
 ·rename_i hb
  have e:=ETy.eq_of_beq a b hb
  subst e
  simp at h
  exact⟨rfl,h⟩
 ·cases h
theorem ETy.casts?_some {a b:ETy}{x:List a.den}{y:List b.den}(h:ETy.casts? a b x=some y):∃e:a=b,e▸x=y:=by
 unfold ETy.casts? at h
 split at h
 ·rename_i hb
  have e:=ETy.eq_of_beq a b hb
  subst e
  simp at h
  exact⟨rfl,h⟩
 ·cases h
inductive Sg where
 |int (k:IntKind) (n:Int)
 |bool (b:Bool)
 |str (s:ByteArray)
 |sl (T:ETy) (xs:List T.den)
 |ptr (T:ETy) (x:T.den)
 |fn (f:Nat) (agg:Bool) (A B:ETy) (a:A.den) (b:B.den)
def LTy.sg :(t:LTy)→t.den→Sg
 | .int k,n=> .int k n
 | .bool,b=> .bool b
 | .str,s=> .str s
 | .sl T,xs=> .sl T xs
 | .ptr T,x=> .ptr T x
 | .fn f g A B,x=> .fn f g A B x.1 x.2
def Sg.t :Sg→LTy
 | .int k _=> .int k
 | .bool _=> .bool
 | .str _=> .str
 | .sl T _=> .sl T
 | .ptr T _=> .ptr T
 | .fn f g A B _ _=> .fn f g A B
def Sg.int? (k:IntKind):Sg→Option Int
 | .int k' n=>match decide (k=k')with|true=>some n|false=>none
 |_=>none
def Sg.bool? :Sg→Option Bool
 | .bool b=>some b
 |_=>none
def Sg.str? :Sg→Option ByteArray
 | .str b=>some b
 |_=>none
def Sg.sl? (T:ETy):Sg→Option (List T.den)
 | .sl T' xs=>ETy.casts? T' T xs
 |_=>none
def Sg.ptr? (T:ETy):Sg→Option T.den
 | .ptr T' x=>ETy.cast? T' T x
 |_=>none
def Sg.fn? (f:Nat)(g:Bool)(A B:ETy):Sg→Option (A.den×B.den)
 | .fn f' g' A' B' a b=>
   match decide (f'=f),decide (g'=g),ETy.cast? A' A a,ETy.cast? B' B b with
   |true,true,some a,some b=>some (a,b)
   |_,_,_,_=>none
 |_=>none
def LTy.get :(t:LTy)→Sg→Option t.den
 | .int k,g=>g.int? k
 | .bool,g=>g.bool?
 | .str,g=>g.str?
 | .sl T,g=>g.sl? T
 | .ptr T,g=>g.ptr? T
 | .fn f q A B,g=>g.fn? f q A B
def ETy.len :ETy→Nat
 | .nil=>0
 | .cons _ ts=>ts.len+1
def ETy.sgs :(T:ETy)→T.den→List Sg
 | .nil,_=>[]
 | .cons t .nil,x=>[t.sg x]
 | .cons t (.cons u ts),x=>t.sg x.1::(ETy.cons u ts).sgs x.2
structure Pk where
 T:ETy
 x:T.den
def Pk.cons (t:LTy)(y:t.den):Pk→Pk
 |⟨.nil,_⟩=>⟨.cons t .nil,y⟩
 |⟨.cons u ts,z⟩=>⟨.cons t (.cons u ts),(y,z)⟩
def Pk.add (g:Sg)(p:Pk):Pk:=
 match g with
 | .int k n=>Pk.cons (.int k) n p
 | .bool b=>Pk.cons .bool b p
 | .str s=>Pk.cons .str s p
 | .sl T xs=>Pk.cons (.sl T) xs p
 | .ptr T x=>Pk.cons (.ptr T) x p
 | .fn f g A B a b=>Pk.cons (.fn f g A B) (a,b) p
def packs :List Sg→Pk
 |[]=>⟨.nil,()⟩
 |g::gs=>Pk.add g (packs gs)
mutual
def LTy.dflt :(t:LTy)→t.den
 | .int _=>(0:Int)
 | .bool=>false
 | .str=>(⟨#[]⟩:ByteArray)
 | .sl _=>[]
 | .ptr t=>ETy.dflt t
 | .fn _ _ a b=>(ETy.dflt a,ETy.dflt b)
def ETy.dflt :(T:ETy)→T.den
 | .nil=>()
 | .cons t .nil=>LTy.dflt t
 | .cons t (.cons u ts)=>(LTy.dflt t,ETy.dflt (.cons u ts))
end
def LTy.flat :LTy→Bool
 | .int _| .bool| .str=>true
 |_=>false
def ETy.flat :ETy→Bool
 | .nil=>true
 | .cons t ts=>t.flat&&ts.flat
inductive Lf where
 |val (g:Sg)
 |nil0
 |ref (n:Nat)
 |pref (n i j:Nat)
 |ptr (n off:Nat)
 |eptr (n i j:Nat)
 |rptr (p:Pk) (j:Nat)
 |fnl (f:Nat) (caps:List Nat)
 |nilp
 |dead
inductive AV where
 |v (agg:Bool) (ls:List Lf)
 |tup (vs:List (Bool×List Lf))
 |undef
 |anyb
inductive Ent where
 |box (ls:List Lf)
 |row (T:ETy) (deep:Bool) (xs:List T.den)
structure St where
 tmps:List (Nat×AV)
 heap:List (Nat×Ent)
def look {α:Type}:List (Nat×α)→Nat→Option α
 |[],_=>none
 |(m,a)::r,n=>match Nat.beq n m with|true=>some a|false=>look r n
def mem :List Nat→Nat→Bool
 |[],_=>false
 |m::r,n=>match Nat.beq n m with|true=>true|false=>mem r n
def Lf.names :Lf→List Nat
 | .ref n| .pref n _ _| .ptr n _| .eptr n _ _=>[n]
 | .fnl _ caps=>caps
 |_=>[]
def Lf.says (n:Nat):Lf→Bool
 | .ref m| .pref m _ _| .ptr m _| .eptr m _ _=>Nat.beq n m
 | .fnl _ caps=>mem caps n
 |_=>false
def lsSay (n:Nat):List Lf→Bool
 |[]=>false
 |l::r=>l.says n||lsSay n r
def vsSay (n:Nat):List (Bool×List Lf)→Bool
 |[]=>false
 |(_,ls)::r=>lsSay n ls||vsSay n r
def AV.says (n:Nat):AV→Bool
 | .v _ ls=>lsSay n ls
 | .tup vs=>vsSay n vs
 | .undef=>false
 | .anyb=>false
def Ent.says (n:Nat):Ent→Bool
 | .box ls=>lsSay n ls
 | .row .. =>false
def tmpsSay (n:Nat):List (Nat×AV)→Bool
 |[]=>false
 |(_,a)::r=>a.says n||tmpsSay n r
def heapSay (n:Nat):List (Nat×Ent)→Bool
 |[]=>false
 |(m,e)::r=>Nat.beq n m||e.says n||heapSay n r
def St.fresh (σ:St)(n:Nat):Bool:= !(tmpsSay n σ.tmps)&& !(heapSay n σ.heap)
inductive Tk where
 |int (k:IntKind)|bool|str|sl (e:Nat)|st|oth
def Tk.agg :Tk→Bool
 | .st=>true
 |_=>false
structure TI where
 k:Tk
 eq:Bool
 zero:List Lf
 bytes:Nat
 fields:List (Nat×Nat×Bool)
 T:ETy
structure Con where
 A:ETy
 B:ETy
 f:A.den→Option B.den
 io:List (Nat×Bool)
 ps:List (Bool×Nat)
 rs:List (Bool×Nat)
 own:List Bool
 nils:List Nat
structure Env where
 ty:Nat→Option TI
 tab:Nat→Nat→Option Con
 heads:Nat→Option (List Nat×List (Nat×ETy×Bool))
 pre:Nat→Nat
 deep:Nat→Bool
 movs:Nat→List Nat
 flts:Nat→List Nat
 K:Nat
abbrev Hp :=List (Nat×Ent)
def nilAs :(t:LTy)→Option t.den
 | .sl _=>some []
 |_=>none
def rowAs (H:Hp)(n:Nat)(T:ETy):Option (List T.den):=
 match look H n with
 |some (.row T' _ xs)=>ETy.casts? T' T xs
 |_=>none
def refAs (H:Hp)(n:Nat):(t:LTy)→Option t.den
 | .sl T=>rowAs H n T
 |_=>none
def partOf (H:Hp)(n i j:Nat):Option Sg:=
 match look H n with
 |some (.row T xs' xs)=>(T.sgs (xs.getD i T.dflt))[j]?
 |_=>none
def frzR (H:Hp)(t:LTy):Lf→Option t.den
 | .nil0=>nilAs t
 | .ref n=>refAs H n t
 | .pref n i j=>match partOf H n i j with|some g=>t.get g|none=>none
 | .val g=>t.get g
 |_=>none
def frzRs (H:Hp):(T:ETy)→List Lf→Option T.den
 | .nil,ls=>match ls with|[]=>some ()|_=>none
 | .cons t .nil,ls=>match ls with|[l]=>frzR H t l|_=>none
 | .cons t (.cons u ts),ls=>
   match ls with
   |l::r=>
    match frzR H t l,frzRs H (.cons u ts) r with
    |some x,some y=>some (x,y)
    |_,_=>none
   |[]=>none
def frzB (H:Hp)(T:ETy)(n:Nat):Option T.den:=
 match look H n with
 |some (.box ls)=>frzRs H T ls
 |_=>none
def capAs (H:Hp)(n:Nat):(t:LTy)→Option t.den
 | .ptr T=>frzB H T n
 |_=>none
def frzCaps (H:Hp):(B:ETy)→List Nat→Option B.den
 | .nil,ns=>match ns with|[]=>some ()|_=>none
 | .cons t .nil,ns=>match ns with|[n]=>capAs H n t|_=>none
 | .cons t (.cons u ts),ns=>
   match ns with
   |n::r=>
    match capAs H n t,frzCaps H (.cons u ts) r with
    |some x,some y=>some (x,y)
    |_,_=>none
   |[]=>none
def pkAs (p:Pk):(t:LTy)→Option t.den
 | .ptr T=>ETy.cast? p.T T p.x
 |_=>none
def fnAs (H:Hp)(f':Nat)(caps:List Nat):(t:LTy)→Option t.den
 | .fn f g A B=>
   match decide (f=f'),g,A with
   |true,false, .nil=>match frzCaps H B caps with|some b=>some ((),b)|none=>none
   |_,_,_=>none
 |_=>none
def frz (H:Hp)(t:LTy)(l:Lf):Option t.den:=
 match l with
 | .ptr n off=>match off with|0=>capAs H n t|_=>none
 | .rptr p off=>match off with|0=>pkAs p t|_=>none
 | .fnl f' caps=>fnAs H f' caps t
 |l=>frzR H t l
def frzs (H:Hp):(T:ETy)→List Lf→Option T.den
 | .nil,ls=>match ls with|[]=>some ()|_=>none
 | .cons t .nil,ls=>match ls with|[l]=>frz H t l|_=>none
 | .cons t (.cons u ts),ls=>
   match ls with
   |l::r=>
    match frz H t l,frzs H (.cons u ts) r with
    |some x,some y=>some (x,y)
    |_,_=>none
   |[]=>none
def ownL (H:Hp):Lf→Bool
 | .val g=>g.t.flat
 | .nil0=>true
 | .ref n=>match look H n with|some (.row _ d _)=>d|_=>false
 |_=>false
def ownLs (H:Hp):List Lf→Bool
 |[]=>true
 |l::r=>ownL H l&&ownLs H r
def alive (H:Hp):Lf→Bool
 | .val _| .nil0| .nilp| .fnl _ _| .rptr _ _=>true
 | .ref n=>match look H n with|some (.row ..)=>true|_=>false
 | .eptr n _ _=>match look H n with|some (.row ..)=>true|_=>false
 | .ptr n _=>match look H n with|some (.box _)=>true|_=>false
 |_=>false
def alives (H:Hp):List Lf→Bool
 |[]=>true
 |l::r=>alive H l&&alives H r
def refsOf :List Lf→List Nat
 |[]=>[]
 | .ref n::r=>n::refsOf r
 | .pref n _ _::r=>n::refsOf r
 |_::r=>refsOf r
def boxRefs (H:Hp):List Nat→List Nat
 |[]=>[]
 |n::r=>(match look H n with|some (.box ls)=>refsOf ls|_=>[])++boxRefs H r
def allRefs (H:Hp):List Lf→List Nat
 |[]=>[]
 | .ref n::r=>n::allRefs H r
 | .pref n _ _::r=>n::allRefs H r
 | .ptr n _::r=>boxRefs H [n]++allRefs H r
 | .fnl _ caps::r=>boxRefs H caps++allRefs H r
 |_::r=>allRefs H r
def nodup :List Nat→Bool
 |[]=>true
 |n::r=> !(mem r n)&&nodup r
structure D where
 av:AV
 adds:Hp
 dels:List Nat
 sets:Hp
def drop (H:Hp)(ns:List Nat):Hp:=
 match H with
 |[]=>[]
 |(m,e)::r=>match mem ns m with|true=>drop r ns|false=>(m,e)::drop r ns
def sets (H:Hp)(S:Hp):Hp:=
 match H with
 |[]=>[]
 |(m,e)::r=>match look S m with|some e'=>(m,e')::sets r S|none=>(m,e)::sets r S
def lim :Nat:=68719476736
def val1 (g:Sg):AV:= .v false [.val g]
def vint (k:IntKind)(n:Int):AV:=val1 (.int k n)
def vbool (b:Bool):AV:=val1 (.bool b)
def const :Value→Option AV
 | .int k n=>some (vint k n)
 | .bool b=>some (vbool b)
 | .string s=>some (val1 (.str s))
 | .slice none 0 0=>some (.v false [.nil0])
 | .pointer none=>some (.v false [.nilp])
 |_=>none
def St.eval (σ:St):Operand→Option AV
 | .tmp t=>look σ.tmps t
 | .const v=>const v
 | .func f=>some (val1 (.fn f false .nil .nil () ()))
 | .global _=>none
section
variable {α:Type}
def lenOf (H:Hp):Lf→Option Nat
 | .nil0=>some 0
 | .val (.sl _ xs)=>some xs.length
 | .val (.str s)=>some s.size
 | .ref n=>match look H n with|some (.row _ _ xs)=>some xs.length|_=>none
 | .pref n i j=>match partOf H n i j with|some (.sl _ ys)=>some ys.length|_=>none
 |_=>none
def sgsEq :List Sg→List Sg→Option Bool
 |[],[]=>some true
 | .int k a::r, .int k' b::s=>
   match decide (k=k'),sgsEq r s with
   |true,some c=>some (a==b&&c)
   |_,_=>none
 | .bool a::r, .bool b::s=>match sgsEq r s with|some c=>some (a==b&&c)|none=>none
 | .str a::r, .str b::s=>match sgsEq r s with|some c=>some (a.toList==b.toList&&c)|none=>none
 |_,_=>none
def vals :List Lf→Option (List Sg)
 |[]=>some []
 | .val g::r=>match vals r with|some s=>some (g::s)|none=>none
 |_=>none
def intBin (op:BinOp)(k:IntKind)(a b:Int)(no:BinOp→Int→Int→(AV→Option α)→Option α)(K:AV→Option α):Option α:=
 match op with
 | .add=>K (vint k (k.wrap (a+b)))
 | .sub=>K (vint k (k.wrap (a-b)))
 | .mul=>K (vint k (k.wrap (a*b)))
 | .quo=>bif b==0 then none else K (vint k (k.wrap (a.tdiv b)))
 | .rem=>bif b==0 then none else K (vint k (a.tmod b))
 | .eql=>K (vbool (a==b))
 | .neq=>K (vbool (a !=b))
 | .lss=>K (vbool (a<b))
 | .leq=>K (vbool (a≤b))
 | .gtr=>K (vbool (a>b))
 | .geq=>K (vbool (a≥b))
 |op=>no op a b K
def strBin (op:BinOp)(a b:ByteArray)(K:AV→Option α):Option α:=
 match op with
 | .eql=>K (vbool (a.toList==b.toList))
 | .neq=>K (vbool !(a.toList==b.toList))
 | .lss=>K (vbool (Op.bytesLess a.toList b.toList))
 | .geq=>K (vbool !(Op.bytesLess a.toList b.toList))
 | .leq=>K (vbool (Op.bytesLess a.toList b.toList||a.toList==b.toList))
 | .gtr=>K (vbool !(Op.bytesLess a.toList b.toList||a.toList==b.toList))
 | .add=>bif decide (a.size+b.size<281474976710656)then K (val1 (.str (a++b)))else none
 |_=>none
end
def tyE (E:Env)(i:TI):Option TI:=match i.k with| .sl e=>E.ty e|_=>none
section
variable {α:Type}
def bitsOf (op:BinOp)(k:IntKind)(x y:Int):Option Int:=
 match op with
 | .and=>some (k.wrap (BitVec.ofInt k.bits x&&&BitVec.ofInt k.bits y).toNat)
 | .or=>some (k.wrap (BitVec.ofInt k.bits x|||BitVec.ofInt k.bits y).toNat)
 | .xor=>some (k.wrap (BitVec.ofInt k.bits x^^^BitVec.ofInt k.bits y).toNat)
 | .andNot=>some (k.wrap (BitVec.ofInt k.bits x&&& ~~~(BitVec.ofInt k.bits y)).toNat)
 |_=>none
def intRest (k:IntKind)(op:BinOp)(a b:Int)(K:AV→Option α):Option α:=
 match op with
 | .shl=>bif decide (0≤b)then K (vint k (k.wrap (a*2^(min b.toNat k.bits))))else none
 | .shr=>bif decide (0≤b)then K (vint k (a.fdiv (2^(min b.toNat k.bits))))else none
 |op=>match bitsOf op k a b with|some r=>K (vint k r)|none=>none
def kindsOk :List Lf→List Sg→Bool
 |[],[]=>true
 | .val (.int k _)::r, .int k' _::s=>decide (k=k')&&kindsOk r s
 | .val (.bool _)::r, .bool _::s=>kindsOk r s
 | .val (.str _)::r, .str _::s=>kindsOk r s
 |_,_=>false
def binE (tk:Tk)(eqOk:Bool)(z:List Lf)(op:BinOp)(a b:AV)(K:AV→Option α):Option α:=
 match a,b with
 | .v false [.val (.int k x)], .v false [.val (.int k' y)]=>
   match decide (k=k')with
   |true=>intBin op k x y (intRest k) K
   |false=>
    match op with
    | .shl| .shr=>intRest k op x y K
    |_=>none
 | .v false [.val (.str x)], .v false [.val (.str y)]=>strBin op x y K
 | .v false [.val (.bool x)], .v false [.val (.bool y)]=>
   match tk,op with
   | .bool, .eql=>K (vbool (x==y))
   | .bool, .neq=>K (vbool !(x==y))
   |_,_=>none
 | .v true ls, .v true ms=>
   match vals ls,vals ms with
   |some gs,some hs=>
    match sgsEq gs hs with
    |some c=>
     match eqOk&&kindsOk z gs,op with
     |true, .eql=>K (vbool c)
     |true, .neq=>K (vbool !c)
     |_,_=>none
    |none=>none
   |_,_=>none
 |_,_=>none
def elemLs (d:Bool)(n i:Nat):Nat→List Sg→List Lf
 |_,[]=>[]
 |q,g::r=>(match g.t.flat|| !d with|true=> .val g|false=> .pref n i q)::elemLs d n i (q+1) r
def cut (ls:List Lf)(off n:Nat):Option (List Lf):=
 let r:=(ls.drop off).take n
 match Nat.beq r.length n with
 |true=>some r
 |false=>none
def loadL (H:Hp)(l:Lf)(n:Nat):Option (List Lf):=
 match l with
 | .ptr m off=>match look H m with|some (.box ls)=>cut ls off n|_=>none
 | .rptr p j=>cut ((p.T.sgs p.x).map .val) j n
 | .val (.ptr T x)=>cut ((T.sgs x).map .val) 0 n
 | .eptr m i j=>match look H m with|some (.row T d xs)=>cut (elemLs d m i 0 (T.sgs (xs.getD i T.dflt))) j n|_=>none
 |_=>none
def setLs (ls:List Lf)(off:Nat)(ms:List Lf):List Lf:=ls.take off++ms++ls.drop (off+ms.length)
def setF :(T:ETy)→Nat→Sg→Option (T.den→T.den)
 | .nil,_,_=>none
 | .cons t .nil,j,g=>match j with|0=>(t.get g).map fun y _=>y|_=>none
 | .cons t (.cons u ts),j,g=>
   match j with
   |0=>(t.get g).map fun y x=>(y,x.2)
   |j+1=>(setF (.cons u ts) j g).map fun f x=>(x.1,f x.2)
def setSg (T:ETy)(x:T.den)(j:Nat)(g:Sg):Option T.den:=(setF T j g).map fun f=>f x
theorem setSg_F (T:ETy)(x:T.den)(j:Nat)(g:Sg):setSg T x j g=(setF T j g).map fun f=>f x:=rfl
def upd {β:Type}:List β→Nat→(β→β)→List β
 |[],_,_=>[]
 |x::xs,0,f=>f x::xs
 |x::xs,i+1,f=>x::upd xs i f
theorem upd_set {β:Type}(d:β):∀(xs:List β) (i:Nat) (f:β→β),upd xs i f=xs.set i (f (xs.getD i d))
 |[],_,_=>rfl
 |x::xs,0,f=>rfl
 |x::xs,i+1,f=>by simp[upd,upd_set d xs i f]
def lsPref (n:Nat)(q:Option Nat):List Lf→Bool
 |[]=>false
 | .pref m _ j::r=>(Nat.beq n m&&(match q with|none=>true|some q=>Nat.beq q j))||lsPref n q r
 |_::r=>lsPref n q r
def vsPref (n:Nat)(q:Option Nat):List (Bool×List Lf)→Bool
 |[]=>false
 |(_,ls)::r=>lsPref n q ls||vsPref n q r
def tmpsPref (n:Nat)(q:Option Nat):List (Nat×AV)→Bool
 |[]=>false
 |(_, .v _ ls)::r=>lsPref n q ls||tmpsPref n q r
 |(_, .tup vs)::r=>vsPref n q vs||tmpsPref n q r
 |(_, .undef)::r=>tmpsPref n q r
 |(_, .anyb)::r=>tmpsPref n q r
def heapPref (n:Nat)(q:Option Nat):Hp→Bool
 |[]=>false
 |(_, .box ls)::r=>lsPref n q ls||heapPref n q r
 |(_, .row ..)::r=>heapPref n q r
def prefFree (n:Nat)(q:Option Nat)(σ:St):Bool:= !(tmpsPref n q σ.tmps)&& !(heapPref n q σ.heap)
def flatV :List Lf→Bool
 |[]=>true
 | .val g::r=>g.t.flat&&flatV r
 |_::r=>flatV r
def storeD0 (E:Env)(σ:St)(l:Lf)(ls:List Lf)(K:D→Option α):Option α:=
 match l with
 | .ptr m off=>
   match look σ.heap m with
   |some (.box old)=>
    match Nat.ble (off+ls.length) old.length&&(!(Nat.blt m 1000)||flatV ((old.drop off).take ls.length))with
    |true=>K ⟨.undef,[],[],[(m, .box (setLs old off ls))]⟩
    |false=>none
   |_=>none
 | .eptr m i j=>
   match look σ.heap m with
   |some (.row T d xs)=>
    match Nat.beq j 0&&Nat.beq ls.length T.len with
    |true=>
     match frzRs σ.heap T ls with
     |some x=>
      match(!d||ownLs σ.heap ls)&&nodup (refsOf ls)&& !(mem (refsOf ls) m)&&prefFree m none σ with
      |true=>K ⟨.undef,[],refsOf ls,[(m, .row T d (xs.set i x))]⟩
      |false=>none
     |none=>none
    |false=>
     match ls with
     |[.val g]=>
      match g.t.flat&&prefFree m (some j) σ with
      |true=>
       match setSg T (xs.getD i T.dflt) j g with
       |some x=>K ⟨.undef,[],[],[(m, .row T d (xs.set i x))]⟩
       |none=>none
      |false=>none
     |_=>none
   |_=>none
 |_=>none
def storeD (E:Env)(σ:St)(l:Lf)(ls:List Lf)(K:D→Option α):Option α:=
 match l with
 | .ptr m off=>
   match look σ.heap m with
   |some (.box old)=>
    match Nat.ble (off+ls.length) old.length&&(!(Nat.blt m 1000)||flatV ((old.drop off).take ls.length))with
    |true=>K ⟨.undef,[],[],[(m, .box (setLs old off ls))]⟩
    |false=>none
   |_=>none
 | .eptr m i j=>
   match look σ.heap m with
   |some (.row T d xs)=>
    match Nat.beq j 0&&Nat.beq ls.length T.len with
    |true=>
     match frzRs σ.heap T ls with
     |some x=>
      match(!d||ownLs σ.heap ls)&&nodup (refsOf ls)&& !(mem (refsOf ls) m)&&prefFree m none σ with
      |true=>K ⟨.undef,[],refsOf ls,[(m, .row T d (xs.set i x))]⟩
      |false=>none
     |none=>none
    |false=>
     match ls with
     |[.val g]=>
      match g.t.flat&&prefFree m (some j) σ with
      |true=>
       match setF T j g with
       |some f=>K ⟨.undef,[],[],[(m, .row T d (upd xs i f))]⟩
       |none=>none
      |false=>none
     |_=>none
   |_=>none
 |_=>none
theorem storeD_eq (E:Env)(σ:St)(l:Lf)(ls:List Lf)(K:D→Option α):storeD E σ l ls K=storeD0 E σ l ls K:=by
 unfold storeD storeD0
 split
 ·rfl
 ·split
  ·split
   ·rfl
   ·split
    ·split
     ·rw[setSg_F]
      cases setF _ _ _ with
      |none=>rfl
      |some f=>simp only[Option.map_some,upd_set (ETy.dflt _)]
     ·rfl
    ·rfl
  ·rfl
 ·rfl
def isPtr (H:Hp):Lf→Bool
 | .ptr n _=>match look H n with|some (.box _)=>true|_=>false
 | .eptr n _ _=>match look H n with|some (.row ..)=>true|_=>false
 | .rptr _ _=>true
 | .val (.ptr _ _)=>true
 |_=>false
def addrOff (H:Hp)(l:Lf)(off:Nat):Option Lf:=
 match isPtr H l with
 |true=>
  match l with
  | .ptr n o=>some (.ptr n (o+off))
  | .eptr n i j=>some (.eptr n i (j+off))
  | .rptr p j=>some (.rptr p (j+off))
  | .val (.ptr T x)=>some (.rptr ⟨T,x⟩ off)
  |_=>none
 |false=>none
def bound (i:Int)(n:Nat)(k:Option α):Option α:=bif decide (0≤i)then bif decide (i<(n:Int))then k else none else none
def indexE (H:Hp)(n:Nat)(l:Lf)(i:Int)(K:AV→Option α):Option α:=
 match l with
 | .val (.sl T xs)=>
   match Nat.beq T.len n with
   |true=>bound i xs.length (K (.v false [.rptr ⟨T,xs.getD i.toNat T.dflt⟩ 0]))
   |false=>none
 | .ref m=>
   match look H m with
   |some (.row T _ xs)=>
    match Nat.beq T.len n with
    |true=>bound i xs.length (K (.v false [.eptr m i.toNat 0]))
    |false=>none
   |_=>none
 |_=>none
def rng (i j:Int)(n:Nat)(k:Option α):Option α:=bif decide (0≤i)then bif decide (i≤j)then bif decide (j≤(n:Int))then k else none else none else none
def sliceStr (s:ByteArray)(lo hi mx:Option Int)(K:D→Option α):Option α:=
 match mx with
 |none=>rng (lo.getD 0) (hi.getD s.size) s.size (K ⟨val1 (.str (s.extract (lo.getD 0).toNat (hi.getD s.size).toNat)),[],[],[]⟩)
 |some _=>none
def isZ :Option Int→Bool
 |some 0=>true
 |_=>false
def isZN :Option Int→Bool
 |none=>true
 |some 0=>true
 |_=>false
def cutL {β:Type}(xs:List β)(lo hi:Option Int):List β:=
 match lo,hi with
 |none,none=>xs
 |some i,none=>xs.drop i.toNat
 |none,some j=>xs.take j.toNat
 |some i,some j=>(xs.take j.toNat).drop i.toNat
def sliceE (H:Hp)(site n:Nat)(l:Lf)(lo hi mx:Option Int)(K:D→Option α):Option α:=
 match l with
 | .nil0=>match isZN lo&&isZN hi&&(isZN mx&&(mx.isNone||hi.isSome))with|true=>K ⟨.v false [.nil0],[],[],[]⟩|false=>none
 | .val (.sl T xs)=>
   match isZ lo&&isZ hi&&isZ mx,mx with
   |true,_=>K ⟨.v false [.nil0],[],[],[]⟩
   |false,none=>
    match Nat.beq T.len n with
    |true=>rng (lo.getD 0) (hi.getD xs.length) xs.length (K ⟨val1 (.sl T (cutL xs lo hi)),[],[],[]⟩)
    |false=>none
   |_,_=>none
 | .ref m=>
   match look H m,mx with
   |some (.row T d xs),none=>
    match Nat.beq T.len n with
    |true=>rng (lo.getD 0) (hi.getD xs.length) xs.length (K ⟨.v false [.ref (site*64)],[(site*64, .row T d (cutL xs lo hi))],[m],[]⟩)
    |false=>none
   |_,_=>none
 |_=>none
def frzEach (H:Hp)(T:ETy):List (List Lf)→Option (List T.den)
 |[]=>some []
 |ls::r=>match frzRs H T ls,frzEach H T r with|some x,some xs=>some (x::xs)|_,_=>none
def flat2 :List (List Lf)→List Lf
 |[]=>[]
 |ls::r=>ls++flat2 r
def isRow (H:Hp):Lf→Bool
 | .nil0=>true
 | .val (.sl _ _)=>true
 | .ref n=>match look H n with|some (.row ..)=>true|_=>false
 |_=>false
def appendE (E:Env)(H:Hp)(site:Nat)(T:ETy)(s x:Lf)(K:D→Option α):Option α:=
 let N:=site*64
 let put (d:Bool) (xs ys:List T.den) (dels:List Nat):Option α:=
  bif decide (xs.length+ys.length<lim)then K ⟨.v false [.ref N],[(N, .row T d (xs++ys))],dels,[]⟩else none
 match x with
 | .nil0=>(match isRow H s with|true=>K ⟨.v false [s],[],[],[]⟩|false=>none)
 |x=>
  match frzR H (.sl T) x with
  |none=>none
  |some ys=>
   match s with
   | .nil0=>
     match T.flat,x with
     |true,_=>put true [] ys []
     |false, .ref m=>match look H m with|some (.row _ d _)=>put d [] ys [m]|_=>none
     |false, .val _=>put false [] ys []
     |_,_=>none
   | .ref n=>
     match look H n with
     |some (.row T' d xs)=>
      match ETy.casts? T' T xs with
      |none=>none
      |some xs=>
       match T.flat,x,d with
       |true,_,_=>put d xs ys [n]
       |false, .ref m,d=>
        match look H m,Nat.beq m n with
        |some (.row _ d' _),false=>put (d&&d') xs ys [n,m]
        |_,_=>none
       |false, .val _,false=>put d xs ys [n]
       |_,_,_=>none
     |_=>none
   |_=>none
def zerosE (E:Env)(site:Nat)(T:ETy)(zero:T.den)(s:Lf)(m:Int)(K:D→Option α):Option α:=
 match s with
 | .nil0=>bif decide (0≤m)then bif decide (m<(lim:Int))then K ⟨.v false [.ref (site*64)],[(site*64, .row T true (List.replicate m.toNat zero))],[],[]⟩else none else none
 |_=>none
def zeroOf (T:ETy):T.den:=T.dflt
def mm (isMax:Bool):Int→Int→Int:=fun x y=>bif isMax then(if y>x then y else x)else(if y<x then y else x)
def mmE (isMax:Bool)(k:IntKind)(acc:Int):List AV→(AV→Option α)→Option α
 |[],K=>K (vint k acc)
 | .v false [.val (.int _ y)]::r,K=>mmE isMax k (mm isMax acc y) r K
 |_,_=>none
def shapes :List (Bool×List Lf)→List (Bool×Nat)
 |[]=>[]
 |(g,ls)::r=>(g,ls.length)::shapes r
def flatA :List (Bool×List Lf)→List Lf
 |[]=>[]
 |(_,ls)::r=>ls++flatA r
def shapesEq :List (Bool×Nat)→List (Bool×Nat)→Bool
 |[],[]=>true
 |(g,n)::r,(h,m)::s=>(g==h)&&Nat.beq n m&&shapesEq r s
 |_,_=>false
def avs (σ:St):List Operand→Option (List (Bool×List Lf))
 |[]=>some []
 |x::r=>match σ.eval x,avs σ r with|some (.v g ls),some s=>some ((g,ls)::s)|_,_=>none
def resLs (site:Nat):Nat→List Bool→List Sg→List Lf×Hp
 |_,_,[]=>([],[])
 |q,own,g::r=>
  let rest:=resLs site (q+1) own.tail r
  match own.headD false,g with
  |true,(.sl T xs)=>(.ref (site*64+q)::rest.1,(site*64+q, .row T true xs)::rest.2)
  |true,(.ptr T x)=>(.ptr (site*64+q) 0::rest.1,(site*64+q, .box ((T.sgs x).map .val))::rest.2)
  |_,g=>(.val g::rest.1,rest.2)
def shaped :List (Bool×Nat)→List Lf→List (Bool×List Lf)
 |[],_=>[]
 |(g,n)::r,ls=>(g,ls.take n)::shaped r (ls.drop n)
def avOf :List (Bool×List Lf)→AV
 |[]=> .undef
 |[(g,ls)]=> .v g ls
 |vs=> .tup vs
def roOut :List Bool→List Sg→Bool
 |_,[]=>false
 |own,g::r=>(match own.headD false,g with|true, .sl .. =>false|true, .ptr T _=> !T.flat|_,g=> !(g.t.flat))||roOut own.tail r
def mixT :(T:ETy)→T.den→T.den→T.den
 | .nil,_,y=>y
 | .cons t .nil,x,y=>match t.flat with|true=>y|false=>x
 | .cons t (.cons u ts),x,y=>((match t.flat with|true=>y.1|false=>x.1),mixT (.cons u ts) x.2 y.2)
def mixG (o:Option Sg):Sg→Sg
 | .ptr T' y=>match o with|some (.ptr T x)=>(match ETy.cast? T T' x with|some x=> .ptr T' (mixT T' x y)|none=> .bool false)|_=> .bool false
 |g=>g
def mixO :Bool→Option Sg→Sg→Sg
 |true,_,g=>g
 |false,o,g=>mixG o g
def mixIo :List (Nat×Bool)→List Sg→List Sg→List Sg
 |(p,ow)::r,as,g::gs=>mixO ow as[p]? g::mixIo r as gs
 |_,_,gs=>gs
def keepLs :ETy→List Lf→Bool
 | .nil,_=>true
 | .cons t ts,ls=>match ls with|l::r=>(t.flat||(match l with| .val _=>true|_=>false))&&keepLs ts r|[]=>false
def noOw {β:Type}(ow:Bool)(x:Option β):Option β:=match ow with|true=>none|false=>x
theorem noOw_some {β:Type}{ow:Bool}{x:Option β}{y:β}(h:noOw ow x=some y):ow=false∧x=some y:=by
 cases ow with
 |true=>exact no h
 |false=>exact⟨rfl,h⟩
def ioSet0 (σ:St)(site p:Nat)(ow:Bool)(l:Lf)(g:Sg):Option (Hp×Hp×List Nat):=
 match l,g with
 | .ref n,(.sl T xs)=>
   match look σ.heap n,prefFree n none σ with
   |some (.row T' true _),true=>match T'.beq T with|true=>(match ow with|true=>some ([],[],[n])|false=>some ([(n, .row T true xs)],[],[]))|false=>none
   |_,_=>none
 | .pref n i j,(.sl U ys)=>
   match look σ.heap n with
   |some (.row T true xs)=>
    match noOw ow (setSg T (xs.getD i T.dflt) j (.sl U ys))with
    |some x=>some ([(n, .row T true (xs.set i x))],[],[])
    |none=>none
   |_=>none
 | .ptr n 0,(.ptr T x)=>
   match look σ.heap n with
   |some (.box old)=>
    match ow with
    |true=>
     match ownLs σ.heap old&&nodup (refsOf old)with
     |true=>let r:=resLs ((site*64+p)*1000) 0 (List.replicate T.len true) (T.sgs x);some ([(n, .box r.1)],r.2,refsOf old)
     |false=>none
    |false=>match keepLs T old with|true=>some ([(n, .box ((T.sgs x).map .val))],[],[])|false=>none
   |_=>none
 |_,_=>none
def ioSet (σ:St)(site p:Nat)(ow:Bool)(l:Lf)(g:Sg):Option (Hp×Hp×List Nat):=
 match l,g with
 | .ref n,(.sl T xs)=>
   match look σ.heap n,prefFree n none σ with
   |some (.row T' true _),true=>match T'.beq T with|true=>(match ow with|true=>some ([],[],[n])|false=>some ([(n, .row T true xs)],[],[]))|false=>none
   |_,_=>none
 | .pref n i j,(.sl U ys)=>
   match look σ.heap n with
   |some (.row T true xs)=>
    match noOw ow (setF T j (.sl U ys))with
    |some f=>some ([(n, .row T true (upd xs i f))],[],[])
    |none=>none
   |_=>none
 | .ptr n 0,(.ptr T x)=>
   match look σ.heap n with
   |some (.box old)=>
    match ow with
    |true=>
     match ownLs σ.heap old&&nodup (refsOf old)with
     |true=>let r:=resLs ((site*64+p)*1000) 0 (List.replicate T.len true) (T.sgs x);some ([(n, .box r.1)],r.2,refsOf old)
     |false=>none
    |false=>match keepLs T old with|true=>some ([(n, .box ((T.sgs x).map .val))],[],[])|false=>none
   |_=>none
 |_,_=>none
theorem ioSet_eq (σ:St)(site p:Nat)(ow:Bool)(l:Lf)(g:Sg):ioSet σ site p ow l g=ioSet0 σ site p ow l g:=by
 unfold ioSet ioSet0
 split
 ·rfl
 ·split
  ·rw[setSg_F]
   cases ow with
   |true=>rfl
   |false=>
    simp only[noOw]
    cases setF _ _ _ with
    |none=>rfl
    |some f=>simp only[Option.map_some,upd_set (ETy.dflt _)]
  ·rfl
 ·rfl
 ·rfl
def ioSets (σ:St)(site:Nat)(ls:List Lf):List (Nat×Bool)→List Sg→Option (Hp×Hp×List Nat)
 |[],_=>some ([],[],[])
 |(p,ow)::r,g::gs=>
  match ls[p]? with
  |some l=>
   match ioSet σ site p ow l g,ioSets σ site ls r gs with
   |some (a,b,c),some (a',b',c')=>some (a++a',b++b',c++c')
   |_,_=>none
  |none=>none
 |_,_=>none
def isIo (p:Nat):List (Nat×Bool)→Bool
 |[]=>false
 |(q,_)::r=>Nat.beq p q||isIo p r
def deepNames (H:Hp):Lf→List Nat
 | .ptr n _=>n::boxRefs H [n]
 | .fnl _ caps=>caps++boxRefs H caps
 |l=>l.names
def ioNames (H:Hp)(io:List (Nat×Bool))(yes:Bool):Nat→List Lf→List Nat
 |_,[]=>[]
 |p,l::r=>(match isIo p io==yes with|true=>deepNames H l|false=>[])++ioNames H io yes (p+1) r
def roName (H:Hp)(z:Option Bool)(l:Lf):List Nat:=
 match z with
 |none=>deepNames H l
 |some true=>[]
 |some false=>match l with| .ptr n _=>boxRefs H [n]|_=>[]
def wrName (H:Hp)(z:Option Bool)(l:Lf):List Nat:=
 match z with
 |none=>[]
 |some ow=>match l with| .ptr n _=>n::(match ow with|true=>boxRefs H [n]|false=>[])|l=>l.names
def roNames (H:Hp)(io:List (Nat×Bool)):Nat→List Lf→List Nat
 |_,[]=>[]
 |p,l::r=>roName H (look io p) l++roNames H io (p+1) r
def wrNames (H:Hp)(io:List (Nat×Bool)):Nat→List Lf→List Nat
 |_,[]=>[]
 |p,l::r=>wrName H (look io p) l++wrNames H io (p+1) r
def fsts :List (Nat×Bool)→List Nat
 |[]=>[]
 |(p,_)::r=>p::fsts r
def disj :List Nat→List Nat→Bool
 |[],_=>true
 |n::r,s=> !(mem s n)&&disj r s
def nilsOk (ls:List Lf):List Nat→Bool
 |[]=>true
 |q::r=>(match ls[q]? with|some .nil0=>true|_=>false)&&nilsOk ls r
def callC (σ:St)(site:Nat)(con:Con)(as:List (Bool×List Lf))(K:D→Option α):Option α:=
    let ls:=flatA as
    match shapesEq (shapes as) con.ps,frzs σ.heap con.A ls with
    |true,some x=>
     match nodup (fsts con.io)&&nodup (wrNames σ.heap con.io 0 ls)&&disj (wrNames σ.heap con.io 0 ls) (roNames σ.heap con.io 0 ls)&&nilsOk ls con.nils with
     |true=>
      (con.f x).bind fun y=>
       let gs:=con.B.sgs y
       let m:=con.io.length
       match ioSets σ site ls con.io (mixIo con.io (con.A.sgs x) (gs.take m))with
       |some (ss,as',ds)=>
        let r:=resLs site 0 con.own (gs.drop m)
        K ⟨avOf (shaped con.rs r.1),as'++r.2,ds++(match roOut con.own (gs.drop m)with|true=>roNames σ.heap con.io 0 ls|false=>[]),ss⟩
       |none=>none
     |false=>none
    |_,_=>none
def conAt (E:Env)(site:Nat)(con:Con):Con:=
 match E.deep (site*64)|| !con.io.isEmpty with
 |true=>con
 |false=>⟨con.A,con.B,con.f,con.io,con.ps,con.rs,[],con.nils⟩
def callE (E:Env)(σ:St)(site:Nat)(g:Nat)(as:List (Bool×List Lf))(K:D→Option α):Option α:=
 match E.tab site g with
 |none=>none
 |some con=>callC σ site (conAt E site con) as K
def intOf? :Option AV→Option Int
 |some (.v false [.val (.int _ n)])=>some n
 |_=>none
def getI (σ:St):Option Operand→Option (Option Int)
 |none=>some none
 |some y=>match intOf? (σ.eval y)with|some n=>some (some n)|none=>none
def bt (s:ByteArray)(i:Int):Int:=((s.data.getD i.toNat 0).toNat:Int)
def outO (x:Option AV)(K:AV→Option α):Option α:=match x with|some a=>K a|none=>none
def natsFrom :Nat→List Nat→Bool
 |_,[]=>true
 |n,m::r=>Nat.beq n m&&natsFrom (n+1) r
def buildLs (fields:List (Nat×Nat×Bool))(σ:St)(ls:List Lf):List (Nat×Operand)→Option (List Lf)
 |[]=>some ls
 |(f,x)::r=>
  match fields[f]?,σ.eval x with
  |some (off,n,_),some (.v _ ms)=>
   match Nat.beq ms.length n&&Nat.ble (off+n) ls.length&&alives σ.heap ms with
   |true=>buildLs fields σ (setLs ls off ms) r
   |false=>none
  |_,_=>none
def firsts (A:ETy)(agg:Bool)(a:A.den):List (Bool×List Lf):=match A,a with| .nil,_=>[]| .cons t ts,a=>[(agg,((ETy.cons t ts).sgs a).map .val)]
def lss :List (Bool×List Lf)→List (List Lf)
 |[]=>[]
 |(_,ls)::r=>ls::lss r
def aggsOk (g:Bool):List (Bool×List Lf)→Bool
 |[]=>true
 |(g',_)::r=>(g==g')&&aggsOk g r
def boxNames :List (Bool×List Lf)→Option (List Nat)
 |[]=>some []
 |(false,[.ptr n 0])::r=>match boxNames r with|some s=>some (n::s)|none=>none
 |_=>none
def kindOk :Tk→Lf→Bool
 | .str, .val (.str _)=>true
 | .sl _, .val (.sl _ _)=>true
 | .sl _, .val _=>false
 | .sl _,_=>true
 |_,_=>false
def isNilC :Operand→Bool
 | .const (.slice none 0 0)=>true
 |_=>false
def emptyOf (H:Hp):AV→Option Bool
 | .v false [.val (.sl _ xs)]=>some xs.isEmpty
 | .v false [.nil0]=>some true
 | .v false [.ref n]=>match look H n with|some (.row _ _ xs)=>some xs.isEmpty|_=>none
 |_=>none
def nilE (op:BinOp)(e:Bool)(K:AV→Option α):Option α:=
 match op with
 | .eql=>bif e then K .anyb else K (vbool false)
 | .neq=>bif e then K .anyb else K (vbool true)
 |_=>none
def isSl :Tk→Bool
 | .sl _=>true
 |_=>false
def bytesOf (s:ByteArray):List Int:=s.data.toList.map fun b=>(b.toNat:Int)
def strOf (xs:List Int):ByteArray:=⟨(xs.map fun n=>UInt8.ofNat n.toNat).toArray⟩
def u8T :ETy:= .cons (.int .u8) .nil
def isU8 :Tk→Bool
 | .int .u8=>true
 |_=>false
noncomputable def smallS :ByteArray→Bool:=Classical.choose (p:=fun f:ByteArray→Bool=>∀s,f s=decide ((s.size:Int)<(lim:Int))) ⟨fun s=>decide ((s.size:Int)<(lim:Int)),fun _=>rfl⟩
theorem smallS_eq (s:ByteArray):smallS s=decide ((s.size:Int)<(lim:Int)):=Classical.choose_spec (p:=fun f:ByteArray→Bool=>∀s,f s=decide ((s.size:Int)<(lim:Int))) ⟨fun s=>decide ((s.size:Int)<(lim:Int)),fun _=>rfl⟩ s
noncomputable def bytesD {α:Type}(E:Env)(N e:Nat)(s:ByteArray)(K:D→Option α):Option α:=
 match E.ty e with
 |some j=>match isU8 j.k with|true=>(bif smallS s then K ⟨.v false [.ref N],[(N, .row u8T (E.deep N) (bytesOf s))],[],[]⟩else none)|false=>none
 |none=>none
def strD {α:Type}(E:Env)(H:Hp)(e:Nat)(l:Lf)(K:D→Option α):Option α:=
 match E.ty e with
 |some j=>match isU8 j.k with|true=>(match frzR H (.sl u8T) l with|some xs=>K ⟨val1 (.str (strOf xs)),[],[],[]⟩|none=>none)|false=>none
 |none=>none
noncomputable def opD (E:Env)(σ:St)(site:Nat)(o:Oper)(K:D→Option α):Option α:=
 let N:=site*64
 let out (a:AV):Option α:=K ⟨a,[],[],[]⟩
 match o.op with
 | .move x| .assign x=>match σ.eval x with|some a=>out a|none=>none
 | .pick c a b=>
   match σ.eval c with
   |some (.v false [.val (.bool t)])=>bif t then outO (σ.eval a) out else outO (σ.eval b) out
   |_=>none
 | .alloc t=>match E.ty t with|some i=>K ⟨.v false [.ptr N 0],[(N, .box i.zero)],[],[]⟩|none=>none
 | .box _ x=>match σ.eval x with|some (.v _ ls)=>(match alives σ.heap ls with|true=>K ⟨.v false [.ptr N 0],[(N, .box ls)],[],[]⟩|false=>none)|_=>none
 | .load t x=>
   match E.ty t,σ.eval x with
   |some i,some (.v false [l])=>
    match loadL σ.heap l i.zero.length,i.k.agg||Nat.beq i.zero.length 1 with
    |some ls,true=>out (.v i.k.agg ls)
    |_,_=>none
   |_,_=>none
 | .store t x y=>
   match E.ty t,σ.eval x,σ.eval y with
   |some i,some (.v false [l]),some (.v _ ls)=>match Nat.beq ls.length i.zero.length&&alives σ.heap ls with|true=>storeD E σ l ls K|false=>none
   |_,_,_=>none
 | .fieldAddr t x f=>
   match E.ty t,σ.eval x with
   |some i,some (.v false [l])=>
    match i.fields[f]? with
    |some (off,_,_)=>match addrOff σ.heap l off with|some l'=>out (.v false [l'])|none=>none
    |none=>none
   |_,_=>none
 | .field t x f=>
   match E.ty t,σ.eval x with
   |some i,some (.v true ls)=>
    match i.fields[f]? with
    |some (off,n,g)=>match cut ls off n,g||Nat.beq n 1 with|some ms,true=>out (.v g ms)|_,_=>none
    |none=>none
   |_,_=>none
 | .indexAddr t x ix=>
   match(E.ty t).bind (tyE E),σ.eval x,σ.eval ix with
   |some j,some (.v false [l]),some (.v false [.val (.int _ i)])=>indexE σ.heap j.zero.length l i out
   |_,_,_=>none
 | .index t x ix=>
   match(E.ty t).map TI.k,σ.eval x,σ.eval ix with
   |some .str,some (.v false [.val (.str s)]),some (.v false [.val (.int _ i)])=>bound i s.size (out (vint .u8 (bt s i)))
   |_,_,_=>none
 | .nilCheck x=>
   match σ.eval x with
   |some (.v false [l])=>
    match isPtr σ.heap l with
    |true=>out (.v false [l])
    |false=>none
   |_=>none
 | .binOp op t x y _=>
   match E.ty t,σ.eval x,σ.eval y with
   |some i,some a,some b=>
    match isNilC y&&isSl i.k with
    |true=>(match emptyOf σ.heap a with|some e=>nilE op e out|none=>none)
    |false=>binE i.k i.eq i.zero op a b out
   |_,_,_=>none
 | .unOp op _ x=>
   match op,σ.eval x with
   | .not,some (.v false [.val (.bool b)])=>out (vbool !b)
   | .neg,some (.v false [.val (.int k n)])=>out (vint k (k.wrap (0-n)))
   |_,_=>none
 | .convert t d x=>
   match E.ty t,E.ty d,σ.eval x with
   |some _,some i,some (.v false [.val (.int _ n)])=>(match i.k with| .int k=>out (vint k (k.wrap n))|_=>none)
   |some j,some i,some (.v false [.val (.str s)])=>(match i.k with| .str=>out (val1 (.str s))| .sl e=>(match j.k with| .str=>bytesD E (site*64) e s K|_=>none)|_=>none)
   |some j,some i,some (.v false [l])=>(match i.k with| .str=>(match j.k with| .sl e=>strD E σ.heap e l K|_=>none)|_=>none)
   |_,_,_=>none
 | .makeFunc (.func f) first captured=>
   match avs σ first.toList,avs σ captured.toList with
   |some [],some []=>out (val1 (.fn f false .nil .nil () ()))
   |some [],some cs=>(match boxNames cs with|some ns=>out (.v false [.fnl f ns])|none=>none)
   |some [(true,ls)],some []=>(match vals ls with|some (g::gs)=>out (val1 (.fn f true (packs (g::gs)).T .nil (packs (g::gs)).x ()))|_=>none)
   |_,_=>none
 | .makeSlice t l c=>
   match E.ty t,intOf? (σ.eval l),intOf? (σ.eval c)with
   |some i,some n,some m=>
    match tyE E i with
    |some j=>
     match Nat.beq j.T.len j.zero.length&&Nat.ble j.bytes 4096 with
     |true=>bif n==m then bif decide (0≤n)then bif decide (n<(lim:Int))then K ⟨.v false [.ref N],[(N, .row j.T (E.deep N) (List.replicate n.toNat j.T.dflt))],[],[]⟩else none else none else none
     |false=>none
    |none=>none
   |_,_,_=>none
 | .slice t x lo hi mx=>
   match E.ty t,σ.eval x,getI σ lo,getI σ hi,getI σ mx with
   |some i,some (.v false [l]),some lo,some hi,some mx=>
    match i.k,l with
    | .str, .val (.str s)=>sliceStr s lo hi mx K
    | .sl e,l=>(match E.ty e with|some j=>sliceE σ.heap site j.zero.length l lo hi mx K|none=>none)
    |_,_=>none
   |_,_,_,_,_=>none
 | .buildSlice t n parts=>
   match E.ty t,avs σ (parts.toList.map (·.2))with
   |some i,some as=>
    match tyE E i with
    |some j=>
     match frzEach σ.heap j.T (lss as),natsFrom 0 (parts.toList.map (·.1))&&Nat.beq n as.length&&Nat.beq j.T.len j.zero.length&&Nat.ble (n*j.T.len) 16777216&&aggsOk j.k.agg as with
     |some xs,true=>
      let rs:=refsOf (flat2 (lss as))
      match(!(E.deep N)||ownLs σ.heap (flat2 (lss as)))&&nodup rs with
      |true=>(match n with|0=>K ⟨.v false [.nil0],[],[],[]⟩|_=>K ⟨.v false [.ref N],[(N, .row j.T (E.deep N) xs)],rs,[]⟩)
      |false=>none
     |_,_=>none
    |none=>none
   |_,_=>none
 | .build t parts=>
   match E.ty t with
   |some i=>(match i.k.agg,buildLs i.fields σ i.zero parts.toList with|true,some ls=>out (.v true ls)|_,_=>none)
   |none=>none
 | .extract x ix=>match σ.eval x with|some (.tup vs)=>(match vs[ix]? with|some (g,ls)=>out (.v g ls)|none=>none)|_=>none
 | .call c=>
   match c.callee with
   | .builtin b=>
     match b,avs σ c.args.toList with
     | .len,some [(false,[l])]=>
       match c.argTypes.toList with
       |[t]=>
        match E.ty t with
        |some i=>(match kindOk i.k l,lenOf σ.heap l with|true,some n=>out (vint .i64 n)|_,_=>none)
        |none=>none
       |_=>none
     | .cap,some [(false,[.nil0])]=>
       match c.argTypes.toList with
       |[t]=>
        match E.ty t with
        |some i=>(match i.k with| .sl _=>out (vint .i64 0)|_=>none)
        |none=>none
       |_=>none
     | .append,some [(false,[s]),(false,[x])]=>
       match c.argTypes.toList with
       |[t,u]=>
        match E.ty t,E.ty u with
        |some i,some i'=>
         match tyE E i with
         |some j=>
          match Nat.ble j.bytes 1024&&Nat.beq j.T.len j.zero.length with
          |true=>
           match i'.k with
           | .int _=>(match x with| .val (.int _ m)=>zerosE E site j.T j.T.dflt s m K|_=>none)
           | .sl _=>appendE E σ.heap site j.T s x K
           |_=>none
          |false=>none
         |none=>none
        |_,_=>none
       |_=>none
     | .min,some ((false,[.val (.int k x)])::r)=>mmE false k x (r.map fun p=> .v p.1 p.2) out
     | .max,some ((false,[.val (.int k x)])::r)=>mmE true k x (r.map fun p=> .v p.1 p.2) out
     |_,_=>none
   | .value f=>
     match σ.eval f,avs σ c.args.toList with
     |some (.v false [.val (.fn g agg A B a b)]),some as=>
      match agg||Nat.ble A.len 1 with
      |true=>callE E σ site g (firsts A agg a++as++(B.sgs b).map fun z=>(false,[.val z])) K
      |false=>none
     |some (.v false [.fnl g caps]),some as=>callE E σ site g (as++caps.map fun n=>(false,[.ptr n 0])) K
     |_,_=>none
   |_=>none
 |_=>none
end
def newOk (σ:St):Hp→Bool
 |[]=>true
 |(n,_)::r=>σ.fresh n&&newOk σ r
def keys :Hp→List Nat
 |[]=>[]
 |(n,_)::r=>n::keys r
def St.put (σ:St)(dst:Option Nat)(a:AV):List (Nat×AV):=match dst with|some d=>(d,a)::σ.tmps|none=>σ.tmps
def St.apply (σ:St)(dst:Option Nat)(d:D):St:=⟨σ.put dst d.av,d.adds++sets (drop σ.heap d.dels) d.sets⟩
def dOk (σ:St)(d:D):Bool:=newOk σ d.adds&&nodup (keys d.adds)&&nodup (keys d.sets)&&disj (keys d.sets) d.dels
def dstOk (nt:Nat):Option Nat→Bool
 |none=>true
 |some d=>Nat.blt d nt
section
variable {α:Type}
structure Kt (α:Type) where
 n:St→Option α
 e:Nat→St→Option α
 r:St→Option α
noncomputable def both (x y:Option α):Option α:= @ite _ (x=y) (Classical.propDecidable _) x none
noncomputable def split (σ:St)(x:Operand)(yes no:St→Option α):Option α:=
 match σ.eval x with
 |some (.v false [.val (.bool b)])=>
  match x with
  | .tmp t=>bif b then yes ⟨(t,vbool true)::σ.tmps,σ.heap⟩else no ⟨(t,vbool false)::σ.tmps,σ.heap⟩
  |_=>bif b then yes σ else no σ
 |some .anyb=>
  match x with
  | .tmp t=>both (yes ⟨(t,vbool true)::σ.tmps,σ.heap⟩) (no ⟨(t,vbool false)::σ.tmps,σ.heap⟩)
  |_=>none
 |_=>none
noncomputable def runOps (E:Env)(nt rid:Nat)(ops:Array Oper):List Oper→Nat→St→(St→Option α)→Option α
 |[],_,σ,K=>K σ
 |o::r,i,σ,K=>
  let go (σ:St):Option α:=
   opD E σ ((rid+1)*1000+i) o fun d=>
    match dOk σ d&&dstOk nt o.dst with
    |true=>runOps E nt rid ops r (i+1) (σ.apply o.dst d) K
    |false=>none
  let skip (σ:St):Option α:=match dstOk nt o.dst with|true=>runOps E nt rid ops r (i+1) ⟨σ.put o.dst .undef,σ.heap⟩ K|false=>none
  match o.guard with
  |none=>go σ
  |some (j,want)=>
   match(ops[j]?).bind (·.dst)with
   |none=>none
   |some t=>
    match look σ.tmps t with
    |some .undef=>skip σ
    |some _=>split σ (.tmp t) (fun τ=>match want with|true=>go τ|false=>skip τ) (fun τ=>match want with|true=>skip τ|false=>go τ)
    |none=>none
abbrev Ac :=List (Nat×Option Nat×AV×Hp)
def addE (τ:St)(dst:Option Nat)(av:AV)(adds:Hp):St:=⟨τ.put dst av,adds++τ.heap⟩
def minSt (σ:St)(b:Nat→Bool):Ac→St
 |[]=>σ
 |(j,dst,av,adds)::r=>match b j with|true=>addE (minSt σ b r) dst av adds|false=>minSt σ b r
def setB (t:Nat)(b:Bool):Ac→Ac
 |[]=>[]
 |(j,dst,av,adds)::r=>
  match dst with
  |none=>(j,dst,av,adds)::setB t b r
  |some d=>match Nat.beq d t with|true=>(j,dst,vbool b,adds)::r|false=>(j,dst,av,adds)::setB t b r
def sayNone (av:AV)(H:Hp):List Nat→Bool
 |[]=>true
 |n::r=> !(av.says n)&& !(heapSay n H)&&sayNone av H r
def dstNe :Option Nat→Option Nat→Bool
 |some a,some b=> !(Nat.beq a b)
 |_,_=>true
def acOk (b:Nat→Bool)(i:Nat)(dst:Option Nat)(av:AV)(adds:Hp):Ac→Bool
 |[]=>true
 |(j,dst',av',adds')::r=>dstNe dst dst'&& !(Nat.beq i j)&&sayNone av' adds' (keys adds)&&(b j||sayNone av adds (keys adds'))&&acOk b i dst av adds r
def noHp :Hp→Bool
 |[]=>true
 |_=>false
def noNs :List Nat→Bool
 |[]=>true
 |_=>false
noncomputable def runAny (E:Env)(nt rid:Nat)(ops:Array Oper)(M:List Nat)(bits:List Nat)(σ:St):List Oper→Nat→Ac→(Ac→Option α)→Option α
 |[],_,acc,K=>K acc
 |o::r,i,acc,K=>
  match mem M i with
  |true=>runAny E nt rid ops M bits σ r (i+1) acc K
  |false=>
  let b:Nat→Bool:=fun j=>Nat.testBit (bits.getD i 0) j
  let go (acc:Ac):Option α:=
   opD E (minSt σ b acc) ((rid+1)*1000+i) o fun d=>
    match dstOk nt o.dst&&noNs d.dels&&noHp d.sets&&newOk σ d.adds&&nodup (keys d.adds)&&acOk b i o.dst d.av d.adds acc with
    |true=>runAny E nt rid ops M bits σ r (i+1) ((i,o.dst,d.av,d.adds)::acc) K
    |false=>none
  let skip (acc:Ac):Option α:=
   match dstOk nt o.dst&&acOk b i o.dst .undef [] acc with
   |true=>runAny E nt rid ops M bits σ r (i+1) ((i,o.dst, .undef,[])::acc) K
   |false=>none
  match o.guard with
  |none=>go acc
  |some (j,want)=>
   match(ops[j]?).bind (·.dst)with
   |none=>none
   |some t=>
    match look (minSt σ b acc).tmps t with
    |some .undef=>skip acc
    |some (.v false [.val (.bool c)])=>
     bif c then(match want with|true=>go (setB t true acc)|false=>skip (setB t true acc))
     else(match want with|true=>skip (setB t false acc)|false=>go (setB t false acc))
    |_=>none
def bitsOfOp (bits:List Nat)(o:Oper):Nat:=o.after.toList.foldl (fun s e=>match Region.binds .any e with|true=>s|||2^e.on|||bits.getD e.on 0|false=>s) 0
def allBits :List Nat→List Oper→List Nat
 |bits,[]=>bits
 |bits,o::r=>allBits (bits++[bitsOfOp bits o]) r
def edgesOk :Nat→List Oper→Bool
 |_,[]=>true
 |i,o::r=>(o.after.toList.all fun e=> !(Region.binds .any e)||Nat.blt e.on i)&&edgesOk (i+1) r
def allB (M:List Nat)(b:Nat):Nat→Bool
 |0=>true
 |j+1=>(mem M j||Nat.testBit b j)&&allB M b j
def lateOk (M bits:List Nat)(p:Nat):Nat→List Oper→Bool
 |_,[]=>true
 |q,_::r=>(Nat.blt q p||allB M (bits.getD q 0) q)&&lateOk M bits p (q+1) r
def dstsOf (M:List Nat):Nat→List Oper→List Nat
 |_,[]=>[]
 |i,o::r=>
  match mem M i with
  |true=>dstsOf M (i+1) r
  |false=>match o.dst with|some d=>d::dstsOf M (i+1) r|none=>dstsOf M (i+1) r
def dropT (ds:List Nat):List (Nat×AV)→List (Nat×AV)
 |[]=>[]
 |(t,a)::r=>match mem ds t with|true=>dropT ds r|false=>(t,a)::dropT ds r
noncomputable def takeM (nt:Nat)(ops:Array Oper):List Nat→Array Bool→St→(St→Option α)→Option α
 |[],_,σ,K=>K σ
 |i::r,L,σ,K=>
  match ops[i]? with
  |none=>none
  |some o=>
   match o.op,o.guard with
   | .move x,none=>
     match σ.eval x,dstOk nt o.dst&&(Region.ready .any ops L).contains i&&Region.free .any ops L i with
     |some av,true=>takeM nt ops r (L.setIfInBounds i true) ⟨σ.put o.dst av,σ.heap⟩ K
     |_,_=>none
   |_,_=>none
def allLt (p:Nat):List Nat→Bool
 |[]=>true
 |i::r=>Nat.blt i p&&allLt p r
def priors (bits:List Nat)(n i:Nat):Array Bool:=((List.range n).map fun j=>Nat.testBit (bits.getD i 0) j).toArray
def takes (bits:List Nat)(ops:Array Oper)(p:Nat):List Nat:=
 (List.range p).filter fun i=>match ops[i]? with
  |some o=>(match o.op with| .extract _ _=>o.guard.isNone&&Region.free .any ops (priors bits ops.size i) i|_=>false)
  |none=>false
noncomputable def ordList (go:Nat→Option α):List Nat→Option α
 |[]=>none
 |[i]=>go i
 |i::j::r=>both (go i) (ordList go (j::r))
noncomputable def ordAny (E:Env)(nt rid:Nat)(ops:Array Oper):Nat→Array Bool→St→(St→Option α)→Option α
 |0,L,σ,K=>match Region.ready .any ops L with|[]=>K σ|_::_=>none
 |f+1,L,σ,K=>
  match Region.ready .any ops L with
  |[]=>K σ
  |i::r=>ordList (fun i=>match ops[i]? with|some o=>runOps E nt rid ops [o] i σ fun σ=>ordAny E nt rid ops f (L.setIfInBounds i true) σ K|none=>none) (i::r)
def listedBut (n p:Nat)(U:List Nat):Array Bool:=((List.range n).map fun j=>Nat.blt j p&& !(mem U j)).toArray
def subs :List Nat→List (List Nat)
 |[]=>[[]]
 |i::r=>subs r++(subs r).map (fun U=>i::U)
noncomputable def allU (go:List Nat→Option α):List (List Nat)→Option α
 |[]=>none
 |[U]=>go U
 |U::V::r=>both (go U) (allU go (V::r))
def pure1 (E:Env)(nt:Nat)(ops:Array Oper)(σ:St)(j:Nat):Option St:=
 match ops[j]? with
 |none=>none
 |some o=>
  match o.guard.isNone&&dstOk nt o.dst&&Region.free .any ops (Array.replicate ops.size false) j with
  |false=>none
  |true=>
   match o.op with
   | .move x=>(match σ.eval x with|some av=>some ⟨σ.put o.dst av,σ.heap⟩|none=>none)
   | .extract x ix=>(match σ.eval x with|some (.tup vs)=>(match vs[ix]? with|some (g,ls)=>some ⟨σ.put o.dst (.v g ls),σ.heap⟩|none=>none)|_=>none)
   | .fieldAddr t x f=>
     match E.ty t,σ.eval x with
     |some i,some (.v false [l])=>(match i.fields[f]? with|some (off,_,_)=>(match addrOff σ.heap l off with|some l'=>some ⟨σ.put o.dst (.v false [l']),σ.heap⟩|none=>none)|none=>none)
     |_,_=>none
   | .binOp op t x y _=>
     match E.ty t,σ.eval x,σ.eval y,op with
     |some _,some (.v false [.val (.int k n)]),some (.v false [.val (.int k' m)]), .add=>(match decide (k=k')with|true=>some ⟨σ.put o.dst (vint k (k.wrap (n+m))),σ.heap⟩|false=>none)
     |some _,some (.v false [.val (.int k n)]),some (.v false [.val (.int k' m)]), .sub=>(match decide (k=k')with|true=>some ⟨σ.put o.dst (vint k (k.wrap (n-m))),σ.heap⟩|false=>none)
     |_,_,_,_=>none
   |_=>none
def pickP (E:Env)(nt:Nat)(ops:Array Oper)(σ:St):List Nat→Option (Nat×St)
 |[]=>none
 |j::r=>match pure1 E nt ops σ j with|some τ=>some (j,τ)|none=>pickP E nt ops σ r
noncomputable def ordP (E:Env)(nt rid:Nat)(ops:Array Oper):Nat→Array Bool→St→(St→Option α)→Option α
 |0,L,σ,K=>match Region.ready .any ops L with|[]=>K σ|_::_=>none
 |f+1,L,σ,K=>
  match Region.ready .any ops L with
  |[]=>K σ
  |i::r=>
   match pickP E nt ops σ (i::r)with
   |some (j,τ)=>ordP E nt rid ops f (L.setIfInBounds j true) τ K
   |none=>ordList (fun i=>match ops[i]? with|some o=>runOps E nt rid ops [o] i σ fun σ=>ordP E nt rid ops f (L.setIfInBounds i true) σ K|none=>none) (i::r)
def deps (ops:List Oper):List (List Nat):=ops.map fun o=>(o.after.toList.filter fun e=>Region.binds .any e).map (·.on)
def rdyL :List (List Nat)→List Bool→List Bool→Nat→List Nat
 |d::tab,b::r,L,i=>(match !b&&d.all fun e=>L.getD e false with|true=>i::rdyL tab r L (i+1)|false=>rdyL tab r L (i+1))
 |_,_,_,_=>[]
def setL {β:Type}:List Bool→Nat→(List Bool→β)→β
 |[],_,K=>K []
 |b::r,i,K=>match Nat.beq i 0 with|true=>K (true::r)|false=>setL r (i-1) fun r'=>K (b::r')
def falses {β:Type}:List Oper→(List Bool→β)→β
 |[],K=>K []
 |_::r,K=>falses r fun r'=>K (false::r')
noncomputable def ordQ (E:Env)(nt rid:Nat)(ops:Array Oper)(tab:List (List Nat)):Nat→List Bool→St→(St→Option α)→Option α
 |0,L,σ,K=>match rdyL tab L L 0 with|[]=>K σ|_::_=>none
 |f+1,L,σ,K=>
  match rdyL tab L L 0 with
  |[]=>K σ
  |i::r=>
   match pickP E nt ops σ (i::r)with
   |some (j,τ)=>setL L j fun L=>ordQ E nt rid ops tab f L τ K
   |none=>ordList (fun i=>match ops[i]? with|some o=>runOps E nt rid ops [o] i σ fun σ=>setL L i fun L=>ordQ E nt rid ops tab f L σ K|none=>none) (i::r)
noncomputable def runDraw (E:Env)(nt rid:Nat)(ops:Array Oper)(p:Nat)(σ:St)(K:St→Option α):Option α:=
 let l:=ops.toList
 let bits:=allBits [] l
 let M:=E.movs rid
 match E.flts rid with
 |[]=>
  match edgesOk 0 l&&lateOk (M++takes bits ops p) bits p 0 l&&Nat.ble p l.length&&allLt p M&&Region.noSelect ops with
  |false=>none
  |true=>
   takeM nt ops M (Array.replicate ops.size false) σ fun σ=>
   let σ0:St:=⟨dropT (dstsOf M 0 (l.take p)) σ.tmps,σ.heap⟩
   runAny E nt rid ops M bits σ0 (l.take p) 0 [] fun acc=>runOps E nt rid ops (l.drop p) p (minSt σ0 (fun _=>true) acc) K
 |f::fs=>
  match Nat.ble 1000 f with
  |true=>(match Region.noSelect ops with|true=>falses l fun L=>ordQ E nt rid ops (deps l) ops.size L σ K|false=>none)
  |false=>
  match edgesOk 0 l&&lateOk (M++(f::fs)) bits p 0 l&&Nat.ble p l.length&&allLt p M&&Region.noSelect ops&&allLt p (f::fs)with
  |false=>none
  |true=>
   takeM nt ops M (Array.replicate ops.size false) σ fun σ=>
   let σ0:St:=⟨dropT (dstsOf M 0 (l.take p)) σ.tmps,σ.heap⟩
   runAny E nt rid ops M bits σ0 (l.take p) 0 [] fun acc=>allU (fun U=>ordAny E nt rid ops ops.size (listedBut ops.size p U) (minSt σ0 (fun j=> !(mem U j)) acc) K) (subs (f::fs))
def Code.rid :Code→Nat
 | .region id _ _=>id
 | .seq a _=>Code.rid a
 | .block _ c=>Code.rid c
 | .loop c=>Code.rid c
 | .cond _ a _=>Code.rid a
 |_=>0
def nmT (rid s q:Nat):Nat:=(1000000000000+rid*100000+s)*64+q
def nmB (n j:Nat):Nat:=(n+1000000000000000000)*64+j
def addPair (ρ:List (Nat×Nat))(n m:Nat):List (Nat×Nat):=match look ρ n with|some _=>ρ|none=>ρ++[(n,m)]
def pairsBox (n:Nat):Nat→List Lf→List (Nat×Nat)→List (Nat×Nat)
 |_,[],ρ=>ρ
 |j, .ref m::r,ρ=>pairsBox n (j+1) r (addPair ρ m (nmB n j))
 |j,_::r,ρ=>pairsBox n (j+1) r ρ
def pairsBoxes (H:Hp):List Nat→List (Nat×Nat)→List (Nat×Nat)
 |[],ρ=>ρ
 |n::ns,ρ=>
  let ρ:=addPair ρ n n
  pairsBoxes H ns (match look H n with|some (.box ls)=>pairsBox n 0 ls ρ|_=>ρ)
def pairsLs (H:Hp)(rid s:Nat):Nat→List Lf→List (Nat×Nat)→List (Nat×Nat)
 |_,[],ρ=>ρ
 |q, .ref n::r,ρ=>pairsLs H rid s (q+1) r (addPair ρ n (match Nat.blt n 1000 with|true=>n|false=>nmT rid s q))
 |q, .ptr n _::r,ρ=>pairsLs H rid s (q+1) r (pairsBoxes H [n] ρ)
 |q, .fnl _ caps::r,ρ=>pairsLs H rid s (q+1) r (pairsBoxes H caps ρ)
 |q,_::r,ρ=>pairsLs H rid s (q+1) r ρ
def pairs (σ:St)(rid:Nat):List Nat→List (Nat×Nat)→List (Nat×Nat)
 |[],ρ=>ρ
 |s::r,ρ=>pairs σ rid r (match look σ.tmps s with|some (.v _ ls)=>pairsLs σ.heap rid s 0 ls ρ|_=>ρ)
abbrev Cv :=List (Nat×ETy×Bool)
def renL (ρ:List (Nat×Nat))(cv:Cv)(name:Nat):Lf→Lf
 | .ref n=>match look ρ n with|some m=> .ref m|none=> .dead
 | .ptr n o=>match look ρ n with|some m=> .ptr m o|none=> .dead
 | .nil0=>match look cv name with|some _=> .ref name|none=> .nil0
 | .val g=> .val g
 | .rptr p j=> .rptr p j
 | .fnl f caps=>match mapCaps caps with|some cs=> .fnl f cs|none=> .dead
 | .nilp=> .nilp
 |_=> .dead
where
 mapCaps:List Nat→Option (List Nat)
 |[]=>some []
 |n::r=>match look ρ n,mapCaps r with|some m,some s=>some (m::s)|_,_=>none
def renLs (ρ:List (Nat×Nat))(cv:Cv)(name:Nat→Nat):Nat→List Lf→List Lf
 |_,[]=>[]
 |q,l::r=>renL ρ cv (name q) l::renLs ρ cv name (q+1) r
def isNil0 :Lf→Bool
 | .nil0=>true
 |_=>false
def cvRows (cv:Cv)(name:Nat→Nat):Nat→List Lf→Hp
 |_,[]=>[]
 |q,l::r=>(match isNil0 l,look cv (name q)with|true,some (T,d)=>[(name q, .row T d [])]|_,_=>[])++cvRows cv name (q+1) r
def renTmps (σ:St)(ρ:List (Nat×Nat))(cv:Cv)(rid:Nat):List Nat→Option (List (Nat×AV)×Hp)
 |[]=>some ([],[])
 |s::r=>
  match look σ.tmps s,renTmps σ ρ cv rid r with
  |some (.v g ls),some (ts,hs)=>some ((s, .v g (renLs ρ cv (nmT rid s) 0 ls))::ts,cvRows cv (nmT rid s) 0 ls++hs)
  |_,_=>none
def renHeap (H:Hp)(ρ:List (Nat×Nat))(cv:Cv):List (Nat×Nat)→Option (Hp×Hp)
 |[]=>some ([],[])
 |(n,m)::r=>
  match look H n,renHeap H ρ cv r with
  |some (.box ls),some (a,b)=>some ((m, .box (renLs ρ cv (nmB n) 0 ls))::a,cvRows cv (nmB n) 0 ls++b)
  |some (.row T d xs),some (a,b)=>some ((m, .row T d xs)::a,b)
  |_,_=>none
def seconds :List (Nat×Nat)→List Nat
 |[]=>[]
 |(_,m)::r=>m::seconds r
def frzLeaf (σ:St)(n j:Nat):Option St:=
 match look σ.heap n with
 |some (.box ls)=>
  match ls[j]? with
  |some (.ref m)=>
   match look σ.heap m with
   |some (.row T d xs)=>
    match frzR σ.heap (.sl T) (.ref m)with
    |some x=>some ⟨σ.tmps,sets (drop σ.heap [m]) [(n, .box (ls.set j (.val (.sl T x))))]⟩
    |none=>none
   |_=>none
  |some _=>some σ
  |none=>none
 |_=>none
def frzLeaves (n:Nat):Nat→St→Option St
 |0,σ=>some σ
 |j+1,σ=>match frzLeaf σ n j with|some τ=>frzLeaves n j τ|none=>none
def frzSt (σ:St)(s:Nat):Option St:=
 match look σ.tmps s with
 |some (.v false [.ptr n 0])=>(match look σ.heap n with|some (.box ls)=>frzLeaves n ls.length σ|_=>none)
 |some (.v false [.ref n])=>
  match look σ.heap n with
  |some (.row T d xs)=>
   match frzR σ.heap (.sl T) (.ref n)with
   |some x=>some ⟨(s, .v false [.val (.sl T x)])::σ.tmps,drop σ.heap [n]⟩
   |none=>none
  |_=>none
 |some (.v false [.val (.sl T x)])=>some σ
 |_=>none
def frzAll :Cv→St→Option St
 |[],σ=>some σ
 |(k,_,_)::r,σ=>
  match Nat.blt k 999999 with
  |true=>match frzSt σ k with|some τ=>frzAll r τ|none=>none
  |false=>frzAll r σ
def insH (p:Nat×Ent):Hp→Hp
 |[]=>[p]
 |q::r=>match Nat.ble p.1 q.1 with|true=>p::q::r|false=>q::insH p r
def sortH :Hp→Hp
 |[]=>[]
 |p::r=>insH p (sortH r)
def sortIf (cv:Cv)(H:Hp):Hp:=match look cv 999999 with|some _=>sortH H|none=>H
def norm0 (rid:Nat)(L:List Nat×Cv)(σ:St):Option St:=
 let ρ:=pairs σ rid L.1 []
 match renTmps σ ρ L.2 rid L.1,renHeap σ.heap ρ L.2 ρ with
 |some (ts,h1),some (h2,h3)=>
  match nodup (keys (h2++(h1++h3)))with
  |true=>some ⟨ts,sortIf L.2 (h2++(h1++h3))⟩
  |false=>none
 |_,_=>none
def norm (rid:Nat)(L:List Nat×Cv)(σ:St):Option St:=match frzAll L.2 σ with|some τ=>norm0 rid L τ|none=>none
def normK (rid:Nat)(L:List Nat×Cv)(K:St→Option α)(σ:St):Option α:=match norm rid L σ with|some τ=>K τ|none=>none
noncomputable def jn :(St→Option α)→St→Option α:=Classical.choose (p:=fun f:(St→Option α)→St→Option α=>∀K σ,f K σ=K σ) ⟨fun K σ=>K σ,fun _ _=>rfl⟩
theorem jn_eq (K:St→Option α)(σ:St):jn K σ=K σ:=Classical.choose_spec (p:=fun f:(St→Option α)→St→Option α=>∀K σ,f K σ=K σ) ⟨fun K σ=>K σ,fun _ _=>rfl⟩ K σ
noncomputable def normJ (rid:Nat)(L:List Nat×Cv)(K:St→Option α)(σ:St):Option α:=match norm rid L σ with|some τ=>jn K τ|none=>none
theorem normJ_eq (rid:Nat)(L:List Nat×Cv)(K:St→Option α):normJ rid L K=normK rid L K:=by
 funext σ
 unfold normJ normK
 cases norm rid L σ with
 |none=>rfl
 |some τ=>exact jn_eq K τ
def loopN (F:(St→Option α)→St→Option α):Nat→St→Option α
 |0,_=>none
 |n+1,σ=>F (loopN F n) σ
abbrev iT :ETy:= .cons (.int .i64) .nil
def clr2 :List Oper→Option (Nat×Operand×Operand×Nat)
 |[o1,o2]=>
  match o1.op,o1.dst,o1.guard,o2.op with
  | .slice t x (some lo) none none,some d,none, .call c=>
    match o2.dst,o2.guard,c.callee,c.args.toList with
    |none,none, .builtin .clear,[.tmp d']=>
     match c.argTypes.toList with
     |[t']=>(match Nat.beq d d'&&Nat.beq t t' with|true=>some (t,x,lo,d)|false=>none)
     |_=>none
    |_,_,_,_=>none
  |_,_,_,_=>none
 |_=>none
def clrOf :List Oper→Option (List Oper×Nat×Operand×Operand×Nat)
 |[]=>none
 |o::r=>match clr2 (o::r)with|some q=>some ([],q)|none=>(match clrOf r with|some (p,q)=>some (o::p,q)|none=>none)
def clrTy (j:TI):Bool:=match j.zero with|[.val (.int k n)]=>decide (k= .i64)&&decide (n=0)|_=>false
def clrRun (E:Env)(nt:Nat)(σ:St)(K:St→Option α):Nat×Operand×Operand×Nat→Option α
 |(t,x,lo,d)=>
  match(E.ty t).bind (tyE E),σ.eval x,σ.eval lo with
  |some j,some (.v false [.ref m]),some (.v false [.val (.int .i64 i)])=>
   match look σ.heap m,clrTy j&&Nat.blt d nt&&prefFree m none σ with
   |some (.row T true xs),true=>
    match ETy.casts? T iT xs with
    |some (ys:List Int)=>bound i ys.length (K ⟨dropT [d] σ.tmps,sets σ.heap [(m, .row iT true (ys.take i.toNat++List.replicate (ys.length-i.toNat) (0:Int):List Int))]⟩)
    |none=>none
   |_,_=>none
  |_,_,_=>none
noncomputable def evC (E:Env)(nt:Nat):Code→Kt α→St→Option α
 | .skip,k,σ=>k.n σ
 | .region id ops draw,k,σ=>
   match draw with
   |false=>(match clrOf ops.toList with|some (p,q)=>runOps E nt id ops p 0 σ (fun σ=>clrRun E nt σ k.n q)|none=>runOps E nt id ops ops.toList 0 σ k.n)
   |true=>runDraw E nt id ops (E.pre id) σ k.n
 | .seq a b,k,σ=>
   evC E nt a ⟨match E.heads (2*Code.rid b+1)with|none=>evC E nt b k|some L=>normJ (2*Code.rid b+1) L (evC E nt b k),k.e,k.r⟩ σ
 | .cond c x y,k,σ=>split σ c (evC E nt x k) (evC E nt y k)
 | .block id c,k,σ=>evC E nt c ⟨k.n,fun i τ=>match Nat.beq i id with|true=>k.n τ|false=>k.e i τ,k.r⟩ σ
 | .loop c,k,σ=>
   match E.heads (2*Code.rid c)with
   |none=>none
   |some L=>normK (2*Code.rid c) L (loopN (fun rec τ=>evC E nt c ⟨normK (2*Code.rid c) L rec,k.e,k.r⟩ τ) E.K) σ
 | .exit id,k,σ=>k.e id σ
 | .ret,k,σ=>k.r σ
 |_,_,_=>none
end
def parLs (nils:List Nat)(io:List (Nat×Bool)):Nat→List Sg→List Lf×Hp
 |_,[]=>([],[])
 |q,g::r=>
  let rest:=parLs nils io (q+1) r
  match look io q,g with
  |some _, .sl T xs=>(.ref q::rest.1,(q, .row T true xs)::rest.2)
  |some true, .ptr T x=>let z:=resLs (q+900) 0 (List.replicate T.len true) (T.sgs x);(.ptr q 0::rest.1,(q, .box z.1)::(z.2++rest.2))
  |some false, .ptr T x=>(.ptr q 0::rest.1,(q, .box ((T.sgs x).map .val))::rest.2)
  |_,g=>((match mem nils q with|true=> .nil0|false=> .val g)::rest.1,rest.2)
def avTmps :Nat→List (Bool×List Lf)→List (Nat×AV)
 |_,[]=>[]
 |i,(g,ls)::r=>(i, .v g ls)::avTmps (i+1) r
def entry (con:Con)(x:con.A.den):St:=
 let z:=parLs con.nils con.io 0 (con.A.sgs x)
 ⟨avTmps 0 (shaped con.ps z.1),z.2⟩
def results (E:Env)(σ:St):List ResultVar→Option (List (Bool×List Lf))
 |[]=>some []
 | .tmp t::r=>match look σ.tmps t,results E σ r with|some (.v g ls),some s=>some ((g,ls)::s)|_,_=>none
 | .cell a t::r=>
   match look σ.tmps a,E.ty t,results E σ r with
   |some (.v false [l]),some i,some s=>
    match loadL σ.heap l i.zero.length,i.k.agg||Nat.beq i.zero.length 1 with
    |some ls,true=>some ((i.k.agg,ls)::s)
    |_,_=>none
   |_,_,_=>none
def ioOuts :List (Nat×Bool)→List Sg→Option (List Lf)
 |[],_=>some []
 |(p,ow)::r,gs=>
  match gs[p]?,ioOuts r gs with
  |some (.sl _ _),some s=>some ((match ow with|true=> .nil0|false=> .ref p)::s)
  |some (.ptr _ _),some s=>some (.ptr p 0::s)
  |_,_=>none
inductive Om where
 |ro|own|box (ow:Bool)|gone|boxo
def ioOm :List (Nat×Bool)→List Sg→List Om
 |(_,ow)::r,g::gs=>(match g,ow with| .ptr ..,true=> .box true| .ptr ..,false=> .boxo| .sl ..,true=> .gone|_,_=> .own)::ioOm r gs
 |_,_=>[]
def resOm :List Bool→List Sg→List Om
 |_,[]=>[]
 |own,g::r=>(match own.headD false,g with|true, .sl .. => .own|true, .ptr .. => .box false|_,_=> .ro)::resOm own.tail r
def omOwn (H:Hp):Om→Lf→List Nat
 | .ro,_=>[]
 | .own,l=>refsOf [l]
 | .box ow, .ptr n _=>n::(match ow with|true=>boxRefs H [n]|false=>[])
 | .box _,_=>[]
 | .gone,_=>[]
 | .boxo, .ptr n _=>[n]
 | .boxo,_=>[]
def omRo (H:Hp):Om→Lf→List Nat
 | .ro,l=>deepNames H l
 | .own,_=>[]
 | .box false, .ptr n _=>boxRefs H [n]
 | .box _,_=>[]
 | .gone,_=>[]
 | .boxo,_=>[]
def omOk (H:Hp):Om→Lf→Bool
 | .ro,_=>true
 | .own,l=>ownL H l
 | .box ow, .ptr n 0=>match look H n with|some (.box ls)=> !ow||ownLs H ls|_=>false
 | .box _,_=>false
 | .gone,l=>isNil0 l
 | .boxo, .ptr n 0=>match look H n with|some (.box _)=>true|_=>false
 | .boxo,_=>false
def omsOwn (H:Hp):List Om→List Lf→List Nat
 |m::ms,l::ls=>omOwn H m l++omsOwn H ms ls
 |_,_=>[]
def omsRo (H:Hp):List Om→List Lf→List Nat
 |m::ms,l::ls=>omRo H m l++omsRo H ms ls
 |_,_=>[]
def omsOk (H:Hp):List Om→List Lf→Bool
 |m::ms,l::ls=>omOk H m l&&omsOk H ms ls
 |[],[]=>true
 |_,_=>false
def omFlat :Om→Sg→Bool
 | .ro,g=>g.t.flat
 | .box false, .ptr T _=>T.flat
 |_,_=>true
def omsFlat :List Om→List Sg→Bool
 |m::ms,g::gs=>omFlat m g&&omsFlat ms gs
 |_,_=>true
def noIo :List (Nat×Bool)→Bool
 |[]=>true
 |_=>false
def ptrIo :List (Nat×Bool)→List Lf→Bool
 |[],_=>true
 |(_,ow)::r, .ptr _ _::s=> !ow&&ptrIo r s
 |_,_=>false
def fin (E:Env)(con:Con)(rs:List ResultVar)(x:con.A.den)(σ:St):Option con.B.den:=
 match results E σ rs,ioOuts con.io (con.A.sgs x)with
 |some vs,some os=>
  let ls:=flatA vs
  match shapesEq (shapes vs) con.rs,frzs σ.heap con.B (os++ls)with
  |true,some y=>
   let gs:=con.B.sgs y
   let ms:=ioOm con.io (gs.take con.io.length)++resOm con.own (gs.drop con.io.length)
   match Nat.beq os.length con.io.length&&omsOk σ.heap ms (os++ls)&&nodup (omsOwn σ.heap ms (os++ls))&&disj (omsRo σ.heap ms (os++ls)) (omsOwn σ.heap ms (os++ls))&&(noIo con.io||omsFlat ms gs||ptrIo con.io os)with
   |true=>some y
   |false=>none
  |_,_=>none
 |_,_=>none
noncomputable def evBody (E:Env)(con:Con)(fn:Func)(x:con.A.den):Option con.B.den:=
 match fn.body,nodup (keys (entry con x).heap),ioOuts con.io (con.A.sgs x)with
 |some c,true,some _=>evC E fn.ntmps c ⟨fin E con fn.results.toList x,fun _ _=>none,fin E con fn.results.toList x⟩ (entry con x)
 |_,_,_=>none
section
variable {α β:Type}
theorem cond_bind (b:Bool)(x y:Option α)(K:α→Option β):(bif b then x else y).bind K=bif b then x.bind K else y.bind K:=by cases b<;>rfl
theorem intRest_bind (k:IntKind)(op:BinOp)(a b:Int)(K:AV→Option α):intRest k op a b K=(intRest k op a b some).bind K:=by
 unfold intRest
 split<;>(try simp only[cond_bind,Option.bind_some,Option.bind_none])
 split<;>simp
theorem intBin_bind (op:BinOp)(k:IntKind)(a b:Int)(K:AV→Option α):intBin op k a b (intRest k) K=(intBin op k a b (intRest k) some).bind K:=by
 unfold intBin
 split<;>(try simp only[cond_bind,Option.bind_some,Option.bind_none])
 exact intRest_bind ..
theorem strBin_bind (op:BinOp)(a b:ByteArray)(K:AV→Option α):strBin op a b K=(strBin op a b some).bind K:=by
 unfold strBin
 split<;>simp[cond_bind]
theorem binE_bind (tk:Tk)(eqOk:Bool)(z:List Lf)(op:BinOp)(a b:AV)(K:AV→Option α):binE tk eqOk z op a b K=(binE tk eqOk z op a b some).bind K:=by
 unfold binE
 split
 ·split
  ·exact intBin_bind ..
  ·split<;>first|exact intRest_bind .. |rfl
 ·exact strBin_bind ..
 ·split<;>rfl
 ·split
  ·split
   ·split<;>rfl
   ·rfl
  ·rfl
 ·rfl
theorem nilE_bind (op:BinOp)(e:Bool)(K:D→Option α):nilE op e (fun a=>K ⟨a,[],[],[]⟩)=(nilE op e (fun a=>some (D.mk a [] [] []))).bind K:=by
 unfold nilE
 split<;>(try simp only[cond_bind,Option.bind_some])<;>rfl
theorem storeD_bind (E:Env)(σ:St)(l:Lf)(ls:List Lf)(K:D→Option α):storeD E σ l ls K=(storeD E σ l ls some).bind K:=by
 unfold storeD
 repeat' (first|rfl|split)
theorem bound_bind (i:Int)(n:Nat)(x:Option α)(K:α→Option β):(bound i n x).bind K=bound i n (x.bind K):=by
 simp only[bound,cond_bind,Option.bind_none]
theorem indexE_bind (H:Hp)(n:Nat)(l:Lf)(i:Int)(K:AV→Option α):indexE H n l i K=(indexE H n l i some).bind K:=by
 unfold indexE
 split
 ·split
  ·simp only[bound_bind,Option.bind_some]
  ·rfl
 ·split
  ·split
   ·simp only[bound_bind,Option.bind_some]
   ·rfl
  ·rfl
 ·rfl
theorem rng_bind (i j:Int)(n:Nat)(x:Option α)(K:α→Option β):(rng i j n x).bind K=rng i j n (x.bind K):=by
 simp only[rng,cond_bind,Option.bind_none]
theorem sliceStr_bind (s:ByteArray)(lo hi mx:Option Int)(K:D→Option α):sliceStr s lo hi mx K=(sliceStr s lo hi mx some).bind K:=by
 unfold sliceStr
 split
 ·rw[rng_bind];rfl
 ·rfl
theorem sliceE_bind (H:Hp)(site n:Nat)(l:Lf)(lo hi mx:Option Int)(K:D→Option α):sliceE H site n l lo hi mx K=(sliceE H site n l lo hi mx some).bind K:=by
 unfold sliceE
 split
 ·split<;>rfl
 ·split
  ·rfl
  ·split
   ·rw[rng_bind];rfl
   ·rfl
  ·rfl
 ·split
  ·split
   ·rw[rng_bind];rfl
   ·rfl
  ·rfl
 ·rfl
theorem appendE_bind (E:Env)(H:Hp)(site:Nat)(T:ETy)(s x:Lf)(K:D→Option α):appendE E H site T s x K=(appendE E H site T s x some).bind K:=by
 unfold appendE
 repeat' (first|rfl|(simp only[cond_bind,Option.bind_some,Option.bind_none];done)|split)
theorem zerosE_bind (E:Env)(site:Nat)(T:ETy)(z:T.den)(s:Lf)(m:Int)(K:D→Option α):zerosE E site T z s m K=(zerosE E site T z s m some).bind K:=by
 unfold zerosE
 split<;>simp only[cond_bind,Option.bind_some,Option.bind_none]
theorem mmE_bind (g:Bool)(k:IntKind):∀(l:List AV) (acc:Int) (K:AV→Option α),mmE g k acc l K=(mmE g k acc l some).bind K
 |[],acc,K=>rfl
 | .v false [.val (.int _ y)]::r,acc,K=>by
   unfold mmE
   exact mmE_bind g k r _ K
 | .v true _::r,acc,K=>by simp[mmE]
 | .tup _::r,acc,K=>by simp[mmE]
 | .undef::r,acc,K=>by simp[mmE]
 | .anyb::r,acc,K=>by simp[mmE]
 | .v false []::r,acc,K=>by simp[mmE]
 | .v false (_::_::_)::r,acc,K=>by simp[mmE]
 | .v false [.nil0]::r,acc,K=>by simp[mmE]
 | .v false [.ref _]::r,acc,K=>by simp[mmE]
 | .v false [.pref _ _ _]::r,acc,K=>by simp[mmE]
 | .v false [.ptr _ _]::r,acc,K=>by simp[mmE]
 | .v false [.eptr _ _ _]::r,acc,K=>by simp[mmE]
 | .v false [.rptr _ _]::r,acc,K=>by simp[mmE]
 | .v false [.fnl _ _]::r,acc,K=>by simp[mmE]
 | .v false [.nilp]::r,acc,K=>by simp[mmE]
 | .v false [.dead]::r,acc,K=>by simp[mmE]
 | .v false [.val (.bool _)]::r,acc,K=>by simp[mmE]
 | .v false [.val (.str _)]::r,acc,K=>by simp[mmE]
 | .v false [.val (.sl _ _)]::r,acc,K=>by simp[mmE]
 | .v false [.val (.ptr _ _)]::r,acc,K=>by simp[mmE]
 | .v false [.val (.fn _ _ _ _ _ _)]::r,acc,K=>by simp[mmE]
theorem callC_bind (σ:St)(site:Nat)(con:Con)(as:List (Bool×List Lf))(K:D→Option α):callC σ site con as K=(callC σ site con as some).bind K:=by
 unfold callC
 dsimp only
 split
 ·split
  ·rw[Option.bind_assoc]
   congr 1
   funext y
   split
   ·split<;>rfl
   ·rfl
  ·rfl
 ·rfl
theorem callE_bind (E:Env)(σ:St)(site g:Nat)(as:List (Bool×List Lf))(K:D→Option α):callE E σ site g as K=(callE E σ site g as some).bind K:=by
 unfold callE
 split
 ·rfl
 ·exact callC_bind ..
theorem outO_bind (x:Option AV)(K:AV→Option α):outO x K=(outO x some).bind K:=by cases x<;>rfl
theorem st_bind (x:Option AV)(K:D→Option α):outO x (fun a=>K ⟨a,[],[],[]⟩)=(outO x fun a=>some ⟨a,[],[],[]⟩).bind K:=by cases x<;>rfl
theorem bytesD_bind {α:Type}(E:Env)(N e:Nat)(s:ByteArray)(K:D→Option α):bytesD E N e s K=(bytesD E N e s some).bind K:=by
 unfold bytesD
 generalize E.ty e=i
 cases i with
 |none=>rfl
 |some j=>
  dsimp only
  generalize isU8 j.k=q
  generalize smallS s=p
  cases q<;>cases p<;>rfl
theorem strD_bind {α:Type}(E:Env)(H:Hp)(e:Nat)(l:Lf)(K:D→Option α):strD E H e l K=(strD E H e l some).bind K:=by
 unfold strD
 generalize E.ty e=i
 cases i with
 |none=>rfl
 |some j=>
  dsimp only
  generalize frzR H (.sl u8T) l=f
  generalize isU8 j.k=q
  cases q<;>cases f<;>rfl
theorem opD_bind (E:Env)(σ:St)(site:Nat)(o:Oper)(K:D→Option α):opD E σ site o K=(opD E σ site o some).bind K:=by
 unfold opD
 dsimp only
 cases o.op with
 |move x=>dsimp only;cases σ.eval x<;>rfl
 |assign x=>dsimp only;cases σ.eval x<;>rfl
 |pick c a b=>
  dsimp only
  generalize σ.eval c=x
  split
  ·simp only[cond_bind,←st_bind]
  ·rfl
 |alloc t=>dsimp only;cases E.ty t<;>rfl
 |box t x=>
  dsimp only
  generalize σ.eval x=x
  split
  ·generalize alives _ _=z
   split<;>rfl
  ·rfl
 |load t x=>
  dsimp only
  generalize σ.eval x=x
  generalize E.ty t=i
  split
  ·generalize loadL _ _ _=y
   generalize (_||_:Bool)=z
   split<;>rfl
  ·rfl
 |store t x y=>
  dsimp only
  generalize σ.eval x=x
  generalize σ.eval y=y
  generalize E.ty t=i
  split
  ·generalize (_&&alives _ _:Bool)=z
   split
   ·exact storeD_bind ..
   ·rfl
  ·rfl
 |fieldAddr t x f=>
  dsimp only
  generalize σ.eval x=x
  generalize E.ty t=i
  split
  ·rename_i i l
   generalize i.fields[f]? =y
   split
   ·generalize addrOff _ _ _=z
    split<;>rfl
   ·rfl
  ·rfl
 |field t x f=>
  dsimp only
  generalize σ.eval x=x
  generalize E.ty t=i
  split
  ·rename_i i l
   generalize i.fields[f]? =y
   split
   ·generalize cut _ _ _=z
    generalize (_||_:Bool)=z'
    split<;>rfl
   ·rfl
  ·rfl
 |indexAddr t x ix=>
  dsimp only
  generalize (E.ty t).bind (tyE E)=z
  generalize σ.eval x=x
  generalize σ.eval ix=ix
  split
  ·rw[indexE_bind _ _ _ _ (fun a=>K ⟨a,[],[],[]⟩),indexE_bind _ _ _ _ (fun a=>some (D.mk a [] [] [])),Option.bind_assoc]
   rfl
  ·rfl
 |index t x ix=>
  dsimp only
  generalize (E.ty t).map TI.k=z
  generalize σ.eval x=x
  generalize σ.eval ix=ix
  split
  ·rw[bound_bind];rfl
  ·rfl
 |nilCheck x=>
  dsimp only
  generalize σ.eval x=x
  split
  ·split<;>rfl
  ·rfl
 |binOp op t x y u=>
  dsimp only
  generalize E.ty t=z
  generalize σ.eval x=x
  generalize isNilC y=q
  generalize σ.eval y=y
  split
  ·generalize (q&&isSl _:Bool)=q'
   split
   ·generalize emptyOf _ _=e
    split
    ·exact nilE_bind ..
    ·rfl
   ·rw[binE_bind _ _ _ _ _ _ (fun a=>K ⟨a,[],[],[]⟩),binE_bind _ _ _ _ _ _ (fun a=>some (D.mk a [] [] [])),Option.bind_assoc]
    rfl
  ·rfl
 |unOp op t x=>
  dsimp only
  generalize σ.eval x=x
  split<;>rfl
 |convert s d x=>
  dsimp only
  generalize σ.eval x=x
  generalize E.ty d=i
  generalize E.ty s=i'
  split
  ·rename_i i k n
   generalize i.k=z
   split<;>rfl
  ·rename_i j i k
   generalize i.k=z
   split
   ·rfl
   ·generalize j.k=y
    split
    ·exact bytesD_bind ..
    ·rfl
   ·rfl
  ·rename_i j i l _ _
   generalize i.k=z
   split
   ·generalize j.k=y
    split
    ·exact strD_bind ..
    ·rfl
   ·rfl
  ·rfl
 |makeFunc fn first captured=>
  cases fn with
  |func f=>
   dsimp only
   generalize avs σ first.toList=x
   generalize avs σ captured.toList=y
   split
   ·rfl
   ·rename_i cs _
    generalize boxNames cs=z
    split<;>rfl
   ·rename_i ls
    generalize vals ls=z
    split<;>rfl
   ·rfl
  |_=>rfl
 |makeSlice t l c=>
  dsimp only
  generalize intOf? (σ.eval l)=x
  generalize intOf? (σ.eval c)=y
  generalize E.ty t=i
  split
  ·rename_i i _ _
   generalize tyE E i=z
   split
   ·split
    ·simp only[cond_bind,Option.bind_some,Option.bind_none]
    ·rfl
   ·rfl
  ·rfl
 |slice t x lo hi mx=>
  dsimp only
  generalize E.ty t=i
  generalize σ.eval x=x
  generalize getI σ lo=lo
  generalize getI σ hi=hi
  generalize getI σ mx=mx
  split
  ·rename_i i l z1 z2 z3
   generalize TI.k _=z
   split
   ·exact sliceStr_bind ..
   ·generalize E.ty _=y
    split
    ·exact sliceE_bind ..
    ·rfl
   ·rfl
  ·rfl
 |buildSlice t n parts=>
  dsimp only
  generalize avs σ _=x
  generalize E.ty t=i
  split
  ·rename_i i as
   generalize tyE E i=z
   split
   ·rename_i j
    generalize frzEach _ _ _=y
    generalize (_&&aggsOk _ _:Bool)=b
    split
    ·generalize (_&&nodup _:Bool)=b
     split
     ·split<;>rfl
     ·rfl
    ·rfl
   ·rfl
  ·rfl
 |build t parts=>
  dsimp only
  generalize E.ty t=i
  split
  ·generalize buildLs _ _ _ _=z
   generalize Tk.agg _=z'
   split<;>rfl
  ·rfl
 |extract x ix=>
  dsimp only
  generalize σ.eval x=x
  split
  ·rename_i vs
   generalize vs[ix]? =y
   split<;>rfl
  ·rfl
 |call c=>
  dsimp only
  cases c.callee with
  |builtin b=>
   dsimp only
   generalize avs σ _=x
   split
   ·generalize c.argTypes.toList=ts
    split
    ·rename_i t
     generalize E.ty t=i
     split
     ·generalize lenOf _ _=y
      generalize kindOk _ _=z
      split<;>rfl
     ·rfl
    ·rfl
   ·generalize c.argTypes.toList=ts
    split
    ·rename_i t
     generalize E.ty t=i
     split
     ·rename_i i
      generalize i.k=z
      split<;>rfl
     ·rfl
    ·rfl
   ·generalize c.argTypes.toList=ts
    split
    ·rename_i t u
     generalize E.ty t=i
     generalize E.ty u=i'
     split
     ·rename_i i i'
      generalize tyE E i=j
      generalize i'.k=k
      split
      ·rename_i j
       generalize (_&&Nat.beq _ _:Bool)=b
       split
       ·split
        ·split
         ·exact zerosE_bind ..
         ·rfl
        ·exact appendE_bind ..
        ·rfl
       ·rfl
      ·rfl
     ·rfl
    ·rfl
   ·rw[mmE_bind _ _ _ _ (fun a=>K ⟨a,[],[],[]⟩),mmE_bind _ _ _ _ (fun a=>some (D.mk a [] [] [])),Option.bind_assoc]
    rfl
   ·rw[mmE_bind _ _ _ _ (fun a=>K ⟨a,[],[],[]⟩),mmE_bind _ _ _ _ (fun a=>some (D.mk a [] [] [])),Option.bind_assoc]
    rfl
   ·rfl
  |value f=>
   dsimp only
   generalize avs σ _=x
   generalize σ.eval f=y
   split
   ·generalize (_||_:Bool)=z
    split
    ·exact callE_bind ..
    ·rfl
   ·exact callE_bind ..
   ·rfl
  |invoke _ _=>rfl
 |_=>rfl
end
def All2 {α β:Type}(Q:α→β→Prop):List α→List β→Prop
 |[],[]=>True
 |a::as,b::bs=>Q a b∧All2 Q as bs
 |_,_=>False
theorem All2.length {α β:Type}{Q:α→β→Prop}:∀{as:List α} {bs:List β},All2 Q as bs→as.length=bs.length
 |[],[],_=>rfl
 |_::_,_::_,h=>by simp[All2.length h.2]
 |[],_::_,h=>h.elim
 |_::_,[],h=>h.elim
theorem All2.mono {α β:Type}{Q Q':α→β→Prop}(hq:∀a b,Q a b→Q' a b):∀{as:List α} {bs:List β},All2 Q as bs→All2 Q' as bs
 |[],[],_=>trivial
 |_::_,_::_,h=>⟨hq _ _ h.1,All2.mono hq h.2⟩
 |[],_::_,h=>h.elim
 |_::_,[],h=>h.elim
theorem All2.mono_mem {α β:Type}{Q Q':α→β→Prop}:∀{as:List α} {bs:List β},(∀a b,a∈as→Q a b→Q' a b)→All2 Q as bs→All2 Q' as bs
 |[],[],_,_=>trivial
 |_::_,_::_,hq,h=>⟨hq _ _ (by simp) h.1,All2.mono_mem (fun a b ha=>hq a b (by simp[ha])) h.2⟩
 |[],_::_,_,h=>h.elim
 |_::_,[],_,h=>h.elim
theorem All2.get {α β:Type}{Q:α→β→Prop}:∀{as:List α} {bs:List β},All2 Q as bs→∀(j:Nat) (a:α),as[j]? =some a→∃b,bs[j]? =some b∧Q a b
 |[],[],_,j,a,h=>by simp at h
 |x::as,y::bs,h,0,a,ha=>⟨y,rfl,by simp at ha;subst ha;exact h.1⟩
 |x::as,y::bs,h,j+1,a,ha=>by
  obtain⟨b,hb,hq⟩:=All2.get h.2 j a (by simpa using ha)
  exact⟨b,by simpa using hb,hq⟩
 |[],_::_,h,_,_,_=>h.elim
 |_::_,[],h,_,_,_=>h.elim
theorem All2.of_get {α β:Type}{Q:α→β→Prop}:∀{as:List α} {bs:List β},as.length=bs.length→(∀(j:Nat) (a:α) (b:β),as[j]? =some a→bs[j]? =some b→Q a b)→All2 Q as bs
 |[],[],_,_=>trivial
 |x::as,y::bs,hl,h=>⟨h 0 x y rfl rfl,All2.of_get (by simpa using hl) fun j a b ha hb=>h (j+1) a b (by simpa using ha) (by simpa using hb)⟩
 |[],_::_,hl,_=>by simp at hl
 |_::_,[],hl,_=>by simp at hl
theorem All2.append {α β:Type}{Q:α→β→Prop}:∀{as:List α} {bs:List β} {cs:List α} {ds:List β},All2 Q as bs→All2 Q cs ds→All2 Q (as++cs) (bs++ds)
 |[],[],_,_,_,h=>h
 |_::_,_::_,_,_,h,h'=>⟨h.1,All2.append h.2 h'⟩
 |[],_::_,_,_,h,_=>h.elim
 |_::_,[],_,_,h,_=>h.elim
theorem All2.take {α β:Type}{Q:α→β→Prop}:∀(n:Nat) {as:List α} {bs:List β},All2 Q as bs→All2 Q (as.take n) (bs.take n)
 |0,_,_,_=>trivial
 |n+1,[],[],h=>trivial
 |n+1,_::_,_::_,h=>⟨h.1,All2.take n h.2⟩
 |n+1,[],_::_,h=>h.elim
 |n+1,_::_,[],h=>h.elim
theorem All2.drop {α β:Type}{Q:α→β→Prop}:∀(n:Nat) {as:List α} {bs:List β},All2 Q as bs→All2 Q (as.drop n) (bs.drop n)
 |0,_,_,h=>by simpa using h
 |n+1,[],[],h=>trivial
 |n+1,_::_,_::_,h=>All2.drop n h.2
 |n+1,[],_::_,h=>h.elim
 |n+1,_::_,[],h=>h.elim
theorem All2.split {α β:Type}{Q:α→β→Prop}:∀{as cs:List α} {bs:List β},All2 Q (as++cs) bs→∃b1 b2,bs=b1++b2∧All2 Q as b1∧All2 Q cs b2
 |[],_,bs,h=>⟨[],bs,rfl,trivial,h⟩
 |a::as,cs,b::bs,h=>by
  obtain⟨b1,b2,rfl,h1,h2⟩:=All2.split h.2
  exact⟨b::b1,b2,rfl,⟨h.1,h1⟩,h2⟩
 |a::as,cs,[],h=>h.elim
theorem All2.map_left {α β γ:Type}{Q:γ→β→Prop}(f:α→γ):∀{as:List α} {bs:List β},All2 (fun a b=>Q (f a) b) as bs→All2 Q (as.map f) bs
 |[],[],_=>trivial
 |_::_,_::_,h=>⟨h.1,All2.map_left f h.2⟩
 |[],_::_,h=>h.elim
 |_::_,[],h=>h.elim
theorem All2.of_map_left {α β γ:Type}{Q:γ→β→Prop}(f:α→γ):∀{as:List α} {bs:List β},All2 Q (as.map f) bs→All2 (fun a b=>Q (f a) b) as bs
 |[],[],_=>trivial
 |_::_,_::_,h=>⟨h.1,All2.of_map_left f h.2⟩
 |[],_::_,h=>h.elim
 |_::_,[],h=>h.elim
abbrev Cls :=Nat→Prop
abbrev nth {α:Type}(l:List α)(i:Nat):Option α:=l[i]?
def blk (w:World)(b n:Nat):Prop:=∃cs e lo hi,w.heap[b]? =some (.cells cs e (lo,hi))∧n≤cs.size∧(hi≤lo∨cs.size≤lo)
theorem blk.lt {w:World}{b n:Nat}(h:blk w b n):b<w.heap.size:=by
 obtain⟨cs,e,lo,hi,h,_⟩:=h
 exact(Array.getElem?_eq_some_iff.1 h).1
theorem blk.mono {w:World}{b n m:Nat}(h:blk w b n)(hm:m≤n):blk w b m:=by
 obtain⟨cs,e,lo,hi,h,hn,hf⟩:=h
 exact⟨cs,e,lo,hi,h,by omega,hf⟩
theorem blk.same {w w':World}{b n:Nat}(h:blk w b n)(hs:w'.heap[b]? =w.heap[b]?):blk w' b n:=by
 obtain⟨cs,e,lo,hi,h,hn⟩:=h
 exact⟨cs,e,lo,hi,hs.trans h,hn⟩
theorem blk.frozen {w:World}{b n o:Nat}(h:blk w b n)(ho:o<n):w.frozen? ⟨b,o,none⟩=false:=by
 obtain⟨cs,e,lo,hi,h,hn,hf⟩:=h
 simp[World.frozen?,h]
 omega
theorem blk.cell {w:World}{b n o:Nat}(h:blk w b n)(ho:o<n):(w.cell? ⟨b,o,none⟩).isSome=true:=by
 obtain⟨cs,e,lo,hi,h,hn,_⟩:=h
 simp[World.cell?,h]
 omega
theorem cell_same {w w':World}{b o:Nat}(hs:w'.heap[b]? =w.heap[b]?):w'.cell? ⟨b,o,none⟩=w.cell? ⟨b,o,none⟩:=by
 simp[World.cell?,hs]
def firstsV :ETy→Bool→List Value→Array Value
 | .nil,_,_=> #[]
 | .cons ..,true,vs=> #[.agg vs.toArray]
 | .cons ..,false,vs=>vs.toArray
mutual
def LTy.ro (w:World)(R:Cls):(t:LTy)→t.den→Value→Prop
 | .int k,n,v=>v= .int k n
 | .bool,b,v=>v= .bool b
 | .str,s,v=>v= .string s
 | .sl T,xs,v=>(xs=[]∧∃a c,v= .slice a 0 c)∨
  ∃b o c,v= .slice (some ⟨b,o,none⟩) (List.length xs) c∧R b∧List.length xs≤c∧∀i x,nth (α:=T.den) xs i=some x→ETy.ro w R T x b (o+i*T.len)
 | .ptr T,x,v=>∃b o,v= .pointer (some ⟨b,o,none⟩)∧R b∧ETy.ro w R T x b o
 | .fn f agg A B,x,v=>∃(vs:List Value) (cs:Array Value),v= .func (.func f) (firstsV A agg vs) cs∧ETy.vals w R A x.1 vs∧ETy.vals w R B x.2 cs.toList
def ETy.ro (w:World)(R:Cls):(T:ETy)→T.den→Nat→Nat→Prop
 | .nil,_,_,_=>True
 | .cons t .nil,x,b,o=>∃v,w.cell? ⟨b,o,none⟩=some v∧LTy.ro w R t x v
 | .cons t (.cons u ts),x,b,o=>(∃v,w.cell? ⟨b,o,none⟩=some v∧LTy.ro w R t x.1 v)∧ETy.ro w R (.cons u ts) x.2 b (o+1)
def ETy.vals (w:World)(R:Cls):(T:ETy)→T.den→List Value→Prop
 | .nil,_,vs=>vs=[]
 | .cons t .nil,x,vs=>∃v,vs=[v]∧LTy.ro w R t x v
 | .cons t (.cons u ts),x,vs=>∃v r,vs=v::r∧LTy.ro w R t x.1 v∧ETy.vals w R (.cons u ts) x.2 r
end
def Sg.ro (w:World)(R:Cls):Sg→Value→Prop
 | .int k n,v=>v= .int k n
 | .bool b,v=>v= .bool b
 | .str s,v=>v= .string s
 | .sl T xs,v=>LTy.ro w R (.sl T) xs v
 | .ptr T x,v=>LTy.ro w R (.ptr T) x v
 | .fn f g A B a b,v=>LTy.ro w R (.fn f g A B) (a,b) v
theorem LTy.ro_sg {w:World}{R:Cls}{t:LTy}{x:t.den}{v:Value}:LTy.ro w R t x v↔(t.sg x).ro w R v:=by
 cases t<;>rfl
theorem Sg.int?_eq {k:IntKind}{g:Sg}{x:Int}(h:g.int? k=some x):g= .int k x:=by
 cases g with
 |int k' n=>
  unfold Sg.int? at h
  by_cases hk:k=k'
  ·subst hk
   simp at h
   rw[h]
  ·simp[hk]at h
 |_=>simp[Sg.int?]at h
theorem Sg.bool?_eq {g:Sg}{x:Bool}(h:g.bool? =some x):g= .bool x:=by
 cases g<;>simp[Sg.bool?]at h
 rw[h]
theorem Sg.str?_eq {g:Sg}{x:ByteArray}(h:g.str? =some x):g= .str x:=by
 cases g<;>simp[Sg.str?]at h
 rw[h]
theorem Sg.sl?_eq {T:ETy}{g:Sg}{x:List T.den}(h:g.sl? T=some x):g= .sl T x:=by
 cases g with
 |sl T' xs=>
  obtain⟨e,h⟩:=ETy.casts?_some h
  subst e
  subst h
  rfl
 |_=>simp[Sg.sl?]at h
theorem Sg.ptr?_eq {T:ETy}{g:Sg}{x:T.den}(h:g.ptr? T=some x):g= .ptr T x:=by
 cases g with
 |ptr T' y=>
  obtain⟨e,h⟩:=ETy.cast?_some h
  subst e
  subst h
  rfl
 |_=>simp[Sg.ptr?]at h
theorem Sg.fn?_eq {f:Nat}{q:Bool}{A B:ETy}{g:Sg}{x:A.den×B.den}(h:g.fn? f q A B=some x):g= .fn f q A B x.1 x.2:=by
 cases g with
 |fn f' q' A' B' a b=>
  simp only[Sg.fn?]at h
  by_cases h1:f'=f
  ·by_cases h2:q'=q
   ·subst h1
    subst h2
    cases h3:ETy.cast? A' A a with
    |none=>simp[h3]at h
    |some a'=>
     cases h4:ETy.cast? B' B b with
     |none=>simp[h3,h4]at h
     |some b'=>
      obtain⟨e,h3⟩:=ETy.cast?_some h3
      obtain⟨e',h4⟩:=ETy.cast?_some h4
      subst e
      subst e'
      subst h3
      subst h4
      simp[ETy.cast?,ETy.beq_refl]at h
      rw[←h]
   ·simp[h2]at h
  ·simp[h1]at h
 |_=>simp[Sg.fn?]at h
theorem LTy.get_sg {t:LTy}{g:Sg}{x:t.den}(h:t.get g=some x):t.sg x=g:=by
 cases t with
 |int k=>exact(Sg.int?_eq h).symm
 |bool=>exact(Sg.bool?_eq h).symm
 |str=>exact(Sg.str?_eq h).symm
 |sl T=>exact(Sg.sl?_eq h).symm
 |ptr T=>exact(Sg.ptr?_eq h).symm
 |fn f q A B=>exact(Sg.fn?_eq h).symm
theorem ETy.sgs_length :∀(T:ETy) (x:T.den),(T.sgs x).length=T.len
 | .nil,_=>rfl
 | .cons t .nil,x=>rfl
 | .cons t (.cons u ts),x=>by simp only[ETy.sgs,List.length_cons,ETy.sgs_length (.cons u ts) x.2,ETy.len]
def cellsRo (w:World)(R:Cls)(gs:List Sg)(b o:Nat):Prop:=∀j g,gs[j]? =some g→∃v,w.cell? ⟨b,o+j,none⟩=some v∧g.ro w R v
theorem ETy.ro_iff {w:World}{R:Cls}{b:Nat}:∀(T:ETy) (x:T.den) (o:Nat),ETy.ro w R T x b o↔cellsRo w R (T.sgs x) b o
 | .nil,x,o=>by simp[ETy.ro,cellsRo,ETy.sgs]
 | .cons t .nil,x,o=>by
   constructor
   ·rintro⟨v,hc,hv⟩ j g hg
    cases j with
    |zero=>simp[ETy.sgs]at hg;subst hg;exact⟨v,hc,LTy.ro_sg.1 hv⟩
    |succ j=>simp[ETy.sgs]at hg
   ·intro h
    obtain⟨v,hc,hv⟩:=h 0 (t.sg x) rfl
    exact⟨v,hc,LTy.ro_sg.2 hv⟩
 | .cons t (.cons u ts),x,o=>by
   constructor
   ·rintro⟨⟨v,hc,hv⟩,hr⟩ j g hg
    cases j with
    |zero=>simp[ETy.sgs]at hg;subst hg;exact⟨v,hc,LTy.ro_sg.1 hv⟩
    |succ j=>
     have h2:=(ETy.ro_iff (.cons u ts) x.2 (o+1)).1 hr j g (by simpa [ETy.sgs]using hg)
     rw[show o+(j+1)=o+1+j by omega]
     exact h2
   ·intro h
    refine⟨?_,(ETy.ro_iff (.cons u ts) x.2 (o+1)).2 ?_⟩
    ·obtain⟨v,hc,hv⟩:=h 0 (t.sg x.1) rfl
     exact⟨v,hc,LTy.ro_sg.2 hv⟩
    ·intro j g hg
     have h2:=h (j+1) g (by simpa [ETy.sgs]using hg)
     rw[show o+(j+1)=o+1+j by omega]at h2
     exact h2
theorem ETy.vals_iff {w:World}{R:Cls}:∀(T:ETy) (x:T.den) (vs:List Value),ETy.vals w R T x vs↔All2 (Sg.ro w R) (T.sgs x) vs
 | .nil,x,vs=>by cases vs<;>simp[ETy.vals,ETy.sgs,All2]
 | .cons t .nil,x,vs=>by
   constructor
   ·rintro⟨v,rfl,hv⟩
    exact⟨LTy.ro_sg.1 hv,trivial⟩
   ·intro h
    cases vs with
    |nil=>exact h.elim
    |cons v r=>
     cases r with
     |nil=>exact⟨v,rfl,LTy.ro_sg.2 h.1⟩
     |cons _ _=>exact h.2.elim
 | .cons t (.cons u ts),x,vs=>by
   constructor
   ·rintro⟨v,r,rfl,hv,hr⟩
    exact⟨LTy.ro_sg.1 hv,(ETy.vals_iff (.cons u ts) x.2 r).1 hr⟩
   ·intro h
    cases vs with
    |nil=>exact h.elim
    |cons v r=>exact⟨v,r,rfl,LTy.ro_sg.2 h.1,(ETy.vals_iff (.cons u ts) x.2 r).2 h.2⟩
mutual
theorem LTy.ro_same {w w':World}{R R':Cls}(hs:∀b,R b→w'.heap[b]? =w.heap[b]?)(hR:∀b,R b→R' b):∀(t:LTy) (x:t.den) (v:Value),LTy.ro w R t x v→LTy.ro w' R' t x v
 | .int k,x,v,h=>h
 | .bool,x,v,h=>h
 | .str,x,v,h=>h
 | .sl T,xs,v,h=>by
   rcases h with h|⟨b,o,c,rfl,hb,hl,h⟩
   ·exact .inl h
   ·exact .inr ⟨b,o,c,rfl,hR b hb,hl,fun i x hx=>ETy.ro_same hs hR T x b _ (hs b hb) (h i x hx)⟩
 | .ptr T,x,v,h=>by
   obtain⟨b,o,rfl,hb,h⟩:=h
   exact⟨b,o,rfl,hR b hb,ETy.ro_same hs hR T x b o (hs b hb) h⟩
 | .fn f g A B,x,v,h=>by
   obtain⟨vs,cs,rfl,h1,h2⟩:=h
   exact⟨vs,cs,rfl,ETy.vals_same hs hR A x.1 _ h1,ETy.vals_same hs hR B x.2 _ h2⟩
theorem ETy.ro_same {w w':World}{R R':Cls}(hs:∀b,R b→w'.heap[b]? =w.heap[b]?)(hR:∀b,R b→R' b):∀(T:ETy) (x:T.den) (b o:Nat),w'.heap[b]? =w.heap[b]? →ETy.ro w R T x b o→ETy.ro w' R' T x b o
 | .nil,x,b,o,hb,h=>trivial
 | .cons t .nil,x,b,o,hb,h=>by
   obtain⟨v,hc,hv⟩:=h
   exact⟨v,(cell_same hb).trans hc,LTy.ro_same hs hR t x v hv⟩
 | .cons t (.cons u ts),x,b,o,hb,h=>by
   obtain⟨⟨v,hc,hv⟩,hr⟩:=h
   exact⟨⟨v,(cell_same hb).trans hc,LTy.ro_same hs hR t x.1 v hv⟩,ETy.ro_same hs hR (.cons u ts) x.2 b (o+1) hb hr⟩
theorem ETy.vals_same {w w':World}{R R':Cls}(hs:∀b,R b→w'.heap[b]? =w.heap[b]?)(hR:∀b,R b→R' b):∀(T:ETy) (x:T.den) (vs:List Value),ETy.vals w R T x vs→ETy.vals w' R' T x vs
 | .nil,x,vs,h=>h
 | .cons t .nil,x,vs,h=>by
   obtain⟨v,rfl,hv⟩:=h
   exact⟨v,rfl,LTy.ro_same hs hR t x v hv⟩
 | .cons t (.cons u ts),x,vs,h=>by
   obtain⟨v,r,rfl,hv,hr⟩:=h
   exact⟨v,r,rfl,LTy.ro_same hs hR t x.1 v hv,ETy.vals_same hs hR (.cons u ts) x.2 r hr⟩
end
theorem Sg.ro_same {w w':World}{R R':Cls}(hs:∀b,R b→w'.heap[b]? =w.heap[b]?)(hR:∀b,R b→R' b){g:Sg}{v:Value}(h:g.ro w R v):g.ro w' R' v:=by
 cases g with
 |int|bool|str=>exact h
 |sl T xs=>exact LTy.ro_same hs hR (.sl T) xs v h
 |ptr T x=>exact LTy.ro_same hs hR (.ptr T) x v h
 |fn f g A B a b=>exact LTy.ro_same hs hR (.fn f g A B) (a,b) v h
theorem Sg.ro_one {w:World}{R:Cls}{g:Sg}{v:Value}(h:g.ro w R v):v.oneCell'=true:=by
 cases g with
 |int|bool|str=>cases h;rfl
 |sl T xs=>rcases h with⟨_,a,c,rfl⟩|⟨b,o,c,rfl,_⟩<;>rfl
 |ptr T x=>obtain⟨b,o,rfl,_⟩:=h;rfl
 |fn f g A B a b=>
  obtain⟨vs,cs,hv,_⟩:=(show LTy.ro w R (.fn f g A B) (a,b) v from h)
  rw[hv]
  rfl
def rowOwn {α:Type}(Q:α→Nat→List Nat→Prop)(s:Nat):List α→Nat→List Nat→Prop
 |[],_,fp=>fp=[]
 |x::xs,o,fp=>∃f1 f2,fp=f1++f2∧Q x o f1∧rowOwn Q s xs (o+s) f2
def fits (n c:Nat):Prop:=n≤c∧0<c
mutual
def LTy.own (w:World):(t:LTy)→t.den→Value→List Nat→Prop
 | .int k,n,v,fp=>v= .int k n∧fp=[]
 | .bool,b,v,fp=>v= .bool b∧fp=[]
 | .str,s,v,fp=>v= .string s∧fp=[]
 | .sl T,xs,v,fp=>(xs=[]∧fp=[]∧∃a,v= .slice a 0 0)∨
  ∃b o c fr,v= .slice (some ⟨b,o,none⟩) (List.length xs) c∧fits (List.length xs) c∧blk w b (o+c*T.len)∧rowOwn (fun x o fp=>ETy.own w T x b o fp) T.len xs o fr∧fp=b::fr
 | .ptr T,x,v,fp=>False
 | .fn ..,x,v,fp=>False
def ETy.own (w:World):(T:ETy)→T.den→Nat→Nat→List Nat→Prop
 | .nil,_,_,_,fp=>fp=[]
 | .cons t .nil,x,b,o,fp=>∃v,w.cell? ⟨b,o,none⟩=some v∧LTy.own w t x v fp
 | .cons t (.cons u ts),x,b,o,fp=>∃f1 f2,fp=f1++f2∧(∃v,w.cell? ⟨b,o,none⟩=some v∧LTy.own w t x.1 v f1)∧ETy.own w (.cons u ts) x.2 b (o+1) f2
end
theorem rowOwn_mono {α:Type}{Q Q':α→Nat→List Nat→Prop}{s:Nat}:∀{xs:List α} {o:Nat} {fp:List Nat},(∀x o f,(∀b∈f,b∈fp)→Q x o f→Q' x o f)→rowOwn Q s xs o fp→rowOwn Q' s xs o fp
 |[],_,_,_,h=>h
 |x::xs,o,fp,hq,h=>by
  obtain⟨f1,f2,rfl,h1,h2⟩:=h
  exact⟨f1,f2,rfl,hq _ _ _ (fun b hb=>by simp[hb]) h1,rowOwn_mono (fun x o f hf h=>hq x o f (fun b hb=>by simp[hf b hb]) h) h2⟩
mutual
theorem LTy.own_same {w w':World}:∀(t:LTy) (x:t.den) (v:Value) (fp:List Nat),(∀b∈fp,w'.heap[b]? =w.heap[b]?)→LTy.own w t x v fp→LTy.own w' t x v fp
 | .int k,x,v,fp,hs,h=>h
 | .bool,x,v,fp,hs,h=>h
 | .str,x,v,fp,hs,h=>h
 | .sl T,xs,v,fp,hs,h=>by
   rcases h with h|⟨b,o,c,fr,rfl,hl,hb,hr,rfl⟩
   ·exact .inl h
   ·exact .inr ⟨b,o,c,fr,rfl,hl,hb.same (hs b (by simp)),rowOwn_mono (fun x o f hf h=>ETy.own_same T x b o f (hs b (by simp)) (fun b' hb'=>hs b' (by simp[hf b' hb'])) h) hr,rfl⟩
 | .ptr T,x,v,fp,hs,h=>h
 | .fn ..,x,v,fp,hs,h=>h
theorem ETy.own_same {w w':World}:∀(T:ETy) (x:T.den) (b o:Nat) (fp:List Nat),w'.heap[b]? =w.heap[b]? →(∀b∈fp,w'.heap[b]? =w.heap[b]?)→ETy.own w T x b o fp→ETy.own w' T x b o fp
 | .nil,x,b,o,fp,hb,hs,h=>h
 | .cons t .nil,x,b,o,fp,hb,hs,h=>by
   obtain⟨v,hc,hv⟩:=h
   exact⟨v,(cell_same hb).trans hc,LTy.own_same t x v fp hs hv⟩
 | .cons t (.cons u ts),x,b,o,fp,hb,hs,h=>by
   obtain⟨f1,f2,rfl,⟨v,hc,hv⟩,hr⟩:=h
   exact⟨f1,f2,rfl,⟨v,(cell_same hb).trans hc,LTy.own_same t x.1 v f1 (fun b hb=>hs b (by simp[hb])) hv⟩,ETy.own_same (.cons u ts) x.2 b (o+1) f2 hb (fun b hb=>hs b (by simp[hb])) hr⟩
end
theorem rowOwn_get {α:Type}{Q:α→Nat→List Nat→Prop}{s:Nat}:∀{xs:List α} {o:Nat} {fp:List Nat},rowOwn Q s xs o fp→∀i x,xs[i]? =some x→∃f,(∀b∈f,b∈fp)∧Q x (o+i*s) f
 |[],_,_,_,i,x,hx=>by simp at hx
 |y::xs,o,fp,h,0,x,hx=>by
  obtain⟨f1,f2,rfl,h1,h2⟩:=h
  simp at hx
  subst hx
  exact⟨f1,fun b hb=>by simp[hb],by simpa using h1⟩
 |y::xs,o,fp,h,i+1,x,hx=>by
  obtain⟨f1,f2,rfl,h1,h2⟩:=h
  obtain⟨f,hf,hq⟩:=rowOwn_get h2 i x (by simpa using hx)
  refine⟨f,fun b hb=>by simp[hf b hb],?_⟩
  rw[show o+(i+1)*s=o+s+i*s by rw[Nat.add_mul];omega]
  exact hq
mutual
theorem LTy.own_ro {w:World}{R:Cls}:∀(t:LTy) (x:t.den) (v:Value) (fp:List Nat),(∀b∈fp,R b)→LTy.own w t x v fp→LTy.ro w R t x v
 | .int k,x,v,fp,hs,h=>h.1
 | .bool,x,v,fp,hs,h=>h.1
 | .str,x,v,fp,hs,h=>h.1
 | .sl T,xs,v,fp,hs,h=>by
   rcases h with⟨h1,_,a,rfl⟩|⟨b,o,c,fr,rfl,hl,hb,hr,rfl⟩
   ·exact .inl ⟨h1,a,0,rfl⟩
   ·refine .inr ⟨b,o,c,rfl,hs b (by simp),hl.1,fun i x hx=> ?_⟩
    obtain⟨f,hf,hq⟩:=rowOwn_get hr i x hx
    exact ETy.own_ro T x b _ f (fun b' hb'=>hs b' (by simp[hf b' hb'])) hq
 | .ptr T,x,v,fp,hs,h=>h.elim
 | .fn ..,x,v,fp,hs,h=>h.elim
theorem ETy.own_ro {w:World}{R:Cls}:∀(T:ETy) (x:T.den) (b o:Nat) (fp:List Nat),(∀b∈fp,R b)→ETy.own w T x b o fp→ETy.ro w R T x b o
 | .nil,x,b,o,fp,hs,h=>trivial
 | .cons t .nil,x,b,o,fp,hs,h=>by
   obtain⟨v,hc,hv⟩:=h
   exact⟨v,hc,LTy.own_ro t x v fp hs hv⟩
 | .cons t (.cons u ts),x,b,o,fp,hs,h=>by
   obtain⟨f1,f2,rfl,⟨v,hc,hv⟩,hr⟩:=h
   exact⟨⟨v,hc,LTy.own_ro t x.1 v f1 (fun b hb=>hs b (by simp[hb])) hv⟩,ETy.own_ro (.cons u ts) x.2 b (o+1) f2 (fun b hb=>hs b (by simp[hb])) hr⟩
end
mutual
theorem LTy.own_lt {w:World}:∀(t:LTy) (x:t.den) (v:Value) (fp:List Nat),LTy.own w t x v fp→∀b∈fp,b<w.heap.size
 | .int k,x,v,fp,h,b,hb=>by rw[h.2]at hb;cases hb
 | .bool,x,v,fp,h,b,hb=>by rw[h.2]at hb;cases hb
 | .str,x,v,fp,h,b,hb=>by rw[h.2]at hb;cases hb
 | .sl T,xs,v,fp,h,b,hb=>by
   rcases h with⟨_,h,_⟩|⟨b',o,c,fr,rfl,hl,hb',hr,rfl⟩
   ·rw[h]at hb;cases hb
   ·rcases List.mem_cons.1 hb with rfl|hb
    ·exact hb'.lt
    ·exact rowOwn_lt (fun x o f h=>ETy.own_lt T x b' o f h) hr b hb
 | .ptr T,x,v,fp,h,b,hb=>h.elim
 | .fn ..,x,v,fp,h,b,hb=>h.elim
theorem ETy.own_lt {w:World}:∀(T:ETy) (x:T.den) (b o:Nat) (fp:List Nat),ETy.own w T x b o fp→∀b∈fp,b<w.heap.size
 | .nil,x,b,o,fp,h,b',hb=>by rw[h]at hb;cases hb
 | .cons t .nil,x,b,o,fp,h,b',hb=>by
   obtain⟨v,hc,hv⟩:=h
   exact LTy.own_lt t x v fp hv b' hb
 | .cons t (.cons u ts),x,b,o,fp,h,b',hb=>by
   obtain⟨f1,f2,rfl,⟨v,hc,hv⟩,hr⟩:=h
   rcases List.mem_append.1 hb with hb|hb
   ·exact LTy.own_lt t x.1 v f1 hv b' hb
   ·exact ETy.own_lt (.cons u ts) x.2 b (o+1) f2 hr b' hb
theorem rowOwn_lt {α:Type}{Q:α→Nat→List Nat→Prop}{s n:Nat}(hq:∀x o f,Q x o f→∀b∈f,b<n):∀{xs:List α} {o:Nat} {fp:List Nat},rowOwn Q s xs o fp→∀b∈fp,b<n
 |[],_,_,h,b,hb=>by rw[h]at hb;cases hb
 |y::xs,o,fp,h,b,hb=>by
  obtain⟨f1,f2,rfl,h1,h2⟩:=h
  rcases List.mem_append.1 hb with hb|hb
  ·exact hq _ _ _ h1 b hb
  ·exact rowOwn_lt hq h2 b hb
end
structure Cc where
 at_:Nat→Option (Nat×Nat)
 fp:Nat→List Nat
structure Fr where
 w0:World
 W:List Nat
 nt:Nat
 io:List (Nat×Value)
 R0:Cls
 kp:Nat→Nat→Bool
def refAt (w:World)(T:ETy)(len:Nat)(v:Value):Option (Nat×Nat)→Prop
 |none=>∃a,v= .slice a 0 0
 |some (b,o)=>∃cp,v= .slice (some ⟨b,o,none⟩) len cp∧fits len cp∧blk w b (o+cp*T.len)
def capsRel (c:Cc)(H:Hp)(ns:List Nat)(vs:List Value):Prop:=
 All2 (fun n v=>∀ls,look H n=some (.box ls)→∃b,c.at_ n=some (b,0)∧v= .pointer (some ⟨b,0,none⟩)) ns vs
def Lf.rel (c:Cc)(w:World)(R:Cls)(H:Hp):Lf→Value→Prop
 | .val g,v=>g.ro w R v
 | .nil0,v=>∃a,v= .slice a 0 0
 | .ref n,v=>∀T d xs,look H n=some (.row T d xs)→refAt w T xs.length v (c.at_ n)
 | .pref n i j,v=>∀T d xs,look H n=some (.row T d xs)→d=true∧i<xs.length∧j<T.len∧∃b o,c.at_ n=some (b,o)∧w.cell? ⟨b,o+i*T.len+j,none⟩=some v
 | .ptr n off,v=>∀ls,look H n=some (.box ls)→∃b,c.at_ n=some (b,0)∧v= .pointer (some ⟨b,off,none⟩)
 | .eptr n i j,v=>∀T d xs,look H n=some (.row T d xs)→i<xs.length∧∃b o,c.at_ n=some (b,o)∧v= .pointer (some ⟨b,o+i*T.len+j,none⟩)
 | .rptr p j,v=>∃b o,v= .pointer (some ⟨b,o+j,none⟩)∧R b∧p.T.ro w R p.x b o
 | .fnl f caps,v=>∃vs:List Value,v= .func (.func f) #[] vs.toArray∧capsRel c H caps vs
 | .nilp,v=>v= .pointer none
 | .dead,_=>True
def V1.rel (c:Cc)(w:World)(R:Cls)(H:Hp)(g:Bool)(ls:List Lf)(v:Value):Prop:=
 match g with
 |false=>∃l,ls=[l]∧l.rel c w R H v
 |true=>∃vs:List Value,v= .agg vs.toArray∧All2 (Lf.rel c w R H) ls vs
def AV.rel (c:Cc)(w:World)(R:Cls)(H:Hp):AV→Value→Prop
 | .v g ls,x=>V1.rel c w R H g ls x
 | .tup ps,x=>∃vs:List Value,x= .tuple vs.toArray∧All2 (fun p y=>V1.rel c w R H p.1 p.2 y) ps vs
 | .undef,x=>x=Go.undef
 | .anyb,x=>∃b,x= .bool b
def Ent.rel (c:Cc)(w:World)(R:Cls)(H:Hp)(n:Nat):Ent→Prop
 | .box ls=>∃b vs e,c.at_ n=some (b,0)∧c.fp n=[b]∧w.heap[b]? =some (.cells vs e (0,0))∧All2 (Lf.rel c w R H) ls vs.toList
 | .row T true xs=>
   match c.at_ n with
   |none=>xs=[]∧c.fp n=[]
   |some (b,o)=>∃fr,c.fp n=b::fr∧blk w b (o+xs.length*T.len)∧rowOwn (fun x o fp=>ETy.own w T x b o fp) T.len xs o fr
 | .row T false xs=>
   match c.at_ n with
   |none=>xs=[]∧c.fp n=[]
   |some (b,o)=>c.fp n=[b]∧blk w b (o+xs.length*T.len)∧∀i x,nth xs i=some x→ETy.ro w R T x b (o+i*T.len)
def Fr.has (F:Fr)(l:Lf):Prop:=∃p v,look F.io p=some v∧(l= .ref p∨l= .ptr p 0)
structure Rel (F:Fr)(c:Cc)(w:World)(R:Cls)(σ:St)(a:Act):Prop where
 tm:∀t av,look σ.tmps t=some av→∃v,a.tmps[t]? =some v∧av.rel c w R σ.heap v
 hp:∀n e,look σ.heap n=some e→e.rel c w R σ.heap n
 nd:∀n e,look σ.heap n=some e→(c.fp n).Nodup
 dj:∀n e m e',n≠m→look σ.heap n=some e→look σ.heap m=some e'→∀b∈c.fp n,b∉c.fp m
 nr:∀n e,look σ.heap n=some e→∀b∈c.fp n,¬R b∧(b∈F.W∨F.w0.heap.size≤b)
 rl:∀b,R b→b<w.heap.size
 sz:F.w0.heap.size≤w.heap.size
 fr:∀b,b<F.w0.heap.size→b∉F.W→w.heap[b]? =F.w0.heap[b]?
 sh:∀b n,blk F.w0 b n→blk w b n
 os:w.os=F.w0.os
 out:w.output=F.w0.output
 tape:w.tape=F.w0.tape
 df:a.defers=[]
 nt:a.tmps.size=F.nt
 io:∀p v,look F.io p=some v→(Lf.ref p).rel c w R σ.heap v∧(Lf.ptr p 0).rel c w R σ.heap v
 rr:∀b,F.R0 b→R b
 rn:∀b,R b→F.R0 b∨F.w0.heap.size≤b∨b∈F.W
 kc:∀p v,look F.io p=some v→∀ls,look σ.heap p=some (.box ls)→∀j,F.kp p j=true→(∃g,ls[j]? =some (.val g)∧g.t.flat=false)∧∀b,c.at_ p=some (b,0)→w.cell? ⟨b,j,none⟩=F.w0.cell? ⟨b,j,none⟩
theorem look_cons {α:Type}(m:Nat)(x:α)(r:List (Nat×α))(n:Nat):look ((m,x)::r) n=if n=m then some x else look r n:=by
 show(match Nat.beq n m with|true=>some x|false=>look r n)=_
 by_cases h:n=m
 ·subst h;simp
 ·have:Nat.beq n m=false:=by cases hb:Nat.beq n m with|true=>exact absurd (Nat.eq_of_beq_eq_true hb) h|false=>rfl
  simp[this,h]
theorem look_append {α:Type}(n:Nat):∀(l r:List (Nat×α)),look (l++r) n=match look l n with|some x=>some x|none=>look r n
 |[],r=>rfl
 |(m,x)::l,r=>by
  rw[List.cons_append,look_cons,look_cons,look_append n l r]
  by_cases h:n=m<;>simp[h]
theorem mem_iff :∀(l:List Nat) (n:Nat),mem l n=true↔n∈l
 |[],n=>by simp[mem]
 |m::l,n=>by
  unfold mem
  cases hb:Nat.beq n m with
  |true=>simp[Nat.eq_of_beq_eq_true hb]
  |false=>
   have:n≠m:=fun h=>by subst h;simp at hb
   simp[this,mem_iff l n]
theorem look_drop :∀(H:Hp) (ns:List Nat) (n:Nat),look (drop H ns) n=if n∈ns then none else look H n
 |[],ns,n=>by simp[drop,look]
 |(m,e)::r,ns,n=>by
  unfold drop
  cases hm:mem ns m with
  |true=>
   simp only[look_drop r ns n,look_cons]
   have hm':=(mem_iff ns m).1 hm
   by_cases h:n∈ns
   ·simp[h]
   ·have:n≠m:=fun e=>h (e▸hm')
    simp[h,this]
  |false=>
   have hm':¬m∈ns:=fun h=>by simp[(mem_iff ns m).2 h]at hm
   simp only[look_cons,look_drop r ns n]
   by_cases h:n=m
   ·subst h;simp[hm']
   ·simp[h]
theorem look_sets :∀(H S:Hp) (n:Nat),look (sets H S) n=match look H n,look S n with|some _,some e'=>some e'|x,_=>x
 |[],S,n=>by simp[sets,look]
 |(m,e)::r,S,n=>by
  unfold sets
  cases hS:look S m with
  |some e'=>
   simp only[look_cons,look_sets r S n]
   by_cases h:n=m
   ·subst h;simp[hS]
   ·simp[h]
  |none=>
   simp only[look_cons,look_sets r S n]
   by_cases h:n=m
   ·subst h;simp[hS]
   ·simp[h]
def AV.leaves :AV→List Lf
 | .v _ ls=>ls
 | .tup vs=>flatA vs
 | .undef=>[]
 | .anyb=>[]
def St.has (σ:St)(l:Lf):Prop:=(∃t av,look σ.tmps t=some av∧l∈av.leaves)∨(∃n ls,look σ.heap n=some (.box ls)∧l∈ls)
theorem lsSay_mem {n:Nat}:∀{ls:List Lf},lsSay n ls=false→∀l∈ls,l.says n=false
 |[],_,l,hl=>by cases hl
 |m::ls,h,l,hl=>by
  simp only[lsSay,Bool.or_eq_false_iff]at h
  rcases List.mem_cons.1 hl with rfl|hl
  ·exact h.1
  ·exact lsSay_mem h.2 l hl
theorem vsSay_mem {n:Nat}:∀{vs:List (Bool×List Lf)},vsSay n vs=false→∀l∈flatA vs,l.says n=false
 |[],_,l,hl=>by cases hl
 |(g,ls)::vs,h,l,hl=>by
  simp only[vsSay,Bool.or_eq_false_iff]at h
  rcases List.mem_append.1 hl with hl|hl
  ·exact lsSay_mem h.1 l hl
  ·exact vsSay_mem h.2 l hl
theorem tmpsSay_look {n:Nat}:∀{ts:List (Nat×AV)},tmpsSay n ts=false→∀t av,look ts t=some av→av.says n=false
 |[],_,t,av,h=>by simp[look]at h
 |(m,a)::ts,h,t,av,hl=>by
  simp only[tmpsSay,Bool.or_eq_false_iff]at h
  rw[look_cons]at hl
  by_cases e:t=m
  ·simp[e]at hl;subst hl;exact h.1
  ·simp[e]at hl;exact tmpsSay_look h.2 t av hl
theorem heapSay_look {n:Nat}:∀{H:Hp},heapSay n H=false→look H n=none∧∀m e,look H m=some e→e.says n=false
 |[],_=>⟨rfl,fun m e h=>by simp[look]at h⟩
 |(m,a)::ts,h=>by
  simp only[heapSay,Bool.or_eq_false_iff]at h
  obtain⟨⟨h1,h2⟩,h3⟩:=h
  obtain⟨h4,h5⟩:=heapSay_look h3
  have hne:n≠m:=fun e=>by subst e;simp at h1
  refine⟨by rw[look_cons];simp[hne,h4],fun k e hl=> ?_⟩
  rw[look_cons]at hl
  by_cases e':k=m
  ·simp[e']at hl;subst hl;exact h2
  ·simp[e']at hl;exact h5 k e hl
theorem St.fresh_spec {σ:St}{n:Nat}(h:σ.fresh n=true):look σ.heap n=none∧∀l,σ.has l→l.says n=false:=by
 simp only[St.fresh,Bool.and_eq_true,Bool.not_eq_true']at h
 obtain⟨h1,h2⟩:=h
 obtain⟨h3,h4⟩:=heapSay_look h2
 refine⟨h3,fun l hl=> ?_⟩
 rcases hl with⟨t,av,ht,hl⟩|⟨m,ls,hm,hl⟩
 ·have:=tmpsSay_look h1 t av ht
  cases av with
  |v g ls=>exact lsSay_mem this l hl
  |tup vs=>exact vsSay_mem this l hl
  |undef=>cases hl
  |anyb=>cases hl
 ·exact lsSay_mem (h4 m _ hm) l hl
theorem capsSay {n:Nat}{caps:List Nat}(h:mem caps n=false):n∉caps:=fun hm=>by simp[(mem_iff caps n).2 hm]at h
theorem Lf.rel_keep {c c':Cc}{w w':World}{R R':Cls}{H H':Hp}(hR:∀b,R b→w'.heap[b]? =w.heap[b]?)(hR':∀b,R b→R' b)
 (l:Lf) (v:Value)
 (hk:∀n e',l.says n=true→look H' n=some e'→look H n=some e'∧c'.at_ n=c.at_ n∧(∀b o,c.at_ n=some (b,o)→w'.heap[b]? =w.heap[b]?))
 (h:l.rel c w R H v):l.rel c' w' R' H' v:=by
 cases l with
 |val g=>exact Sg.ro_same hR hR' h
 |nil0=>exact h
 |ref n=>
  intro T d xs hl
  obtain⟨h1,h2,h3⟩:=hk n _ (by simp[Lf.says]) hl
  have h4:=h T d xs h1
  rw[h2]
  cases hz:c.at_ n with
  |none=>rw[hz]at h4;exact h4
  |some z=>
   rw[hz]at h4
   obtain⟨cp,hv,hle,hb⟩:=h4
   exact⟨cp,hv,hle,hb.same (h3 z.1 z.2 hz)⟩
 |pref n i j=>
  intro T d xs hl
  obtain⟨h1,h2,h3⟩:=hk n _ (by simp[Lf.says]) hl
  obtain⟨h4,h5,h6,b,o,h7,h8⟩:=h T d xs h1
  exact⟨h4,h5,h6,b,o,h2.trans h7,(cell_same (h3 b o h7)).trans h8⟩
 |ptr n off=>
  intro ls hl
  obtain⟨h1,h2,h3⟩:=hk n _ (by simp[Lf.says]) hl
  obtain⟨b,h4,h5⟩:=h ls h1
  exact⟨b,h2.trans h4,h5⟩
 |eptr n i j=>
  intro T d xs hl
  obtain⟨h1,h2,h3⟩:=hk n _ (by simp[Lf.says]) hl
  obtain⟨h4,b,o,h5,h6⟩:=h T d xs h1
  exact⟨h4,b,o,h2.trans h5,h6⟩
 |rptr p j=>
  obtain⟨b,o,hv,hb,hr⟩:=h
  exact⟨b,o,hv,hR' b hb,ETy.ro_same hR hR' p.T p.x b o (hR b hb) hr⟩
 |fnl f caps=>
  obtain⟨vs,hv,hc⟩:=h
  refine⟨vs,hv,All2.mono_mem (fun n v hn hq ls hl=> ?_) hc⟩
  obtain⟨h1,h2,h3⟩:=hk n _ (by simp[Lf.says,(mem_iff caps n).2 hn]) hl
  obtain⟨b,h4,h5⟩:=hq ls h1
  exact⟨b,h2.trans h4,h5⟩
 |nilp=>exact h
 |dead=>trivial
theorem V1.rel_imp {c c':Cc}{w w':World}{R R':Cls}{H H':Hp}{g:Bool}{ls:List Lf}{v:Value}(hk:∀l v,l∈ls→l.rel c w R H v→l.rel c' w' R' H' v)
 (h:V1.rel c w R H g ls v):V1.rel c' w' R' H' g ls v:=by
 cases g with
 |false=>
  obtain⟨l,rfl,h⟩:=h
  exact⟨l,rfl,hk l v (by simp) h⟩
 |true=>
  obtain⟨vs,rfl,h⟩:=h
  exact⟨vs,rfl,All2.mono_mem (fun a b ha hq=>hk a b ha hq) h⟩
theorem mem_flatA {l:Lf}:∀{vs:List (Bool×List Lf)} {p:Bool×List Lf},p∈vs→l∈p.2→l∈flatA vs
 |(g,ls)::r,p,hp,hl=>by
  rcases List.mem_cons.1 hp with rfl|hp
  ·exact List.mem_append.2 (.inl hl)
  ·exact List.mem_append.2 (.inr (mem_flatA hp hl))
theorem AV.rel_imp {c c':Cc}{w w':World}{R R':Cls}{H H':Hp}{av:AV}{y:Value}(hk:∀l v,l∈av.leaves→l.rel c w R H v→l.rel c' w' R' H' v)
 (h:av.rel c w R H y):av.rel c' w' R' H' y:=by
 cases av with
 |v g ls=>exact V1.rel_imp (ls:=ls) hk h
 |tup ps=>
  obtain⟨vs,hv,h⟩:=h
  exact⟨vs,hv,All2.mono_mem (fun p v hp hq=>V1.rel_imp (fun l v hl=>hk l v (mem_flatA hp hl)) hq) h⟩
 |undef=>exact h
 |anyb=>exact h
theorem rowRo_same {w w':World}{R R':Cls}{T:ETy}{b o:Nat}{xs:List T.den}(hR:∀b,R b→w'.heap[b]? =w.heap[b]?)(hR':∀b,R b→R' b)(hb:w'.heap[b]? =w.heap[b]?)
 (h:∀i x,nth xs i=some x→ETy.ro w R T x b (o+i*T.len)):∀i x,nth xs i=some x→ETy.ro w' R' T x b (o+i*T.len):=
 fun i x hx=>ETy.ro_same hR hR' T x b _ hb (h i x hx)
theorem Rel.change {F:Fr}{c c':Cc}{w w':World}{R R':Cls}{σ:St}{a:Act}{H':Hp}(h:Rel F c w R σ a)(new:Nat→Prop)
 (hR:∀b,R b→w'.heap[b]? =w.heap[b]?) (hR':∀b,R b→R' b) (hl':∀b,R' b→b<w'.heap.size) (hl2:∀b,R' b→R b∨F.w0.heap.size≤b∨b∈F.W)
 (kept:∀n e,look H' n=some e→¬new n→look σ.heap n=some e∧c'.at_ n=c.at_ n∧c'.fp n=c.fp n∧∀b∈c.fp n,w'.heap[b]? =w.heap[b]? ∧¬R' b)
 (fresh:∀n e,look H' n=some e→new n→e.rel c' w' R' H' n∧(c'.fp n).Nodup∧(∀b∈c'.fp n,¬R' b∧(b∈F.W∨F.w0.heap.size≤b)))
 (apart:∀n e m e',n≠m→look H' n=some e→look H' m=some e'→new n→∀b∈c'.fp n,b∉c'.fp m)
 (says:∀l v,(σ.has l∨F.has l)→(∃n,new n∧l.says n=true)→l.rel c w R σ.heap v→l.rel c' w' R' H' v)
 (sz:w.heap.size≤w'.heap.size) (sh:∀b n,blk w b n→blk w' b n) (fr:∀b,b<F.w0.heap.size→b∉F.W→w'.heap[b]? =w.heap[b]?)
 (os:w'.os=w.os) (out:w'.output=w.output) (tape:w'.tape=w.tape)
 (kn:∀p v ls',new p→look F.io p=some v→look H' p=some (.box ls')→∃ls,look σ.heap p=some (.box ls)∧c'.at_ p=c.at_ p∧∀(j:Nat) (g:Sg),ls[j]? =some (.val g)→g.t.flat=false→ls'[j]? =some (.val g)∧∀b,c.at_ p=some (b,0)→w'.cell? ⟨b,j,none⟩=w.cell? ⟨b,j,none⟩):Rel F c' w' R' ⟨σ.tmps,H'⟩ a:=by
 have hleaf:∀(l:Lf) (v:Value),(σ.has l∨F.has l)→l.rel c w R σ.heap v→l.rel c' w' R' H' v:=by
  intro l v hl hv
  by_cases hn:∃n,new n∧l.says n=true
  ·exact says l v hl hn hv
  ·refine Lf.rel_keep hR hR' l v (fun n e' hs he=> ?_) hv
   obtain⟨h1,h2,h3,h4⟩:=kept n e' he (fun hnew=>hn ⟨n,hnew,hs⟩)
   refine⟨h1,h2,fun b o hb=> ?_⟩
   have he':=h.hp n e' h1
   have hbf:b∈c.fp n:=by
    cases e' with
    |box ls=>
     obtain⟨b',vs,e,h5,h6,_⟩:=he'
     rw[hb]at h5
     cases h5
     rw[h6];simp
    |row T d xs=>
     cases d with
     |true=>
      simp only[Ent.rel,hb]at he'
      obtain⟨fr,h6,_⟩:=he'
      rw[h6];simp
     |false=>
      simp only[Ent.rel,hb]at he'
      rw[he'.1];simp
   exact(h4 b hbf).1
 have hkept:∀n e,look H' n=some e→¬new n→e.rel c' w' R' H' n:=by
  intro n e he hn
  obtain⟨h1,h2,h3,h4⟩:=kept n e he hn
  have he':=h.hp n e h1
  cases e with
  |box ls=>
   obtain⟨b,vs,e,h5,h6,h7,h8⟩:=he'
   refine⟨b,vs,e,h2.trans h5,h3.trans h6,?_,All2.mono_mem (fun l v hl hq=>hleaf l v (.inl (.inr ⟨n,ls,h1,hl⟩)) hq) h8⟩
   rw[(h4 b (by rw[h6];simp)).1];exact h7
  |row T d xs=>
   cases d with
   |true=>
    simp only[Ent.rel,h2]at he'⊢
    cases hz:c.at_ n with
    |none=>rw[hz]at he';exact⟨he'.1,h3.trans he'.2⟩
    |some z=>
     rw[hz]at he'
     obtain⟨fr,h5,h6,h7⟩:=he'
     have hb:=(h4 z.1 (by rw[h5];simp)).1
     exact⟨fr,h3.trans h5,h6.same hb,rowOwn_mono (fun x o f hf hq=>ETy.own_same T x z.1 o f hb (fun b' hb'=>(h4 b' (by rw[h5];simp[hf b' hb'])).1) hq) h7⟩
   |false=>
    simp only[Ent.rel,h2]at he'⊢
    cases hz:c.at_ n with
    |none=>rw[hz]at he';exact⟨he'.1,h3.trans he'.2⟩
    |some z=>
     rw[hz]at he'
     obtain⟨h5,h6,h7⟩:=he'
     have hb:=(h4 z.1 (by rw[h5];simp)).1
     exact⟨h3.trans h5,h6.same hb,rowRo_same hR hR' hb h7⟩
 constructor
 ·intro t av hl
  obtain⟨v,h1,h2⟩:=h.tm t av hl
  exact⟨v,h1,AV.rel_imp (fun l v hm hq=>hleaf l v (.inl (.inl ⟨t,av,hl,hm⟩)) hq) h2⟩
 ·intro n e he
  by_cases hn:new n
  ·exact(fresh n e he hn).1
  ·exact hkept n e he hn
 ·intro n e he
  by_cases hn:new n
  ·exact(fresh n e he hn).2.1
  ·obtain⟨h1,h2,h3,h4⟩:=kept n e he hn
   rw[h3];exact h.nd n e h1
 ·intro n e m e' hne he hm b hb hb'
  by_cases hn:new n
  ·exact apart n e m e' hne he hm hn b hb hb'
  ·by_cases hm':new m
   ·exact apart m e' n e (Ne.symm hne) hm he hm' b hb' hb
   ·obtain⟨h1,h2,h3,h4⟩:=kept n e he hn
    obtain⟨k1,k2,k3,k4⟩:=kept m e' hm hm'
    rw[h3]at hb
    rw[k3]at hb'
    exact h.dj n e m e' hne h1 k1 b hb hb'
 ·intro n e he b hb
  by_cases hn:new n
  ·exact(fresh n e he hn).2.2 b hb
  ·obtain⟨h1,h2,h3,h4⟩:=kept n e he hn
   rw[h3]at hb
   exact⟨(h4 b hb).2,(h.nr n e h1 b hb).2⟩
 ·exact hl'
 ·exact Nat.le_trans h.sz sz
 ·intro b hb hW
  rw[fr b hb hW];exact h.fr b hb hW
 ·exact fun b n hb=>sh b n (h.sh b n hb)
 ·rw[os];exact h.os
 ·rw[out];exact h.out
 ·rw[tape];exact h.tape
 ·exact h.df
 ·exact h.nt
 ·intro p v hp
  obtain⟨h1,h2⟩:=h.io p v hp
  exact⟨hleaf _ v (.inr ⟨p,v,hp, .inl rfl⟩) h1,hleaf _ v (.inr ⟨p,v,hp, .inr rfl⟩) h2⟩
 ·exact fun b hb=>hR' b (h.rr b hb)
 ·intro b hb
  rcases hl2 b hb with hb|hb
  ·exact h.rn b hb
  ·exact .inr hb
 ·intro p v hp ls' hl' j hj
  by_cases hn:new p
  ·obtain⟨ls,k1,k2,k3⟩:=kn p v ls' hn hp hl'
   obtain⟨⟨g,g1,g2⟩,k4⟩:=h.kc p v hp ls k1 j hj
   obtain⟨k5,k6⟩:=k3 j g g1 g2
   refine⟨⟨g,k5,g2⟩,fun b hb=> ?_⟩
   rw[k2]at hb
   exact(k6 b hb).trans (k4 b hb)
  ·obtain⟨h1,h2,h3,h4⟩:=kept p _ hl' hn
   obtain⟨k3,k4⟩:=h.kc p v hp ls' h1 j hj
   refine⟨k3,fun b hb=> ?_⟩
   rw[h2]at hb
   obtain⟨b',vs,e,q1,q2,_⟩:=h.hp p _ h1
   rw[hb]at q1
   cases q1
   exact(cell_same (h4 b (by rw[q2];simp)).1).trans (k4 b hb)
theorem Rel.put {F:Fr}{c:Cc}{w:World}{R:Cls}{σ:St}{a:Act}{dst:Option Nat}{av:AV}{v:Value}(h:Rel F c w R σ a)(hd:dstOk F.nt dst=true)(hv:dst.isSome=true→av.rel c w R σ.heap v):
 Rel F c w R ⟨σ.put dst av,σ.heap⟩ (a.put dst v):=by
 cases dst with
 |none=>exact{h with}
 |some d=>
  have hd':d<F.nt:=by simpa [dstOk,Nat.blt_eq]using hd
  refine{h with tm:= ?_,nt:= ?_}
  ·intro t av' hl
   simp only[St.put,look_cons]at hl
   by_cases e:t=d
   ·simp[e]at hl
    subst hl
    refine⟨v,?_,hv rfl⟩
    subst e
    simp[Act.put,h.nt,hd']
   ·simp[e]at hl
    obtain⟨v',h1,h2⟩:=h.tm t av' hl
    refine⟨v',?_,h2⟩
    simp only[Act.put]
    rw[Array.getElem?_setIfInBounds_ne (Ne.symm e)]
    exact h1
  ·simp[Act.put,h.nt]
def zl :Lf→Value→Bool
 | .val (.int k n), .int k' m=>decide (k=k')&&decide (n=m)
 | .val (.bool b), .bool b'=>b==b'
 | .val (.str s), .string s'=>decide (s.data=s'.data)
 | .nil0, .slice none 0 0=>true
 | .nilp, .pointer none=>true
 | .dead,v=>v.oneCell'
 |_,_=>false
def sgZ :Sg→Value→Bool
 | .int k n, .int k' m=>decide (k=k')&&decide (n=m)
 | .bool b, .bool b'=>b==b'
 | .str s, .string s'=>decide (s.data=s'.data)
 | .sl _ xs, .slice none 0 0=>match xs with|[]=>true|_=>false
 |_,_=>false
def all2 {α β:Type}(q:α→β→Bool):List α→List β→Bool
 |[],[]=>true
 |a::r,b::s=>q a b&&all2 q r s
 |_,_=>false
theorem all2_All2 {α β:Type}{q:α→β→Bool}{Q:α→β→Prop}(h:∀a b,q a b=true→Q a b):∀{l:List α} {m:List β},all2 q l m=true→All2 Q l m
 |[],[],_=>trivial
 |a::r,b::s,hq=>by
  simp only[all2,Bool.and_eq_true]at hq
  exact⟨h a b hq.1,all2_All2 h hq.2⟩
 |[],_::_,hq=>by simp[all2]at hq
 |_::_,[],hq=>by simp[all2]at hq
def descAgg :TypeDesc→Bool
 | .struct _| .array _ _=>true
 |_=>false
def fieldChk (P:Program)(x:Nat×Nat×Bool)(f:Field):Bool:=
 match P.underlying f.type,P.info? f.type with
 |some d,some i=>decide (f.offset=x.1)&&decide (i.size=x.2.1)&&decide (1≤x.2.1)&&(descAgg d==x.2.2)
 |_,_=>false
def scalarChk (P:Program):Nat→List Field→List Value→Bool
 |_,[],[]=>true
 |j,f::fs,z::zs=>
  decide (f.offset=j)&& !(f.name== "_")&&(match P.underlying f.type,z with|some (.int _), .int _ _=>true|some .bool, .bool _=>true|some .string, .string _=>true|_,_=>false)&&scalarChk P (j+1) fs zs
 |_,_,_=>false
def tiChk (P:Program)(t:Nat)(i:TI):Bool:=
 match P.underlying t,P.info? t with
 |some d,some info=>
  (match i.k,d with
   | .int k, .int k'=>decide (k=k')
   | .bool, .bool=>true
   | .str, .string=>true
   | .sl e, .slice e'=>decide (e=e')
   | .st, .struct fs=>all2 (fieldChk P) i.fields fs.toList&& !(P.stoodInHeld t)&&(!i.eq||((match info.zero with|some z=>scalarChk P 0 fs.toList z.cells.toList|none=>false)&& !(P.eqGuardType P.depth t)))
   | .oth, .pointer _=>true
   | .oth, .func _ _ _=>true
   |_,_=>false)&&(i.k.agg|| !i.eq)&&
  (i.k.agg||i.fields.isEmpty)&&decide (info.size=i.zero.length)&&decide (info.bytes=i.bytes)&&decide (1≤info.size)&&
  (match info.zero with
   |some z=>(match z,i.k.agg with| .agg _,true=>true| .tuple _,_=>false| .agg _,false=>false|_,g=> !g)&&all2 zl i.zero z.cells.toList&&(decide (i.T.len=0)||all2 sgZ (i.T.sgs i.T.dflt) z.cells.toList)
   |none=>false)
 |_,_=>false
structure TiOk (P:Program)(t:Nat)(i:TI):Prop where
 und:∃d,P.underlying t=some d∧descAgg d=i.k.agg∧(∀k,i.k= .int k→d= .int k)∧(i.k= .str→d= .string)∧(∀e,i.k= .sl e→d= .slice e)∧(∀e,d= .slice e→i.k= .sl e)∧
  (i.k= .st→∃fs,d= .struct fs∧P.stoodInHeld t=false∧fs.size=i.fields.length∧∀(j:Nat) (x:Nat×Nat×Bool),i.fields[j]? =some x→∃f d' i',fs[j]? =some f∧P.underlying f.type=some d'∧P.info? f.type=some i'∧f.offset=x.1∧i'.size=x.2.1∧1≤x.2.1∧descAgg d'=x.2.2)
 fld:i.k.agg=true∨i.fields=[]
 zs:∀l∈i.zero,∀n,l.says n=false
 bl:i.k= .bool→P.underlying t=some .bool
 eqs:i.eq=true→∃fs zs,P.underlying t=some (.struct fs)∧P.stoodInHeld t=false∧fs.size=i.fields.length∧scalarChk P 0 fs.toList zs=true∧all2 zl i.zero zs=true∧P.eqGuardType P.depth t=false
 info:∃info z,P.info? t=some info∧info.size=i.zero.length∧info.bytes=i.bytes∧1≤i.zero.length∧info.zero=some z∧z.cells.size=i.zero.length∧
  (∀u∈z.cells.toList,u.oneCell'=true)∧
  (∀c w R H,All2 (Lf.rel c w R H) i.zero z.cells.toList)∧(i.T.len≠0→i.T.len=i.zero.length∧All2 (fun g v=>sgZ g v=true) (i.T.sgs i.T.dflt) z.cells.toList)
theorem zl_rel {l:Lf}{v:Value}(h:zl l v=true)(c:Cc)(w:World)(R:Cls)(H:Hp):l.rel c w R H v∧v.oneCell'=true:=by
 cases l with
 |val g=>
  cases g<;>cases v<;>simp[zl]at h
  ·obtain⟨rfl,rfl⟩:=h;exact⟨rfl,rfl⟩
  ·subst h;exact⟨rfl,rfl⟩
  ·rename_i s s'
   have:s=s':=by cases s;cases s';simp at h;rw[h]
   subst this
   exact⟨rfl,rfl⟩
 |nil0=>
  cases v with
  |slice a n m=>
   cases a with
   |none=>
    cases n with
    |zero=>cases m with|zero=>exact⟨⟨none,rfl⟩,rfl⟩|succ m=>simp[zl]at h
    |succ n=>simp[zl]at h
   |some a=>simp[zl]at h
  |_=>simp[zl]at h
 |nilp=>
  cases v with
  |pointer a=>cases a with|none=>exact⟨rfl,rfl⟩|some a=>simp[zl]at h
  |_=>simp[zl]at h
 |dead=>exact⟨trivial,h⟩
 |_=>simp[zl]at h
theorem tiOk {P:Program}{t:Nat}{i:TI}(h:tiChk P t i=true):TiOk P t i:=by
 unfold tiChk at h
 split at h
 case h_2=>cases h
 rename_i d info hd hi
 simp only[Bool.and_eq_true,decide_eq_true_eq]at h
 obtain⟨⟨⟨⟨⟨⟨hk,heq⟩,hfl⟩,hs⟩,hb⟩,h1⟩,hz⟩:=h
 constructor
 ·refine⟨d,hd,?_⟩
  cases hik:i.k with
  |int k=>cases d<;>simp[hik]at hk;subst hk;simp[descAgg,Tk.agg]
  |bool=>cases d<;>simp[hik]at hk;simp[descAgg,Tk.agg]
  |str=>cases d<;>simp[hik]at hk;simp[descAgg,Tk.agg]
  |sl e=>cases d<;>simp[hik]at hk;subst hk;simp[descAgg,Tk.agg]
  |st=>
   cases d<;>simp[hik]at hk
   rename_i fs
   obtain⟨⟨hk,hst⟩,hsc⟩:=hk
   refine⟨by simp[descAgg,Tk.agg],by simp,by simp,by simp,by simp,fun _=>⟨fs,rfl,hst,?_,?_⟩⟩
   ·have:=(all2_All2 (Q:=fun _ _=>True) (fun _ _ _=>trivial) hk).length
    simpa using this.symm
   ·intro j x hx
    obtain⟨f,hf,hc⟩:=(all2_All2 (Q:=fun x f=>fieldChk P x f=true) (fun _ _ h=>h) hk).get j x hx
    unfold fieldChk at hc
    split at hc
    case h_2=>cases hc
    rename_i d' i' hd' hi'
    simp only[Bool.and_eq_true,decide_eq_true_eq,beq_iff_eq]at hc
    exact⟨f,d',i',by simpa using hf,hd',hi',hc.1.1.1,hc.1.1.2,hc.1.2,hc.2⟩
  |oth=>cases d<;>simp[hik]at hk<;>simp[descAgg,Tk.agg]
 ·simpa using hfl
 ·have key:∀(ls:List Lf) (vs:List Value),all2 zl ls vs=true→∀l∈ls,∀n,l.says n=false:=by
   intro ls
   induction ls with
   |nil=>intro vs _ l hl;cases hl
   |cons l0 ls ih=>
    intro vs hv l hl n
    cases vs with
    |nil=>simp[all2]at hv
    |cons v vs=>
     simp only[all2,Bool.and_eq_true]at hv
     rcases List.mem_cons.1 hl with rfl|hl
     ·cases l<;>first|rfl|(simp[zl]at hv)
     ·exact ih vs hv.2 l hl n
  cases hzz:info.zero with
  |none=>simp[hzz]at hz
  |some z=>
   simp only[hzz,Bool.and_eq_true]at hz
   exact key _ _ hz.1.2
 ·intro hb'
  rw[hd]
  cases d<;>simp[hb']at hk
  rfl
 ·intro he
  rw[he]at heq
  cases hik:i.k with
  |st=>
   cases d<;>simp[hik]at hk
   rename_i fs
   obtain⟨⟨hk,hst⟩,hsc⟩:=hk
   have hlen:=(all2_All2 (Q:=fun _ _=>True) (fun _ _ _=>trivial) hk).length
   rcases hsc with hsc|hsc
   ·rw[he]at hsc;cases hsc
   ·obtain⟨hsc,hg⟩:=hsc
    split at hsc
    ·rename_i z hz'
     rw[hz']at hz
     simp only[Bool.and_eq_true]at hz
     exact⟨fs,z.cells.toList,hd,hst,by simpa using hlen.symm,hsc,hz.1.2,hg⟩
    ·cases hsc
  |_=>simp[hik,Tk.agg]at heq
 ·cases hzz:info.zero with
  |none=>simp[hzz]at hz
  |some z=>
   simp only[hzz,Bool.and_eq_true,Bool.or_eq_true,decide_eq_true_eq]at hz
   obtain⟨⟨ha,hz⟩,hT⟩:=hz
   have hlen:=(all2_All2 (Q:=fun _ _=>True) (fun _ _ _=>trivial) hz).length
   have hone:∀u∈z.cells.toList,u.oneCell'=true:=by
    have:∀(l:List Lf) (m:List Value),all2 zl l m=true→∀u∈m,u.oneCell'=true:=by
     intro l
     induction l with
     |nil=>intro m hm u hu;cases m with|nil=>cases hu|cons _ _=>simp[all2]at hm
     |cons a l ih=>
      intro m hm u hu
      cases m with
      |nil=>cases hu
      |cons b m=>
       simp only[all2,Bool.and_eq_true]at hm
       rcases List.mem_cons.1 hu with rfl|hu
       ·exact(zl_rel hm.1 ⟨fun _=>none,fun _=>[]⟩ default (fun _=>False) []).2
       ·exact ih m hm.2 u hu
    exact this _ _ hz
   refine⟨info,z,hi,hs,hb,by omega,hzz,by simpa using hlen.symm,hone,fun c w R H=>all2_All2 (fun l v h=>(zl_rel h c w R H).1) hz,fun hT0=> ?_⟩
   rcases hT with hT|hT
   ·exact absurd hT hT0
   ·have h2:=all2_All2 (Q:=fun g v=>sgZ g v=true) (fun _ _ h=>h) hT
    exact⟨by rw[←ETy.sgs_length i.T i.T.dflt,h2.length,←hlen],h2⟩
inductive Md where
 |ro|own|box (ow:Bool)|gone|boxo
def Sg.own (w:World):Sg→Value→List Nat→Prop
 | .int k n,v,fp=>v= .int k n∧fp=[]
 | .bool b,v,fp=>v= .bool b∧fp=[]
 | .str s,v,fp=>v= .string s∧fp=[]
 | .sl T xs,v,fp=>LTy.own w (.sl T) xs v fp
 | .ptr ..,_,_=>False
 | .fn ..,_,_=>False
theorem LTy.own_sg {w:World}{t:LTy}{x:t.den}{v:Value}{fp:List Nat}:LTy.own w t x v fp↔(t.sg x).own w v fp:=by
 cases t<;>rfl
theorem Sg.own_ro {w:World}{R:Cls}{g:Sg}{v:Value}{fp:List Nat}(hf:∀b∈fp,R b)(h:g.own w v fp):g.ro w R v:=by
 cases g with
 |int|bool|str=>exact h.1
 |sl T xs=>exact LTy.own_ro (.sl T) xs v fp hf h
 |ptr=>exact h.elim
 |fn=>exact h.elim
theorem Sg.own_same {w w':World}{g:Sg}{v:Value}{fp:List Nat}(hs:∀b∈fp,w'.heap[b]? =w.heap[b]?)(h:g.own w v fp):g.own w' v fp:=by
 cases g with
 |int|bool|str=>exact h
 |sl T xs=>exact LTy.own_same (.sl T) xs v fp hs h
 |ptr=>exact h
 |fn=>exact h
theorem Sg.own_lt {w:World}{g:Sg}{v:Value}{fp:List Nat}(h:g.own w v fp):∀b∈fp,b<w.heap.size:=by
 cases g with
 |int|bool|str=>intro b hb;rw[h.2]at hb;cases hb
 |sl T xs=>exact LTy.own_lt (.sl T) xs v fp h
 |ptr=>exact h.elim
 |fn=>exact h.elim
theorem Sg.own_one {w:World}{g:Sg}{v:Value}{fp:List Nat}(h:g.own w v fp):v.oneCell'=true:=
 Sg.ro_one (R:=fun _=>True) (Sg.own_ro (fun _ _=>trivial) h)
def cellsOwn (w:World):List Sg→Nat→Nat→List Nat→Prop
 |[],_,_,fp=>fp=[]
 |g::gs,b,o,fp=>∃f1 f2,fp=f1++f2∧(∃v,w.cell? ⟨b,o,none⟩=some v∧g.own w v f1)∧cellsOwn w gs b (o+1) f2
theorem ETy.own_iff {w:World}{b:Nat}:∀(T:ETy) (x:T.den) (o:Nat) (fp:List Nat),ETy.own w T x b o fp↔cellsOwn w (T.sgs x) b o fp
 | .nil,x,o,fp=>Iff.rfl
 | .cons t .nil,x,o,fp=>by
   constructor
   ·rintro⟨v,hc,hv⟩
    exact⟨fp,[],by simp,⟨v,hc,LTy.own_sg.1 hv⟩,rfl⟩
   ·rintro⟨f1,f2,rfl,⟨v,hc,hv⟩,rfl⟩
    exact⟨v,hc,by simpa using LTy.own_sg.2 hv⟩
 | .cons t (.cons u ts),x,o,fp=>by
   constructor
   ·rintro⟨f1,f2,rfl,⟨v,hc,hv⟩,hr⟩
    exact⟨f1,f2,rfl,⟨v,hc,LTy.own_sg.1 hv⟩,(ETy.own_iff (.cons u ts) x.2 (o+1) f2).1 hr⟩
   ·rintro⟨f1,f2,rfl,⟨v,hc,hv⟩,hr⟩
    exact⟨f1,f2,rfl,⟨v,hc,LTy.own_sg.2 hv⟩,(ETy.own_iff (.cons u ts) x.2 (o+1) f2).2 hr⟩
theorem cellsOwn_same {w w':World}:∀{gs:List Sg} {b o:Nat} {fp:List Nat},w'.heap[b]? =w.heap[b]? →(∀b∈fp,w'.heap[b]? =w.heap[b]?)→cellsOwn w gs b o fp→cellsOwn w' gs b o fp
 |[],_,_,_,_,_,h=>h
 |g::gs,b,o,fp,hb,hs,h=>by
  obtain⟨f1,f2,rfl,⟨v,hc,hv⟩,hr⟩:=h
  exact⟨f1,f2,rfl,⟨v,(cell_same hb).trans hc,Sg.own_same (fun b hb=>hs b (by simp[hb])) hv⟩,cellsOwn_same hb (fun b hb=>hs b (by simp[hb])) hr⟩
theorem cellsOwn_ro {w:World}{R:Cls}:∀{gs:List Sg} {b o:Nat} {fp:List Nat},(∀b∈fp,R b)→cellsOwn w gs b o fp→cellsRo w R gs b o
 |[],_,_,_,_,_=>fun j g h=>by simp at h
 |g::gs,b,o,fp,hf,h=>by
  obtain⟨f1,f2,rfl,⟨v,hc,hv⟩,hr⟩:=h
  intro j g' hg
  cases j with
  |zero=>simp at hg;subst hg;exact⟨v,hc,Sg.own_ro (fun b hb=>hf b (by simp[hb])) hv⟩
  |succ j=>
   have:=cellsOwn_ro (R:=R) (fun b hb=>hf b (by simp[hb])) hr j g' (by simpa using hg)
   rw[show o+(j+1)=o+1+j by omega]
   exact this
theorem cellsOwn_lt {w:World}:∀{gs:List Sg} {b o:Nat} {fp:List Nat},cellsOwn w gs b o fp→∀b∈fp,b<w.heap.size
 |[],_,_,_,h,b,hb=>by rw[h]at hb;cases hb
 |g::gs,b,o,fp,h,b',hb=>by
  obtain⟨f1,f2,rfl,⟨v,hc,hv⟩,hr⟩:=h
  rcases List.mem_append.1 hb with hb|hb
  ·exact Sg.own_lt hv b' hb
  ·exact cellsOwn_lt hr b' hb
theorem cellsRo_same {w w':World}{R R':Cls}{gs:List Sg}{b o:Nat}(hs:∀b,R b→w'.heap[b]? =w.heap[b]?)(hR:∀b,R b→R' b)(hb:w'.heap[b]? =w.heap[b]?)(h:cellsRo w R gs b o):cellsRo w' R' gs b o:=by
 intro j g hg
 obtain⟨v,hc,hv⟩:=h j g hg
 exact⟨v,(cell_same hb).trans hc,Sg.ro_same hs hR hv⟩
def Sg.rel (w:World)(R:Cls):Md→Sg→Value→List Nat→Prop
 | .ro,g,v,fp=>g.ro w R v∧fp=[]
 | .own,g,v,fp=>g.own w v fp
 | .box true, .ptr T x,v,fp=>∃b vs e fr,v= .pointer (some ⟨b,0,none⟩)∧w.heap[b]? =some (.cells vs e (0,0))∧vs.size=T.len∧fp=b::fr∧cellsOwn w (T.sgs x) b 0 fr
 | .box false, .ptr T x,v,fp=>∃b vs e,v= .pointer (some ⟨b,0,none⟩)∧w.heap[b]? =some (.cells vs e (0,0))∧vs.size=T.len∧fp=[b]∧cellsRo w R (T.sgs x) b 0
 | .box _,_,_,_=>False
 | .gone,_,v,fp=>v.oneCell'=true∧fp=[]
 | .boxo, .ptr T x,v,fp=>∃b vs e,v= .pointer (some ⟨b,0,none⟩)∧w.heap[b]? =some (.cells vs e (0,0))∧vs.size=T.len∧fp=[b]∧cellsRo w (fun _=>True) (T.sgs x) b 0
 | .boxo,_,_,_=>False
theorem Sg.rel_lt {w:World}{R:Cls}{m:Md}{g:Sg}{v:Value}{fp:List Nat}(h:g.rel w R m v fp):∀b∈fp,b<w.heap.size:=by
 cases m with
 |ro=>intro b hb;rw[h.2]at hb;cases hb
 |own=>exact Sg.own_lt h
 |gone=>intro b hb;rw[h.2]at hb;cases hb
 |boxo=>
  cases g with
  |ptr T x=>
   obtain⟨b,vs,e,rfl,hb,hl,rfl,hc⟩:=h
   intro b' hb'
   rcases List.mem_cons.1 hb' with rfl|hb'
   ·exact(Array.getElem?_eq_some_iff.1 hb).1
   ·cases hb'
  |_=>exact h.elim
 |box ow=>
  cases g with
  |ptr T x=>
   cases ow with
   |true=>
    obtain⟨b,vs,e,fr,rfl,hb,hl,rfl,hc⟩:=h
    intro b' hb'
    rcases List.mem_cons.1 hb' with rfl|hb'
    ·exact(Array.getElem?_eq_some_iff.1 hb).1
    ·exact cellsOwn_lt hc b' hb'
   |false=>
    obtain⟨b,vs,e,rfl,hb,hl,rfl,hc⟩:=h
    intro b' hb'
    rcases List.mem_cons.1 hb' with rfl|hb'
    ·exact(Array.getElem?_eq_some_iff.1 hb).1
    ·cases hb'
  |_=>cases ow<;>exact h.elim
theorem Sg.rel_one {w:World}{R:Cls}{m:Md}{g:Sg}{v:Value}{fp:List Nat}(h:g.rel w R m v fp):v.oneCell'=true:=by
 cases m with
 |ro=>exact Sg.ro_one h.1
 |own=>exact Sg.own_one h
 |gone=>exact h.1
 |boxo=>
  cases g with
  |ptr T x=>obtain⟨b,vs,e,rfl,_⟩:=h;rfl
  |_=>exact h.elim
 |box ow=>
  cases g with
  |ptr T x=>
   cases ow with
   |true=>obtain⟨b,vs,e,fr,rfl,_⟩:=h;rfl
   |false=>obtain⟨b,vs,e,rfl,_⟩:=h;rfl
  |_=>cases ow<;>exact h.elim
def relAll (w:World)(R:Cls):List (Md×Sg)→List Value→List Nat→Prop
 |[],[],fp=>fp=[]
 |(m,g)::r,v::vs,fp=>∃f1 f2,fp=f1++f2∧g.rel w R m v f1∧relAll w R r vs f2
 |_,_,_=>False
def argMds (io:List (Nat×Bool)):Nat→List Sg→List (Md×Sg)
 |_,[]=>[]
 |q,g::r=>((match look io q with|none=>Md.ro|some ow=>match g with| .ptr .. => .box ow|_=> .own),g)::argMds io (q+1) r
def resMds :List Bool→List Sg→List (Md×Sg)
 |_,[]=>[]
 |own,g::r=>((match own.headD false,g with|true, .sl .. =>Md.own|true, .ptr .. => .box false|_,_=> .ro),g)::resMds own.tail r
def ioMds :List (Nat×Bool)→List Sg→List (Md×Sg)
 |(_,ow)::r,g::gs=>((match g,ow with| .ptr ..,ow=> .box ow| .sl ..,true=> .gone|_,_=> .own),g)::ioMds r gs
 |_,_=>[]
def ioMdO :List (Nat×Bool)→List Sg→List (Md×Sg)
 |(_,ow)::r,g::gs=>((match g,ow with| .ptr ..,true=> .box true| .ptr ..,false=> .boxo| .sl ..,true=> .gone|_,_=> .own),g)::ioMdO r gs
 |_,_=>[]
def packV :List (Bool×Nat)→List Value→List Value
 |[],_=>[]
 |(g,n)::r,vs=>(match g with|true=> .agg (vs.take n).toArray|false=>vs.headD Go.undef)::packV r (vs.drop n)
def tupV :List Value→Value
 |[v]=>v
 |vs=> .tuple vs.toArray
def ioVals (io:List (Nat×Bool))(vs:List Value):List Value:=io.map fun p=>vs.getD p.1 Go.undef
structure Ext (W:List Nat)(w w':World):Prop where
 sz:w.heap.size≤w'.heap.size
 fr:∀b,b<w.heap.size→b∉W→w'.heap[b]? =w.heap[b]?
 sh:∀b n,blk w b n→blk w' b n
 os:w'.os=w.os
 out:w'.output=w.output
 tape:w'.tape=w.tape
def rsOk :List (Bool×Nat)→Nat→Bool
 |[],n=>Nat.beq n 0
 |(g,k)::r,n=>(g||Nat.beq k 1)&&Nat.ble k n&&rsOk r (n-k)
def keptIo (io:List (Nat×Bool))(gs:List Sg)(vs:List Value)(w w':World):Prop:=
 ∀(p:Nat) (T:ETy) (x:T.den) (b:Nat),look io p=some false→gs[p]? =some (.ptr T x)→vs.getD p Go.undef= .pointer (some ⟨b,0,none⟩)→∀(j:Nat) (g:Sg),(T.sgs x)[j]? =some g→g.t.flat=false→w'.cell? ⟨b,j,none⟩=w.cell? ⟨b,j,none⟩
structure Valid (P:Program)(g:Nat)(con:Con):Prop where
 fn:∃fn,P.funcs[g]? =some fn∧(fn.name== "runtime.NumGoroutine")=false∧fn.body.isNone=false
 rs:rsOk con.rs (con.B.len-con.io.length)=true
 calls:∀x y,con.f x=some y→∀(w:World) (vs:List Value) (R:Cls) (fp:List Nat),relAll w R (argMds con.io 0 (con.A.sgs x)) vs fp→(∀q∈con.nils,∃a,vs[q]? =some (.slice a 0 0))→fp.Nodup→(∀b∈fp,¬R b)→(∀b,R b→b<w.heap.size)→
  Calls P g (packV con.ps vs).toArray w fun e w'=>∃rs fo fr R',e= .returned (tupV (packV con.rs rs))∧
   relAll w' R' (ioMdO con.io ((con.B.sgs y).take con.io.length)) (ioVals con.io vs) fo∧relAll w' R' (resMds con.own ((con.B.sgs y).drop con.io.length)) rs fr∧
   (fo++fr).Nodup∧(∀b∈fo++fr,¬R' b∧(b∈fp∨w.heap.size≤b))∧(∀b,R b→R' b)∧(∀b,R' b→b<w'.heap.size∧(R b∨w.heap.size≤b))∧Ext fp w w'∧keptIo con.io (con.A.sgs x) vs w w'
structure EnvOk (P:Program)(E:Env):Prop where
 ty:∀t i,E.ty t=some i→TiOk P t i
 tab:∀s g con,E.tab s g=some con→Valid P g con
 mixed:P.follows .mixedOrders=true
def newH (σ:St)(d:D):Hp:=d.adds++sets (drop σ.heap d.dels) d.sets
theorem drop_nil :∀(H:Hp),drop H []=H
 |[]=>rfl
 |(m,e)::r=>by simp[drop,mem,drop_nil r]
theorem sets_nil :∀(H:Hp),sets H []=H
 |[]=>rfl
 |(m,e)::r=>by simp[sets,look,sets_nil r]
theorem newH_pure (σ:St)(av:AV):newH σ ⟨av,[],[],[]⟩=σ.heap:=by simp[newH,drop_nil,sets_nil]
theorem keys_look :∀(H:Hp) (n:Nat),n∈keys H↔∃e,look H n=some e
 |[],n=>by simp[keys,look]
 |(m,e)::r,n=>by
  rw[look_cons]
  by_cases h:n=m
  ·simp[keys,h]
  ·simp[keys,h,keys_look r n]
theorem newOk_spec {σ:St}:∀{H:Hp},newOk σ H=true→∀n e,look H n=some e→σ.fresh n=true
 |[],_,n,e,h=>by simp[look]at h
 |(m,x)::r,h,n,e,hl=>by
  simp only[newOk,Bool.and_eq_true]at h
  rw[look_cons]at hl
  by_cases hn:n=m
  ·subst hn;exact h.1
  ·simp[hn]at hl;exact newOk_spec h.2 n e hl
theorem nodup_iff :∀(l:List Nat),nodup l=true↔l.Nodup
 |[]=>by simp[nodup]
 |n::l=>by
  simp only[nodup,Bool.and_eq_true,Bool.not_eq_true',List.nodup_cons,nodup_iff l]
  constructor
  ·rintro⟨h1,h2⟩
   exact⟨fun h=>by simp[(mem_iff l n).2 h]at h1,h2⟩
  ·rintro⟨h1,h2⟩
   refine⟨?_,h2⟩
   cases h:mem l n with
   |false=>rfl
   |true=>exact absurd ((mem_iff l n).1 h) h1
theorem disj_iff :∀(l s:List Nat),disj l s=true↔∀n∈l,n∉s
 |[],s=>by simp[disj]
 |n::l,s=>by
  simp only[disj,Bool.and_eq_true,Bool.not_eq_true',disj_iff l s,List.mem_cons,forall_eq_or_imp]
  constructor
  ·rintro⟨h1,h2⟩
   exact⟨fun h=>by simp[(mem_iff s n).2 h]at h1,h2⟩
  ·rintro⟨h1,h2⟩
   refine⟨?_,h2⟩
   cases h:mem s n with
   |false=>rfl
   |true=>exact absurd ((mem_iff s n).1 h) h1
theorem look_newH (σ:St)(d:D)(n:Nat):look (newH σ d) n=match look d.adds n with
 |some x=>some x
 |none=>if n∈d.dels then none else match look σ.heap n,look d.sets n with|some _,some e'=>some e'|x,_=>x:=by
 unfold newH
 rw[look_append]
 cases look d.adds n with
 |some x=>rfl
 |none=>
  simp only[look_sets,look_drop]
  by_cases h:n∈d.dels
  ·simp[h]
  ·cases look σ.heap n<;>cases look d.sets n<;>simp[h]
theorem Ent.lt {c:Cc}{w:World}{R:Cls}{H:Hp}{n:Nat}{e:Ent}(h:e.rel c w R H n):∀b∈c.fp n,b<w.heap.size:=by
 cases e with
 |box ls=>
  obtain⟨b,vs,e,h1,h2,h3,h4⟩:=h
  intro b' hb'
  rw[h2]at hb'
  simp at hb'
  subst hb'
  exact(Array.getElem?_eq_some_iff.1 h3).1
 |row T d xs=>
  cases d with
  |true=>
   simp only[Ent.rel]at h
   cases hz:c.at_ n with
   |none=>rw[hz]at h;intro b hb;rw[h.2]at hb;cases hb
   |some z=>
    rw[hz]at h
    obtain⟨fr,h1,h2,h3⟩:=h
    intro b hb
    rw[h1]at hb
    rcases List.mem_cons.1 hb with rfl|hb
    ·exact h2.lt
    ·exact rowOwn_lt (fun x o f hq=>ETy.own_lt T x z.1 o f hq) h3 b hb
  |false=>
   simp only[Ent.rel]at h
   cases hz:c.at_ n with
   |none=>rw[hz]at h;intro b hb;rw[h.2]at hb;cases hb
   |some z=>
    rw[hz]at h
    intro b hb
    rw[h.1]at hb
    simp at hb
    subst hb
    exact h.2.1.lt
theorem Rel.step {F:Fr}{c c':Cc}{w w':World}{R R':Cls}{σ:St}{a:Act}{d:D}(h:Rel F c w R σ a)(hnew:newOk σ d.adds=true)
 (hds:∀n e,look d.sets n=some e→n∉d.dels)
 (hc:∀n,look d.adds n=none→look d.sets n=none→c'.at_ n=c.at_ n∧c'.fp n=c.fp n)
 (hsame:∀b,b<w.heap.size→(∀n e,look σ.heap n=some e→(n∈d.dels∨look d.sets n≠none)→b∉c.fp n)→w'.heap[b]? =w.heap[b]?)
 (hR:∀b,R b→R' b) (hR':∀b,R' b→b<w'.heap.size∧(R b∨w.heap.size≤b∨∃m e,look σ.heap m=some e∧(m∈d.dels∨look d.sets m≠none)∧b∈c.fp m))
 (hent:∀n e,look (newH σ d) n=some e→(look d.adds n≠none∨look d.sets n≠none)→e.rel c' w' R' (newH σ d) n∧(c'.fp n).Nodup∧
  (∀b∈c'.fp n,¬R' b∧(w.heap.size≤b∨∃m e,look σ.heap m=some e∧(m∈d.dels∨look d.sets m≠none)∧b∈c.fp m)))
 (hap:∀n e m e',n≠m→look (newH σ d) n=some e→look (newH σ d) m=some e'→(look d.adds n≠none∨look d.sets n≠none)→(look d.adds m≠none∨look d.sets m≠none)→∀b∈c'.fp n,b∉c'.fp m)
 (hio:∀n,look d.adds n≠none→look F.io n=none)
 (hsay:∀l v,(σ.has l∨F.has l)→(∃n,look d.sets n≠none∧l.says n=true)→l.rel c w R σ.heap v→l.rel c' w' R' (newH σ d) v)
 (sz:w.heap.size≤w'.heap.size) (sh:∀b n,blk w b n→blk w' b n) (os:w'.os=w.os) (out:w'.output=w.output) (tape:w'.tape=w.tape)
 (hkc:∀n e new,look F.io n≠none→look σ.heap n=some e→look d.sets n=some (.box new)→∃old,e= .box old∧c'.at_ n=c.at_ n∧∀(j:Nat) (g:Sg),old[j]? =some (.val g)→g.t.flat=false→new[j]? =some (.val g)∧∀b,c.at_ n=some (b,0)→w'.cell? ⟨b,j,none⟩=w.cell? ⟨b,j,none⟩):Rel F c' w' R' ⟨σ.tmps,newH σ d⟩ a:=by
 have hkept:∀n e,look (newH σ d) n=some e→¬(look d.adds n≠none∨look d.sets n≠none)→look σ.heap n=some e∧n∉d.dels∧look d.adds n=none∧look d.sets n=none:=by
  intro n e he hn
  have h1:look d.adds n=none:=by
   cases h':look d.adds n with
   |none=>rfl
   |some x=>exact absurd (Or.inl (by simp[h'])) hn
  have h2:look d.sets n=none:=by
   cases h':look d.sets n with
   |none=>rfl
   |some x=>exact absurd (Or.inr (by simp[h'])) hn
  rw[look_newH]at he
  simp only[h1,h2]at he
  by_cases h3:n∈d.dels
  ·simp[h3]at he
  ·simp only[h3,if_false]at he
   cases hl:look σ.heap n with
   |none=>simp[hl]at he
   |some x=>simp[hl]at he;subst he;exact⟨rfl,h3,h1,h2⟩
 have hRs:∀b,R b→w'.heap[b]? =w.heap[b]? :=fun b hb=>hsame b (h.rl b hb) (fun n e hn _ hbf=>(h.nr n e hn b hbf).1 hb)
 have hbase:∀b,(w.heap.size≤b∨∃m e,look σ.heap m=some e∧(m∈d.dels∨look d.sets m≠none)∧b∈c.fp m)→b∈F.W∨F.w0.heap.size≤b:=by
  rintro b (hb|⟨m,e,hm,_,hb⟩)
  ·exact .inr (Nat.le_trans h.sz hb)
  ·exact(h.nr m e hm b hb).2
 refine Rel.change h (fun n=>look d.adds n≠none∨look d.sets n≠none) hRs hR (fun b hb=>(hR' b hb).1) (fun b hb=>by
  rcases(hR' b hb).2 with h1|h1|⟨m,e,h1,_,h2⟩
  ·exact .inl h1
  ·exact .inr (.inl (Nat.le_trans h.sz h1))
  ·exact .inr ((h.nr m e h1 b h2).2.symm)) ?_ ?_ ?_ ?_ sz sh ?_ os out tape ?_
 ·intro n e he hn
  obtain⟨h1,h2,h3,h4⟩:=hkept n e he hn
  obtain⟨h5,h6⟩:=hc n h3 h4
  refine⟨h1,h5,h6,fun b hb=>⟨?_,?_⟩⟩
  ·refine hsame b (Ent.lt (h.hp n e h1) b hb) (fun m e' hm hd hbm=> ?_)
   have hne:n≠m:=by
    rintro rfl
    rcases hd with hd|hd
    ·exact h2 hd
    ·exact hd h4
   exact h.dj n e m e' hne h1 hm b hb hbm
  ·intro hb'
   rcases(hR' b hb').2 with hr|hs|⟨m,e',hm,hd,hbm⟩
   ·exact(h.nr n e h1 b hb).1 hr
   ·exact absurd (Ent.lt (h.hp n e h1) b hb) (by omega)
   ·have hne:n≠m:=by
     rintro rfl
     rcases hd with hd|hd
     ·exact h2 hd
     ·exact hd h4
    exact h.dj n e m e' hne h1 hm b hb hbm
 ·intro n e he hn
  obtain⟨h1,h2,h3⟩:=hent n e he hn
  exact⟨h1,h2,fun b hb=>⟨(h3 b hb).1,hbase b (h3 b hb).2⟩⟩
 ·intro n e m e' hne he hm hn b hb hb'
  by_cases hm':look d.adds m≠none∨look d.sets m≠none
  ·exact hap n e m e' hne he hm hn hm' b hb hb'
  ·obtain⟨k1,k2,k3,k4⟩:=hkept m e' hm hm'
   obtain⟨k5,k6⟩:=hc m k3 k4
   rw[k6]at hb'
   obtain⟨_,_,h3⟩:=hent n e he hn
   rcases(h3 b hb).2 with hs|⟨m2,e2,hm2,hd,hbm⟩
   ·exact absurd (Ent.lt (h.hp m e' k1) b hb') (by omega)
   ·have hne2:m≠m2:=by
     rintro rfl
     rcases hd with hd|hd
     ·exact k2 hd
     ·exact hd k4
    exact h.dj m e' m2 e2 hne2 k1 hm2 b hb' hbm
 ·intro l v hl hn hv
  obtain⟨n,hn,hs⟩:=hn
  rcases hn with hn|hn
  ·cases hx:look d.adds n with
   |none=>exact absurd hx hn
   |some x=>
    rcases hl with hl|⟨p,z,hp,hl⟩
    ·have:=(St.fresh_spec (newOk_spec hnew n x hx)).2 l hl
     rw[hs]at this
     cases this
    ·have hpn:n=p:=by rcases hl with rfl|rfl<;>exact Nat.eq_of_beq_eq_true hs
     subst hpn
     have:=hio n (by rw[hx];simp)
     rw[hp]at this
     cases this
  ·exact hsay l v hl ⟨n,hn,hs⟩ hv
 ·intro b hb hW
  refine hsame b (Nat.lt_of_lt_of_le hb h.sz) (fun n e hn _ hbf=> ?_)
  rcases(h.nr n e hn b hbf).2 with hw|hs
  ·exact hW hw
  ·omega
 ·intro p v ls' hn hp hl'
  have ha:look d.adds p=none:=by
   cases hx:look d.adds p with
   |none=>rfl
   |some x=>have:=hio p (by rw[hx];simp);rw[hp]at this;cases this
  have hs:look d.sets p≠none:=by
   rcases hn with hn|hn
   ·exact absurd ha hn
   ·exact hn
  cases hse:look d.sets p with
  |none=>exact absurd hse hs
  |some e'=>
   have hd:=hds p e' hse
   rw[look_newH]at hl'
   simp only[ha,hd,if_false]at hl'
   cases hle:look σ.heap p with
   |none=>simp[hle]at hl'
   |some e=>
    simp[hle,hse]at hl'
    subst hl'
    obtain⟨old,rfl,k1,k2⟩:=hkc p e ls' (by rw[hp];simp) hle hse
    exact⟨old,rfl,k1,k2⟩
theorem alloc_old {w:World}{o:Obj}{b:Nat}(h:b<w.heap.size):(w.alloc o).heap[b]? =w.heap[b]? :=by
 show(w.heap.push o)[b]? =_
 simp[Array.getElem?_push,Nat.ne_of_lt h]
theorem alloc_new {w:World}{o:Obj}:(w.alloc o).heap[w.heap.size]? =some o:=by
 show(w.heap.push o)[w.heap.size]? =_
 simp
theorem alloc_size {w:World}{o:Obj}:(w.alloc o).heap.size=w.heap.size+1:=by show(w.heap.push o).size=_;simp
theorem blk_alloc {w w1:World}{o:Obj}(hw:w1.heap=w.heap):∀b n,blk w b n→blk (w1.alloc o) b n:=by
 intro b n h
 exact h.same (by rw[alloc_old (by rw[hw];exact h.lt),hw])
theorem drew_heap {w:World}:w.drew.heap=w.heap:=rfl
def Does (P:Program)(o:Oper)(a:Act)(w:World)(post:Value→World→Prop):Prop:=
 ∀(next:Act→World→Prop) (Q:Exit→Act→World→Prop),(∀v w',post v w'→next (a.put o.dst v) w')→o.wp P a w next Q
theorem Does.run {P:Program}{o:Oper}{a:Act}{w w':World}{v:Value}{post:Value→World→Prop}(h:(execOp a.eval o).run P w= .ok (.value v) w')(hp:post v w'):Does P o a w post:=by
 intro next Q hn
 unfold Oper.wp
 rw[h]
 exact hn v w' hp
theorem Does.skip {P:Program}{o:Oper}{a:Act}{w w':World}{post:Value→World→Prop}(h:(execOp a.eval o).run P w= .ok .skip w')(hp:post Go.undef w'):Does P o a w post:=by
 intro next Q hn
 unfold Oper.wp
 rw[h]
 exact hn _ w' hp
theorem Does.enter {P:Program}{o:Oper}{a:Act}{w:World}{f:FuncId}{as:Array Value}{post:Value→World→Prop}(h:(execOp a.eval o).run P w= .ok (.enter f as) w)
 (hp:Calls P f as w fun e w'=>∃v,e= .returned v∧post v w'):Does P o a w post:=by
 intro next Q hn
 unfold Oper.wp
 rw[h]
 refine hp.mono ?_
 rintro e w' ⟨v,rfl,hv⟩
 exact hn v w' hv
def Post (F:Fr)(σ:St)(a:Act)(d:D)(v:Value)(w':World):Prop:=∃c' R',Rel F c' w' R' ⟨σ.tmps,newH σ d⟩ a∧d.av.rel c' w' R' (newH σ d) v
theorem Post.pure {F:Fr}{c:Cc}{w:World}{R:Cls}{σ:St}{a:Act}{av:AV}{v:Value}(h:Rel F c w R σ a)(hv:av.rel c w R σ.heap v):Post F σ a ⟨av,[],[],[]⟩ v w:=by
 refine⟨c,R,?_,?_⟩
 ·rw[newH_pure];exact h
 ·rw[newH_pure];exact hv
theorem const_rel {c:Cc}{w:World}{R:Cls}{H:Hp}{v:Value}{av:AV}(h:const v=some av):av.rel c w R H v∧∀l∈av.leaves,∀n,l.says n=false:=by
 unfold const at h
 split at h<;>first|(cases h;done)|(injection h with h;subst h)
 all_goals first
  |exact⟨⟨_,rfl,rfl⟩,by simp[AV.leaves,vint,vbool,val1,Lf.says]⟩
  |exact⟨⟨_,rfl,⟨_,rfl⟩⟩,by simp[AV.leaves,Lf.says]⟩
theorem eval_rel {F:Fr}{c:Cc}{w:World}{R:Cls}{σ:St}{a:Act}{x:Operand}{av:AV}(h:Rel F c w R σ a)(he:σ.eval x=some av):av.rel c w R σ.heap (a.eval x):=by
 cases x with
 |tmp t=>
  obtain⟨v,h1,h2⟩:=h.tm t av he
  have:a.eval (.tmp t)=v:=by simp[Act.eval,Array.getD_eq_getD_getElem?,h1]
  rw[this];exact h2
 |const v=>exact(const_rel he).1
 |global g=>cases he
 |func f=>
  injection he with he
  subst he
  exact⟨_,rfl,[], #[],rfl,rfl,rfl⟩
theorem eval_says {σ:St}{x:Operand}{av:AV}(he:σ.eval x=some av):∀l∈av.leaves,σ.has l∨∀n,l.says n=false:=by
 cases x with
 |tmp t=>exact fun l hl=> .inl (.inl ⟨t,av,he,hl⟩)
 |const v=>exact fun l hl=> .inr ((const_rel (c:=⟨fun _=>none,fun _=>[]⟩) (w:=default) (R:=fun _=>False) (H:=[]) he).2 l hl)
 |global g=>cases he
 |func f=>
  injection he with he
  subst he
  intro l hl
  simp[AV.leaves,val1]at hl
  subst hl
  exact .inr fun n=>rfl
theorem cellsOwn_get {w:World}:∀{gs:List Sg} {b o:Nat} {fp:List Nat},cellsOwn w gs b o fp→∀j g,gs[j]? =some g→∃v f,w.cell? ⟨b,o+j,none⟩=some v∧g.own w v f∧∀b'∈f,b'∈fp
 |[],_,_,_,_,j,g,hg=>by simp at hg
 |x::gs,b,o,fp,h,0,g,hg=>by
  obtain⟨f1,f2,rfl,⟨v,hc,hv⟩,hr⟩:=h
  simp at hg
  subst hg
  exact⟨v,f1,hc,hv,fun b' hb'=>by simp[hb']⟩
 |x::gs,b,o,fp,h,j+1,g,hg=>by
  obtain⟨f1,f2,rfl,⟨v,hc,hv⟩,hr⟩:=h
  obtain⟨v',f,hc',hv',hf⟩:=cellsOwn_get hr j g (by simpa using hg)
  exact⟨v',f,by rw[show o+(j+1)=o+1+j by omega];exact hc',hv',fun b' hb'=>by simp[hf b' hb']⟩
theorem Sg.own_flat {w:World}{R:Cls}{g:Sg}{v:Value}{fp:List Nat}(hf:g.t.flat=true)(h:g.own w v fp):g.ro w R v∧fp=[]:=by
 cases g with
 |int|bool|str=>exact h
 |sl T xs=>cases hf
 |ptr=>exact h.elim
 |fn=>exact h.elim
def cellsAt (w:World)(b o:Nat)(vs:List Value):Prop:=∀j v,vs[j]? =some v→w.cell? ⟨b,o+j,none⟩=some v
theorem list_of {Q:Nat→Value→Prop}:∀(n:Nat),(∀j,j<n→∃v,Q j v)→∃vs:List Value,vs.length=n∧∀j v,vs[j]? =some v→Q j v
 |0,_=>⟨[],rfl,fun j v h=>by simp at h⟩
 |n+1,h=>by
  obtain⟨vs,hl,hq⟩:=list_of n (fun j hj=>h j (by omega))
  obtain⟨v,hv⟩:=h n (by omega)
  refine⟨vs++[v],by simp[hl],fun j u hj=> ?_⟩
  by_cases hjn:j<n
  ·rw[List.getElem?_append_left (by omega)]at hj
   exact hq j u hj
  ·by_cases e:j=n
   ·subst e
    rw[List.getElem?_append_right (by omega)]at hj
    simp[hl]at hj
    subst hj
    exact hv
   ·rw[List.getElem?_eq_none (by simp[hl];omega)]at hj
    cases hj
theorem cut_spec {ls ms:List Lf}{off n:Nat}(h:cut ls off n=some ms):ms=(ls.drop off).take n∧ms.length=n:=by
 unfold cut at h
 dsimp only at h
 split at h
 ·rename_i hb
  injection h with h
  subst h
  exact⟨rfl,Nat.eq_of_beq_eq_true hb⟩
 ·cases h
theorem rdAt {α:Type}{xs:List α}{i:Nat}{d:α}(h:i<xs.length):nth xs i=some (xs.getD i d):=by
 simp[nth,List.getD_eq_getElem?_getD,h]
theorem elemLs_get {d:Bool}{n i:Nat}:∀{gs:List Sg} {q j:Nat} {g:Sg},gs[j]? =some g→(elemLs d n i q gs)[j]? =some (match g.t.flat|| !d with|true=>Lf.val g|false=> .pref n i (q+j))
 |[],_,_,_,h=>by simp at h
 |x::gs,q,0,g,h=>by
  simp at h
  subst h
  simp only[elemLs,List.getElem?_cons_zero,Nat.add_zero]<;>(cases(x.t.flat|| !d)<;>rfl)
 |x::gs,q,j+1,g,h=>by
  simp only[elemLs,List.getElem?_cons_succ]
  rw[elemLs_get (by simpa using h)]
  rw[show q+1+j=q+(j+1) by omega]
theorem elemLs_length {d:Bool}{n i:Nat}:∀{gs:List Sg} {q:Nat},(elemLs d n i q gs).length=gs.length
 |[],_=>rfl
 |x::gs,q=>by simp[elemLs,elemLs_length]
theorem at_cut {c:Cc}{w:World}{R:Cls}{H:Hp}{ls ms:List Lf}{b o off n:Nat}(h:∀j l,ls[j]? =some l→∃v,w.cell? ⟨b,o+j,none⟩=some v∧l.rel c w R H v)(hc:cut ls off n=some ms):
 ∃vs,vs.length=n∧cellsAt w b (o+off) vs∧All2 (Lf.rel c w R H) ms vs:=by
 obtain⟨rfl,hl⟩:=cut_spec hc
 have hget:∀j,j<n→∃l,((ls.drop off).take n)[j]? =some l∧ls[off+j]? =some l:=by
  intro j hj
  have hlt:j<((ls.drop off).take n).length:=by omega
  refine⟨((ls.drop off).take n)[j],List.getElem?_eq_getElem hlt,?_⟩
  have:((ls.drop off).take n)[j]? =ls[off+j]? :=by rw[List.getElem?_take];simp[hj]
  rw[←this];exact List.getElem?_eq_getElem hlt
 obtain⟨vs,hvl,hq⟩:=list_of (Q:=fun j v=>w.cell? ⟨b,o+off+j,none⟩=some v∧∀l,((ls.drop off).take n)[j]? =some l→l.rel c w R H v) n (fun j hj=>by
  obtain⟨l,h1,h2⟩:=hget j hj
  obtain⟨v,h3,h4⟩:=h (off+j) l h2
  refine⟨v,by rw[show o+off+j=o+(off+j) by omega];exact h3,fun l' hl'=> ?_⟩
  rw[h1]at hl'
  cases hl'
  exact h4)
 exact⟨vs,hvl,fun j v hj=>(hq j v hj).1,All2.of_get (by omega) (fun j l v h1 h2=>(hq j v h2).2 l h1)⟩
theorem loadL_rel {F:Fr}{c:Cc}{w:World}{R:Cls}{σ:St}{a:Act}{l:Lf}{n:Nat}{ls:List Lf}{v:Value}(h:Rel F c w R σ a)(hl:loadL σ.heap l n=some ls)(hv:l.rel c w R σ.heap v):
 ∃b o vs,v= .pointer (some ⟨b,o,none⟩)∧vs.length=n∧cellsAt w b o vs∧All2 (Lf.rel c w R σ.heap) ls vs:=by
 unfold loadL at hl
 split at hl
 ·rename_i m off
  split at hl
  ·rename_i ls0 hm
   obtain⟨b,h1,rfl⟩:=hv ls0 hm
   obtain⟨b',vs,e,h2,h3,h4,h5⟩:=h.hp m _ hm
   rw[h1]at h2
   cases h2
   obtain⟨ws,h6,h7,h8⟩:=at_cut (b:=b) (o:=0) (w:=w) (fun j l hj=>by
    obtain⟨u,hu,hr⟩:=h5.get j l hj
    exact⟨u,by simp[World.cell?,h4];simpa using hu,hr⟩) hl
   exact⟨b,off,ws,rfl,h6,by simpa using h7,h8⟩
  ·cases hl
 ·rename_i p j
  obtain⟨b,o,rfl,hb,hr⟩:=hv
  have hr:=(ETy.ro_iff p.T p.x o).1 hr
  obtain⟨ws,h6,h7,h8⟩:=at_cut (c:=c) (H:=σ.heap) (R:=R) (b:=b) (o:=o) (w:=w) (fun q l hq=>by
   rw[List.getElem?_map]at hq
   obtain⟨g,hg,rfl⟩:=Option.map_eq_some_iff.1 hq
   exact hr q g hg) hl
  exact⟨b,o+j,ws,rfl,h6,h7,h8⟩
 ·rename_i T x
  obtain⟨b,o,rfl,hb,hr⟩:=hv
  have hr:=(ETy.ro_iff T x o).1 hr
  obtain⟨ws,h6,h7,h8⟩:=at_cut (c:=c) (H:=σ.heap) (R:=R) (b:=b) (o:=o) (w:=w) (fun q l hq=>by
   rw[List.getElem?_map]at hq
   obtain⟨g,hg,rfl⟩:=Option.map_eq_some_iff.1 hq
   exact hr q g hg) hl
  exact⟨b,o,ws,rfl,h6,h7,h8⟩
 ·rename_i m i j
  split at hl
  ·rename_i T d xs hm
   obtain⟨hi,b,o,h1,rfl⟩:=hv T d xs hm
   have he:=h.hp m _ hm
   have hx:=rdAt (d:=T.dflt) hi
   have key:∀q g,(T.sgs (xs.getD i T.dflt))[q]? =some g→∃v,w.cell? ⟨b,o+i*T.len+q,none⟩=some v∧(match g.t.flat|| !d with|true=>Lf.val g|false=> .pref m i (0+q)).rel c w R σ.heap v:=by
    intro q g hg
    have hq:q<T.len:=by
     have:=(List.getElem?_eq_some_iff.1 hg).1
     rwa [ETy.sgs_length]at this
    cases d with
    |true=>
     simp only[Ent.rel,h1]at he
     obtain⟨fr,h2,h3,h4⟩:=he
     obtain⟨f,hf,h5⟩:=rowOwn_get h4 i _ hx
     obtain⟨v,f',h6,h7,h8⟩:=cellsOwn_get ((ETy.own_iff T _ _ f).1 h5) q g hg
     refine⟨v,h6,?_⟩
     cases hfl:g.t.flat with
     |true=>exact(Sg.own_flat hfl h7).1
     |false=>
      simp only[Bool.or_false,Bool.not_true,Nat.zero_add]
      intro T' d' xs' hm'
      rw[hm]at hm'
      cases hm'
      exact⟨rfl,hi,hq,b,o,h1,h6⟩
    |false=>
     simp only[Ent.rel,h1]at he
     obtain⟨v,h6,h7⟩:=(ETy.ro_iff T _ _).1 (he.2.2 i _ hx) q g hg
     refine⟨v,h6,?_⟩
     simp only[Bool.not_false,Bool.or_true]
     exact h7
   obtain⟨ws,h6,h7,h8⟩:=at_cut (c:=c) (H:=σ.heap) (R:=R) (b:=b) (o:=o+i*T.len) (w:=w) (fun q l hq=>by
    have hlt:q<(T.sgs (xs.getD i T.dflt)).length:=by
     have:=(List.getElem?_eq_some_iff.1 hq).1
     rwa [elemLs_length]at this
    have hg:=List.getElem?_eq_getElem hlt
    rw[elemLs_get hg]at hq
    cases hq
    exact key q _ hg) hl
   exact⟨b,o+i*T.len+j,ws,rfl,h6,h7,h8⟩
  ·cases hl
 ·cases hl
theorem run_isAgg {P:Program}{t:Nat}{i:TI}{w:World}(h:TiOk P t i):(isAgg t).run P w= .ok i.k.agg w:=by
 obtain⟨d,hd,ha,_⟩:=h.und
 unfold isAgg
 simp only[Sem.run_bind,run_underlying hd,Result.andThen_ok]
 rw[←ha]
 cases d<;>rfl
theorem run_sizeOf {P:Program}{t:Nat}{i:TI}{w:World}(h:TiOk P t i):(sizeOf t).run P w= .ok i.zero.length w:=by
 obtain⟨info,z,hi,hs,_⟩:=h.info
 simp[sizeOf,typeInfo,hi,hs]
theorem run_zeroValue {P:Program}{t:Nat}{i:TI}{w:World}(h:TiOk P t i):∃z,(zeroValue t).run P w= .ok z w∧z.cells.size=i.zero.length∧(∀c w R H,All2 (Lf.rel c w R H) i.zero z.cells.toList)∧
 (∀u∈z.cells.toList,u.oneCell'=true)∧(i.T.len≠0→i.T.len=i.zero.length∧All2 (fun g v=>sgZ g v=true) (i.T.sgs i.T.dflt) z.cells.toList):=by
 obtain⟨info,z,hi,hs,_,_,hz,h1,h2,h3,h4⟩:=h.info
 exact⟨z,by simp[zeroValue,typeInfo,hi,hz],h1,h3,h2,h4⟩
theorem loadVar_run {P:Program}{t:Nat}{i:TI}{w:World}{b o:Nat}{vs:List Value}(h:TiOk P t i)(hl:vs.length=i.zero.length)(hc:cellsAt w b o vs)(h1:i.k.agg=true∨vs.length=1):
 ∃v,(loadVar t ⟨b,o,none⟩).run P w= .ok v w∧(match i.k.agg with|true=>v= .agg vs.toArray|false=>vs=[v]):=by
 unfold loadVar
 simp only[Sem.run_bind,run_isAgg h,Result.andThen_ok]
 cases ha:i.k.agg with
 |true=>
  refine⟨.agg vs.toArray,?_,rfl⟩
  simp only[if_true,Sem.run_bind,run_sizeOf h,Result.andThen_ok]
  have:=run_loadCells_list (P:=P) (w:=w) ⟨b,o,none⟩ vs (fun j v hj=>by rw[Addr.add_lit];exact hc j v hj)
  rw[hl]at this
  simp[this]
 |false=>
  rw[ha]at h1
  have h1:vs.length=1:=by simpa using h1
  match vs,h1 with
  |[v],_=>
   refine⟨v,?_,rfl⟩
   have:=hc 0 v rfl
   simp at this
   simp[this]
theorem loadV {F:Fr}{c:Cc}{w:World}{R:Cls}{σ:St}{a:Act}{l:Lf}{ls:List Lf}{v:Value}{P:Program}{t:Nat}{i:TI}(h:Rel F c w R σ a)(hi:TiOk P t i)(hl:loadL σ.heap l i.zero.length=some ls)
 (hv:l.rel c w R σ.heap v) (hg:(i.k.agg||Nat.beq i.zero.length 1)=true):∃ad u,v= .pointer (some ad)∧(loadVar t ad).run P w= .ok u w∧V1.rel c w R σ.heap i.k.agg ls u:=by
 obtain⟨b,o,vs,rfl,h1,h2,h3⟩:=loadL_rel h hl hv
 obtain⟨u,h4,h5⟩:=loadVar_run hi h1 h2 (by
  cases ha:i.k.agg with
  |true=>exact .inl rfl
  |false=>rw[ha]at hg;simp at hg;right;rw[h1];exact hg)
 refine⟨_,u,rfl,h4,?_⟩
 cases ha:i.k.agg with
 |true=>
  rw[ha]at h5
  exact⟨vs,h5,h3⟩
 |false=>
  rw[ha]at h5
  subst h5
  match ls,h3 with
  |[l],h3=>exact⟨l,rfl,h3.1⟩
section
variable {P:Program} {E:Env} {F:Fr} {c:Cc} {w:World} {R:Cls} {σ:St} {a:Act} {site:Nat} {o:Oper} {d:D}
theorem op_move (h:Rel F c w R σ a){x:Operand}(hop:o.op= .move x∨o.op= .assign x)(hd:opD E σ site o some=some d):Does P o a w (Post F σ a d):=by
 have key:∃av,σ.eval x=some av∧d=⟨av,[],[],[]⟩:=by
  rcases hop with hop|hop<;>
  ·simp only[opD,hop]at hd
   split at hd
   ·rename_i av hv
    injection hd with hd
    exact⟨av,hv,hd.symm⟩
   ·cases hd
 obtain⟨av,hv,rfl⟩:=key
 refine Does.run (v:=a.eval x) (w':=w) ?_ (Post.pure h (eval_rel h hv))
 rcases hop with hop|hop<;>simp[execOp,hop]
theorem op_pick (h:Rel F c w R σ a){x y z:Operand}(hop:o.op= .pick x y z)(hd:opD E σ site o some=some d):Does P o a w (Post F σ a d):=by
 simp only[opD,hop]at hd
 split at hd
 ·rename_i t hx
  have hx':=eval_rel h hx
  obtain⟨l,hl,hb⟩:=hx'
  cases hl
  have hb:a.eval x= .bool t:=hb
  cases t with
  |true=>
   simp only[cond_true]at hd
   unfold outO at hd
   split at hd
   ·rename_i av hv
    injection hd with hd
    subst hd
    exact Does.run (by simp[execOp,hop,hb,asBool]) (Post.pure h (eval_rel h hv))
   ·cases hd
  |false=>
   simp only[cond_false]at hd
   unfold outO at hd
   split at hd
   ·rename_i av hv
    injection hd with hd
    subst hd
    exact Does.run (by simp[execOp,hop,hb,asBool]) (Post.pure h (eval_rel h hv))
   ·cases hd
 ·cases hd
theorem op_load (hE:EnvOk P E)(h:Rel F c w R σ a){t:Nat}{x:Operand}(hop:o.op= .load t x)(hd:opD E σ site o some=some d):Does P o a w (Post F σ a d):=by
 simp only[opD,hop]at hd
 split at hd
 ·rename_i i l hi hx
  split at hd
  ·rename_i ls hl hg
   injection hd with hd
   subst hd
   obtain⟨l',hl',hv⟩:=eval_rel h hx
   cases hl'
   obtain⟨ad,u,h1,h2,h3⟩:=loadV h (hE.ty t i hi) hl hv hg
   exact Does.run (by simp[execOp,hop,h1,Instr.loadAt,Instr.sureAddr,h2]) (Post.pure h h3)
  ·cases hd
 ·cases hd
theorem isPtr_rel {l:Lf}{v:Value}(hl:isPtr σ.heap l=true)(hv:l.rel c w R σ.heap v)(h:Rel F c w R σ a):
 ∃b o,v= .pointer (some ⟨b,o,none⟩)∧∀off l',addrOff σ.heap l off=some l'→l'.rel c w R σ.heap (.pointer (some ⟨b,o+off,none⟩)):=by
 cases l with
 |ptr n o=>
  simp only[isPtr]at hl
  split at hl
  ·rename_i ls hn
   obtain⟨b,h1,rfl⟩:=hv ls hn
   refine⟨b,o,rfl,fun off l' hl'=> ?_⟩
   simp only[addrOff,isPtr,hn,Option.some.injEq]at hl'
   subst hl'
   intro ls' hn'
   exact⟨b,h1,rfl⟩
  ·cases hl
 |eptr n i j=>
  simp only[isPtr]at hl
  split at hl
  ·rename_i T dd xs hn
   obtain⟨h0,b,o,h1,rfl⟩:=hv T dd xs hn
   refine⟨b,_,rfl,fun off l' hl'=> ?_⟩
   simp only[addrOff,isPtr,hn,Option.some.injEq]at hl'
   subst hl'
   intro T' d' xs' hn'
   rw[hn]at hn'
   cases hn'
   exact⟨h0,b,o,h1,by rw[Nat.add_assoc]⟩
  ·cases hl
 |rptr p j=>
  obtain⟨b,o,rfl,hb,hr⟩:=hv
  refine⟨b,_,rfl,fun off l' hl'=> ?_⟩
  simp only[addrOff,isPtr,Option.some.injEq]at hl'
  subst hl'
  exact⟨b,o,by rw[Nat.add_assoc],hb,hr⟩
 |val g=>
  cases g with
  |ptr T x=>
   obtain⟨b,o,rfl,hb,hr⟩:=hv
   refine⟨b,o,rfl,fun off l' hl'=> ?_⟩
   simp only[addrOff,isPtr,Option.some.injEq]at hl'
   subst hl'
   exact⟨b,o,rfl,hb,hr⟩
  |_=>simp[isPtr]at hl
 |_=>simp[isPtr]at hl
theorem op_fieldAddr (hE:EnvOk P E)(h:Rel F c w R σ a){t:Nat}{x:Operand}{f:Nat}(hop:o.op= .fieldAddr t x f)(hd:opD E σ site o some=some d):Does P o a w (Post F σ a d):=by
 simp only[opD,hop]at hd
 split at hd
 ·rename_i i l hi hx
  split at hd
  ·rename_i off sz g hf
   split at hd
   ·rename_i l' hl'
    injection hd with hd
    subst hd
    obtain⟨l1,hl1,hv⟩:=eval_rel h hx
    cases hl1
    have hT:=hE.ty t i hi
    have hk:i.k= .st:=by
     rcases hT.fld with h'|h'
     ·cases hk:i.k<;>simp[hk,Tk.agg]at h'
      rfl
     ·rw[h']at hf;cases hf
    obtain⟨dd,hu,_,_,_,_,_,hst⟩:=hT.und
    obtain⟨fs,rfl,_,_,hfs⟩:=hst hk
    obtain⟨fd,d',i',h1,h2,h3,h4,h5,h6,h7⟩:=hfs f _ hf
    have hip:isPtr σ.heap l=true:=by
     unfold addrOff at hl'
     split at hl'
     ·assumption
     ·cases hl'
    obtain⟨b,oo,hvv,hr⟩:=isPtr_rel hip hv h
    refine Does.run (v:= .pointer (some ⟨b,oo+off,none⟩)) (w':=w) ?_ (Post.pure h ⟨l',rfl,hr off l' hl'⟩)
    have h6':i'.size≠0:=by rw[h5];omega
    simp[execOp,hop,hvv,Instr.fieldAt,run_underlying hu,h1,Instr.sureAddr,fieldPlace,sizeOf,typeInfo,h3,h6',h4,Addr.add_lit]
   ·cases hd
  ·cases hd
 ·cases hd
theorem V1.one {l:Lf}{v:Value}{H:Hp}(h:V1.rel c w R H false [l] v):l.rel c w R H v:=by
 obtain⟨l',hl,hv⟩:=h
 cases hl
 exact hv
theorem op_field (hE:EnvOk P E)(h:Rel F c w R σ a){t:Nat}{x:Operand}{f:Nat}(hop:o.op= .field t x f)(hd:opD E σ site o some=some d):Does P o a w (Post F σ a d):=by
 simp only[opD,hop]at hd
 split at hd
 ·rename_i i ls hi hx
  split at hd
  ·rename_i off n g hf
   split at hd
   ·rename_i ms hm hg
    injection hd with hd
    subst hd
    obtain⟨vs,hvv,hv⟩:=eval_rel h hx
    have hT:=hE.ty t i hi
    have hk:i.k= .st:=by
     rcases hT.fld with h'|h'
     ·cases hk:i.k<;>simp[hk,Tk.agg]at h'
      rfl
     ·rw[h']at hf;cases hf
    obtain⟨dd,hu,_,_,_,_,_,hst⟩:=hT.und
    obtain⟨fs,rfl,_,_,hfs⟩:=hst hk
    obtain⟨fd,d',i',h1,h2,h3,h4,h5,h6,h7⟩:=hfs f _ hf
    obtain⟨hms,hlen⟩:=cut_spec hm
    have hv2:All2 (Lf.rel c w R σ.heap) ms ((vs.drop off).take n):=by rw[hms];exact All2.take n (All2.drop off hv)
    have hagg:∀w:World,(isAgg fd.type).run P w= .ok g w:=by
     intro w
     unfold isAgg
     simp only[Sem.run_bind,run_underlying h2,Result.andThen_ok]
     have h7':descAgg d'=g:=h7
     rw[←h7']
     cases d'<;>rfl
    cases g with
    |true=>
     refine Does.run (v:= .agg ((vs.drop off).take n).toArray) (w':=w) ?_ (Post.pure h ⟨_,rfl,hv2⟩)
     have:vs.toArray.extract off (off+n)=((vs.drop off).take n).toArray:=by
      apply Array.ext'
      simp[Array.toList_extract,List.extract_eq_take_drop]
     simp[execOp,hop,hvv,Instr.field,run_underlying hu,h1,asAgg,part,hagg,sizeOf,typeInfo,h3,h4,h5,this]
    |false=>
     have hn:n=1:=by simpa using hg
     subst hn
     obtain⟨l,rfl⟩:∃l,ms=[l]:=by match ms,hlen with|[l],_=>exact⟨l,rfl⟩
     obtain⟨u,hu1⟩:∃u,(vs.drop off).take 1=[u]:=by
      have:=hv2.length
      match(vs.drop off).take 1,this with
      |[u],_=>exact⟨u,rfl⟩
     rw[hu1]at hv2
     have hget:vs[off]? =some u:=by
      have:((vs.drop off).take 1)[0]? =some u:=by rw[hu1];rfl
      simpa [List.getElem?_take]using this
     refine Does.run (v:=u) (w':=w) ?_ (Post.pure h ⟨l,rfl,hv2.1⟩)
     simp[execOp,hop,hvv,Instr.field,run_underlying hu,h1,asAgg,part,hagg,h4,hget]
   ·cases hd
  ·cases hd
 ·cases hd
end
theorem bound_some {α:Type}{i:Int}{n:Nat}{x:Option α}{y:α}(h:bound i n x=some y):0≤i∧i.toNat<n∧i<n∧x=some y:=by
 unfold bound at h
 by_cases h1:0≤i
 ·by_cases h2:i<(n:Int)
  ·simp[h1,h2]at h
   exact⟨h1,by omega,h2,h⟩
  ·simp[h1,h2]at h
 ·simp[h1]at h
section
variable {P:Program} {E:Env} {F:Fr} {c:Cc} {w:World} {R:Cls} {σ:St} {a:Act} {site:Nat} {o:Oper} {d:D}
theorem tyE_ok (hE:EnvOk P E){t:Nat}{j:TI}(h:(E.ty t).bind (tyE E)=some j):∃e,P.underlying t=some (.slice e)∧TiOk P e j:=by
 cases hi:E.ty t with
 |none=>rw[hi]at h;cases h
 |some i=>
  rw[hi]at h
  simp only[Option.bind_some,tyE]at h
  split at h
  ·rename_i e hk
   obtain⟨dd,hu,_,_,_,hsl,_⟩:=(hE.ty t i hi).und
   exact⟨e,by rw[hu,hsl e hk],hE.ty e j h⟩
  ·cases h
theorem op_indexAddr (hE:EnvOk P E)(h:Rel F c w R σ a){t:Nat}{x ix:Operand}(hop:o.op= .indexAddr t x ix)(hd:opD E σ site o some=some d):Does P o a w (Post F σ a d):=by
 simp only[opD,hop]at hd
 split at hd
 ·rename_i tj l k i htj hx hix
  obtain⟨e,hu,htj⟩:=tyE_ok hE htj
  have hi':a.eval ix= .int k i:=V1.one (eval_rel h hix)
  have hv:=V1.one (eval_rel h hx)
  unfold indexE at hd
  split at hd
  ·rename_i T xs
   split at hd
   ·rename_i hT
    have hT:=Nat.eq_of_beq_eq_true hT
    obtain⟨h0,h1,h2,hd⟩:=bound_some hd
    injection hd with hd
    subst hd
    rcases hv with⟨hnil,_⟩|⟨b,oo,cp,hvv,hb,_,hr⟩
    ·rw[hnil]at h1;simp at h1
    ·refine Does.run (v:= .pointer (some ⟨b,oo+i.toNat*T.len,none⟩)) (w':=w) ?_ (Post.pure h ⟨_,rfl,b,oo+i.toNat*T.len,rfl,hb,?_⟩)
     ·have h0':¬i<0:=by omega
      simp[execOp,hop,hi',hvv,Instr.indexAt,asIntOf,run_underlying hu,h0,h2,run_sizeOf htj,hT,Addr.add_lit]
     ·exact hr i.toNat _ (rdAt h1)
   ·cases hd
  ·rename_i n
   split at hd
   ·rename_i T dd xs hn
    split at hd
    ·rename_i hT
     have hT:=Nat.eq_of_beq_eq_true hT
     obtain⟨h0,h1,h2,hd⟩:=bound_some hd
     injection hd with hd
     subst hd
     have hv:=hv T dd xs hn
     cases hz:c.at_ n with
     |none=>
      have he:=h.hp n _ hn
      cases dd<;>simp only[Ent.rel,hz]at he<;>(rw[he.1]at h1;simp at h1)
     |some z=>
      rw[hz]at hv
      obtain⟨cp,hvv,hle,hb⟩:=hv
      refine Does.run (v:= .pointer (some ⟨z.1,z.2+i.toNat*T.len,none⟩)) (w':=w) ?_ (Post.pure h ⟨_,rfl,?_⟩)
      ·simp[execOp,hop,hi',hvv,Instr.indexAt,asIntOf,run_underlying hu,h0,h2,run_sizeOf htj,hT,Addr.add_lit]
      ·intro T' d' xs' hn'
       rw[hn]at hn'
       cases hn'
       exact⟨h1,z.1,z.2,hz,rfl⟩
    ·cases hd
   ·cases hd
  ·cases hd
 ·cases hd
theorem op_nilCheck (h:Rel F c w R σ a){x:Operand}(hop:o.op= .nilCheck x)(hd:opD E σ site o some=some d):Does P o a w (Post F σ a d):=by
 simp only[opD,hop]at hd
 split at hd
 ·rename_i l hx
  split at hd
  ·rename_i hp
   injection hd with hd
   subst hd
   have hv:=eval_rel h hx
   obtain⟨b,oo,hvv,_⟩:=isPtr_rel hp (V1.one hv) h
   exact Does.run (v:=a.eval x) (w':=w) (by simp[execOp,hop,hvv]) (Post.pure h hv)
  ·cases hd
 ·cases hd
theorem op_unOp (h:Rel F c w R σ a){op:UnOp}{t:Nat}{x:Operand}(hop:o.op= .unOp op t x)(hd:opD E σ site o some=some d):Does P o a w (Post F σ a d):=by
 simp only[opD,hop]at hd
 split at hd
 ·rename_i b hx
  injection hd with hd
  subst hd
  have hv:a.eval x= .bool b:=V1.one (eval_rel h hx)
  exact Does.run (v:= .bool !b) (w':=w) (by simp[execOp,hop,hv,Op.unary]) (Post.pure h ⟨_,rfl,rfl⟩)
 ·rename_i k n hx
  injection hd with hd
  subst hd
  have hv:a.eval x= .int k n:=V1.one (eval_rel h hx)
  exact Does.run (v:= .int k (k.wrap (0-n))) (w':=w) (by simp[execOp,hop,hv,Op.unary,Op.intArith]) (Post.pure h ⟨_,rfl,rfl⟩)
 ·cases hd
theorem op_index (hE:EnvOk P E)(h:Rel F c w R σ a){t:Nat}{x ix:Operand}(hop:o.op= .index t x ix)(hd:opD E σ site o some=some d):Does P o a w (Post F σ a d):=by
 simp only[opD,hop]at hd
 split at hd
 ·rename_i s k i ht hx hix
  obtain⟨ti,hti,hk⟩:=Option.map_eq_some_iff.1 ht
  obtain⟨dd,hu,_,_,hstr,_⟩:=(hE.ty t ti hti).und
  have ht:P.underlying t=some .string:=by rw[hu,hstr hk]
  obtain⟨h0,h1,h2,hd⟩:=bound_some hd
  injection hd with hd
  subst hd
  have hi':a.eval ix= .int k i:=V1.one (eval_rel h hix)
  have hv:a.eval x= .string s:=V1.one (eval_rel h hx)
  have hg:s[i.toNat]? =some (s.data.getD i.toNat 0):=by
   have h1':i.toNat<s.data.size:=h1
   rw[getElem?_pos s i.toNat h1]
   rw[Array.getD,dif_pos h1']
   rfl
  refine Does.run (v:= .int .u8 (bt s i)) (w':=w) ?_ (Post.pure h ⟨_,rfl,rfl⟩)
  simp[execOp,hop,hi',hv,Instr.index,asIntOf,run_underlying ht,h0,hg,bt]
 ·cases hd
theorem extract_yield (h:Rel F c w R σ a){x:Operand}{ix:Nat}(hop:o.op= .extract x ix)(hd:opD E σ site o some=some d):∃v,(∀w':World,(execOp a.eval o).run P w'= .ok (.value v) w')∧Post F σ a d v w:=by
 simp only[opD,hop]at hd
 split at hd
 ·rename_i vs hx
  split at hd
  ·rename_i g ls hg
   injection hd with hd
   subst hd
   obtain⟨us,hvv,hv⟩:=eval_rel h hx
   obtain⟨u,hu,hr⟩:=hv.get ix _ hg
   refine⟨u,fun w'=> ?_,Post.pure h hr⟩
   simp[execOp,hop,hvv,Instr.extract,hu]
  ·cases hd
 ·cases hd
theorem op_extract (h:Rel F c w R σ a){x:Operand}{ix:Nat}(hop:o.op= .extract x ix)(hd:opD E σ site o some=some d):Does P o a w (Post F σ a d):=by
 simp only[opD,hop]at hd
 split at hd
 ·rename_i vs hx
  split at hd
  ·rename_i g ls hg
   injection hd with hd
   subst hd
   obtain⟨us,hvv,hv⟩:=eval_rel h hx
   obtain⟨u,hu,hr⟩:=hv.get ix _ hg
   refine Does.run (v:=u) (w':=w) ?_ (Post.pure h hr)
   simp[execOp,hop,hvv,Instr.extract,hu]
  ·cases hd
 ·cases hd
theorem avs_rel (h:Rel F c w R σ a):∀{xs:List Operand} {as:List (Bool×List Lf)},avs σ xs=some as→All2 (fun p v=>V1.rel c w R σ.heap p.1 p.2 v) as (xs.map a.eval)
 |[],as,he=>by simp[avs]at he;subst he;trivial
 |x::xs,as,he=>by
  unfold avs at he
  split at he
  ·rename_i g ls s hx hs
   injection he with he
   subst he
   exact⟨eval_rel h hx,avs_rel h hs⟩
  ·cases he
theorem vals_rel {c:Cc}{w:World}{R:Cls}{H:Hp}:∀{ls:List Lf} {gs:List Sg} {vs:List Value},vals ls=some gs→All2 (Lf.rel c w R H) ls vs→All2 (Sg.ro w R) gs vs
 |[],gs,vs,he,h=>by
  simp[vals]at he
  subst he
  cases vs with
  |nil=>trivial
  |cons _ _=>exact h.elim
 |l::ls,gs,vs,he,h=>by
  cases l with
  |val g=>
   simp only[vals]at he
   split at he
   ·rename_i s hs
    injection he with he
    subst he
    cases vs with
    |nil=>exact h.elim
    |cons v vs=>exact⟨h.1,vals_rel hs h.2⟩
   ·cases he
  |_=>simp[vals]at he
theorem lenOf_rel (h:Rel F c w R σ a){l:Lf}{n:Nat}{v:Value}(hl:lenOf σ.heap l=some n)(hv:l.rel c w R σ.heap v):
 (∃s,l= .val (.str s)∧v= .string s∧n=s.size)∨((∀s,l≠ .val (.str s))∧∃ad cp,v= .slice ad n cp):=by
 cases l with
 |nil0=>
  obtain⟨ad,hvv⟩:=hv
  simp[lenOf]at hl
  subst hl
  exact .inr ⟨by simp,ad,0,hvv⟩
 |val g=>
  cases g with
  |str s=>exact .inl ⟨s,rfl,hv,by simpa [lenOf]using hl.symm⟩
  |sl T xs=>
   simp only[lenOf,Option.some.injEq]at hl
   subst hl
   rcases hv with⟨hnil,ad,cp,hvv⟩|⟨b,oo,cp,hvv,_⟩
   ·subst hnil
    exact .inr ⟨by simp,ad,cp,hvv⟩
   ·exact .inr ⟨by simp,_,cp,hvv⟩
  |_=>simp[lenOf]at hl
 |ref m=>
  simp only[lenOf]at hl
  split at hl
  ·rename_i T dd xs hm
   simp only[Option.some.injEq]at hl
   subst hl
   have hv:=hv T dd xs hm
   cases hz:c.at_ m with
   |none=>
    rw[hz]at hv
    obtain⟨ad,hvv⟩:=hv
    have he:=h.hp m _ hm
    have:xs=[]:=by cases dd<;>simp only[Ent.rel,hz]at he<;>exact he.1
    subst this
    exact .inr ⟨by simp,ad,0,hvv⟩
   |some z=>
    rw[hz]at hv
    obtain⟨cp,hvv,_⟩:=hv
    exact .inr ⟨by simp,_,cp,hvv⟩
  ·cases hl
 |pref m ii j=>
  simp only[lenOf]at hl
  split at hl
  ·rename_i U ys hg
   simp only[Option.some.injEq]at hl
   subst hl
   unfold partOf at hg
   split at hg
   ·rename_i T dd xs hm
    obtain⟨hdd,hi,hj,b,oo,hat',hc⟩:=hv T dd xs hm
    subst hdd
    have he:=h.hp m _ hm
    simp only[Ent.rel,hat']at he
    obtain⟨fr,_,_,h4⟩:=he
    obtain⟨f,hf,h5⟩:=rowOwn_get h4 ii _ (rdAt (d:=T.dflt) hi)
    obtain⟨v',f',h6,h7,h8⟩:=cellsOwn_get ((ETy.own_iff T _ _ f).1 h5) j _ hg
    rw[hc]at h6
    cases h6
    rcases h7 with⟨hnil,_,ad,hvv⟩|⟨b',o',cp,fr',hvv,_⟩
    ·subst hnil
     exact .inr ⟨by simp,ad,0,hvv⟩
    ·exact .inr ⟨by simp,_,cp,hvv⟩
   ·cases hg
  ·cases hl
 |_=>simp[lenOf]at hl
theorem one_of {α:Type}{Q:α→Value→Prop}{vs:List Value}{x:α}(h:All2 Q [x] vs):∃v,vs=[v]∧Q x v:=by
 match vs,h with
 |[v],h=>exact⟨v,rfl,h.1⟩
theorem arr_one {α β:Type}{xs:Array α}{f:α→β}{v:β}(h:xs.toList.map f=[v]):∃x,xs= #[x]∧f x=v:=by
 match hx:xs.toList,h with
 |[x],h=>exact⟨x,by apply Array.ext';simpa using hx,by simpa using h⟩
theorem arr_two {α β:Type}{xs:Array α}{f:α→β}{v u:β}(h:xs.toList.map f=[v,u]):∃x y,xs= #[x,y]∧f x=v∧f y=u:=by
 match hx:xs.toList,h with
 |[x,y],h=>exact⟨x,y,by apply Array.ext';simpa using hx,by simpa using h⟩
theorem toList_one {α:Type}{xs:Array α}{x:α}(h:xs.toList=[x]):xs= #[x]:=by apply Array.ext';simpa using h
theorem toList_two {α:Type}{xs:Array α}{x y:α}(h:xs.toList=[x,y]):xs= #[x,y]:=by apply Array.ext';simpa using h
theorem op_len (hE:EnvOk P E)(h:Rel F c w R σ a){cl:Call}{l:Lf}{t n:Nat}{i:TI}(hop:o.op= .call cl)(hb:cl.callee= .builtin .len)(hav:avs σ cl.args.toList=some [(false,[l])])(ht:cl.argTypes.toList=[t])
 (hi:E.ty t=some i) (hk:kindOk i.k l=true) (hl:lenOf σ.heap l=some n):Does P o a w (Post F σ a ⟨vint .i64 n,[],[],[]⟩):=by
 obtain⟨dd,hu,_,_,hstr,hsl,_⟩:=(hE.ty t i hi).und
 obtain⟨v,hv1,hv⟩:=one_of (avs_rel h hav)
 obtain⟨x,hx,hxv⟩:=arr_one hv1
 have hv:l.rel c w R σ.heap v:=V1.one hv
 have hat:=toList_one ht
 have hres:(execOp a.eval o).run P w= .ok (.value (.int .i64 (n:Int))) w:=by
  rcases lenOf_rel h hl hv with⟨s,rfl,hvv,rfl⟩|⟨hns,ad,cp,hvv⟩
  ·have hks:i.k= .str:=by cases hik:i.k<;>simp[hik,kindOk]at hk;rfl
   have hu:P.underlying t=some .string:=by rw[hu,hstr hks]
   rw[hvv]at hxv
   simp[execOp,hop,hb,resolve,hx,invoke,builtin,Builtin.len_,hat,run_underlying hu,hxv,goInt]
  ·obtain⟨e,hks⟩:∃e,i.k= .sl e:=by
    cases hik:i.k with
    |sl e=>exact⟨e,rfl⟩
    |str=>
     rw[hik]at hk
     unfold kindOk at hk
     split at hk
     ·exact absurd rfl (hns _)
     all_goals simp_all
    |_=>simp[hik,kindOk]at hk
   have hu:P.underlying t=some (.slice e):=by rw[hu,hsl e hks]
   rw[hvv]at hxv
   simp[execOp,hop,hb,resolve,hx,invoke,builtin,Builtin.len_,hat,run_underlying hu,hxv,goInt]
 exact Does.run hres (Post.pure h ⟨_,rfl,rfl⟩)
theorem op_cap (hE:EnvOk P E)(h:Rel F c w R σ a){cl:Call}{t e:Nat}{i:TI}(hop:o.op= .call cl)(hb:cl.callee= .builtin .cap)(hav:avs σ cl.args.toList=some [(false,[.nil0])])(ht:cl.argTypes.toList=[t])
 (hi:E.ty t=some i) (hk:i.k= .sl e):Does P o a w (Post F σ a ⟨vint .i64 0,[],[],[]⟩):=by
 obtain⟨dd,hu,_,_,hstr,hsl,_⟩:=(hE.ty t i hi).und
 obtain⟨v,hv1,hv⟩:=one_of (avs_rel h hav)
 obtain⟨x,hx,hxv⟩:=arr_one hv1
 obtain⟨ad,hvv⟩:=V1.one hv
 have hat:=toList_one ht
 have hu:P.underlying t=some (.slice e):=by rw[hu,hsl e hk]
 rw[hvv]at hxv
 exact Does.run (v:= .int .i64 0) (w':=w) (by simp[execOp,hop,hb,resolve,hx,invoke,builtin,Builtin.cap_,hat,run_underlying hu,hxv,goInt]) (Post.pure h ⟨_,rfl,rfl⟩)
theorem mm_run {g:Bool}{k:IntKind}(mk:Value→Value→Sem Value)(hmk:∀k' x y,mk (.int k x) (.int k' y)=pure (.int k (mm g x y))):∀(l:List (Bool×List Lf)) (vs:List Value) (acc:Int) (r:AV),
 mmE g k acc (l.map fun p=> .v p.1 p.2) some=some r→All2 (fun p v=>V1.rel c w R σ.heap p.1 p.2 v) l vs→∃z,r=vint k z∧(vs.foldlM mk (.int k acc)).run P w= .ok (.int k z) w
 |[],vs,acc,r,he,h=>by
  cases vs with
  |cons _ _=>exact h.elim
  |nil=>
   simp[mmE]at he
   exact⟨acc,he.symm,by simp⟩
 |(g',ls)::l,vs,acc,r,he,h=>by
  cases vs with
  |nil=>exact h.elim
  |cons v vs=>
   simp only[List.map_cons]at he
   unfold mmE at he
   split at he
   ·rename_i heq
    cases heq
   ·rename_i k' y r' heq
    simp only[List.cons.injEq,AV.v.injEq]at heq
    obtain⟨⟨rfl,rfl⟩,rfl⟩:=heq
    have hv:v= .int k' y:=V1.one h.1
    subst hv
    obtain⟨z,h1,h2⟩:=mm_run mk hmk l vs _ r he h.2
    refine⟨z,h1,?_⟩
    rw[List.foldlM_cons,hmk]
    simpa using h2
   ·cases he
theorem op_mm (h:Rel F c w R σ a){cl:Call}{g:Bool}{k:IntKind}{x:Int}{r:List (Bool×List Lf)}{av:AV}(hop:o.op= .call cl)(hb:cl.callee= .builtin (match g with|true=> .max|false=> .min))
 (hav:avs σ cl.args.toList=some ((false,[.val (.int k x)])::r)) (hm:mmE g k x (r.map fun p=> .v p.1 p.2) some=some av):Does P o a w (Post F σ a ⟨av,[],[],[]⟩):=by
 have hv:=avs_rel h hav
 match hl:cl.args.toList,hv with
 |y::ys,hv=>
  have hy:a.eval y= .int k x:=V1.one hv.1
  have hargs:cl.args.map a.eval=(a.eval y::ys.map a.eval).toArray:=by
   apply Array.ext'
   simp[hl]
  cases g with
  |true=>
   obtain⟨z,rfl,h2⟩:=mm_run (P:=P) Builtin.max2 (fun k' x y=>by simp[Builtin.max2,mm]) r _ x av hm hv.2
   refine Does.run (v:= .int k z) (w':=w) ?_ (Post.pure h ⟨_,rfl,rfl⟩)
   simp only[execOp,hop,hb,resolve,invoke,builtin,Builtin.max_,hargs,hy]
   simp[h2]
  |false=>
   obtain⟨z,rfl,h2⟩:=mm_run (P:=P) Builtin.min2 (fun k' x y=>by simp[Builtin.min2,mm]) r _ x av hm hv.2
   refine Does.run (v:= .int k z) (w':=w) ?_ (Post.pure h ⟨_,rfl,rfl⟩)
   simp only[execOp,hop,hb,resolve,invoke,builtin,Builtin.min_,hargs,hy]
   simp[h2]
end
theorem guard_ok {P:Program}{op:BinOp}{t:Nat}{x y:Operand}{u v:Value}{w:World}(h:∀xs ys,u= .agg xs→v= .agg ys→P.eqGuardType P.depth t=false)(h1:u≠ .nilIface):(eqGuard op t x y u v).run P w= .ok () w:=by
 unfold eqGuard
 cases u<;>cases v<;>first
  |(exact absurd rfl h1)
  |(simp[h _ _ rfl rfl];try (split<;>simp))
  |(simp;try (split<;>simp))
section
variable {P:Program} {E:Env} {F:Fr} {c:Cc} {w:World} {R:Cls} {σ:St} {a:Act} {site:Nat} {o:Oper} {d:D}
theorem intRest_run {op:BinOp}{k k':IntKind}{x y:Int}{av:AV}(h:intRest k op x y some=some av)(hk:k=k'∨op= .shl∨op= .shr){t:Nat}(h0:op≠ .add∧op≠ .sub∧op≠ .mul∧op≠ .quo∧op≠ .rem):
 ∃z,av=vint k z∧(binOp op t (.int k x) (.int k' y)).run P w= .ok (.int k z) w:=by
 unfold intRest at h
 split at h
 ·by_cases hy:0≤y
  ·simp[hy]at h
   refine⟨_,h.symm,?_⟩
   have:¬y<0:=by omega
   simp[binOp,Op.shift,this]
  ·simp[hy]at h
 ·by_cases hy:0≤y
  ·simp[hy]at h
   refine⟨_,h.symm,?_⟩
   have:¬y<0:=by omega
   simp[binOp,Op.shift,this]
  ·simp[hy]at h
 ·rename_i hn1 hn2
  split at h
  ·rename_i r hr
   injection h with h
   have hkk:k=k':=by
    rcases hk with hk|hk|hk
    ·exact hk
    ·exact absurd hk (hn1)
    ·exact absurd hk (hn2)
   subst hkk
   cases op<;>simp[bitsOf]at hr<;>subst hr<;>exact⟨_,h.symm,by simp[binOp,Op.intBits]⟩
  ·cases h
theorem intBin_run {op:BinOp}{k:IntKind}{x y:Int}{av:AV}(h:intBin op k x y (intRest k) some=some av){t:Nat}:
 ∃v,(∀c w R H,av.rel c w R H v)∧(binOp op t (.int k x) (.int k y)).run P w= .ok v w:=by
 unfold intBin at h
 split at h
 ·injection h with h;subst h;exact⟨_,fun _ _ _ _=>⟨_,rfl,rfl⟩,by simp[binOp,Op.intArith]⟩
 ·injection h with h;subst h;exact⟨_,fun _ _ _ _=>⟨_,rfl,rfl⟩,by simp[binOp,Op.intArith]⟩
 ·injection h with h;subst h;exact⟨_,fun _ _ _ _=>⟨_,rfl,rfl⟩,by simp[binOp,Op.intArith]⟩
 ·by_cases hy:y=0
  ·simp[hy]at h
  ·have:(y==0)=false:=by simpa using hy
   simp[this]at h
   subst h
   exact⟨_,fun _ _ _ _=>⟨_,rfl,rfl⟩,by simp[binOp,Op.intDiv,hy]⟩
 ·by_cases hy:y=0
  ·simp[hy]at h
  ·have:(y==0)=false:=by simpa using hy
   simp[this]at h
   subst h
   exact⟨_,fun _ _ _ _=>⟨_,rfl,rfl⟩,by simp[binOp,Op.intDiv,hy]⟩
 ·injection h with h;subst h;exact⟨_,fun _ _ _ _=>⟨_,rfl,rfl⟩,by simp[binOp,Op.intCmp]⟩
 ·injection h with h;subst h;exact⟨_,fun _ _ _ _=>⟨_,rfl,rfl⟩,by simp[binOp,Op.intCmp]⟩
 ·injection h with h;subst h;exact⟨_,fun _ _ _ _=>⟨_,rfl,rfl⟩,by simp[binOp,Op.intCmp]⟩
 ·injection h with h;subst h;exact⟨_,fun _ _ _ _=>⟨_,rfl,rfl⟩,by simp[binOp,Op.intCmp]⟩
 ·injection h with h;subst h;exact⟨_,fun _ _ _ _=>⟨_,rfl,rfl⟩,by simp[binOp,Op.intCmp]⟩
 ·injection h with h;subst h;exact⟨_,fun _ _ _ _=>⟨_,rfl,rfl⟩,by simp[binOp,Op.intCmp]⟩
 ·rename_i h1 h2 h3 h4 h5 _ _ _ _ _ _
  obtain⟨z,rfl,hr⟩:=intRest_run (P:=P) (w:=w) (t:=t) h (.inl rfl) ⟨h1,h2,h3,h4,h5⟩
  exact⟨_,fun _ _ _ _=>⟨_,rfl,rfl⟩,hr⟩
theorem strBin_run {op:BinOp}{x y:ByteArray}{av:AV}(h:strBin op x y some=some av){t:Nat}:∃v,(∀c w R H,av.rel c w R H v)∧(binOp op t (.string x) (.string y)).run P w= .ok v w:=by
 unfold strBin at h
 split at h
 ·injection h with h;subst h;exact⟨_,fun _ _ _ _=>⟨_,rfl,rfl⟩,by simp[binOp,Op.stringOp]⟩
 ·injection h with h;subst h;exact⟨_,fun _ _ _ _=>⟨_,rfl,rfl⟩,by simp[binOp,Op.stringOp]⟩
 ·injection h with h;subst h;exact⟨_,fun _ _ _ _=>⟨_,rfl,rfl⟩,by simp[binOp,Op.stringOp]⟩
 ·injection h with h;subst h;exact⟨_,fun _ _ _ _=>⟨_,rfl,rfl⟩,by simp[binOp,Op.stringOp]⟩
 ·injection h with h;subst h;exact⟨_,fun _ _ _ _=>⟨_,rfl,rfl⟩,by simp[binOp,Op.stringOp]⟩
 ·injection h with h;subst h;exact⟨_,fun _ _ _ _=>⟨_,rfl,rfl⟩,by simp[binOp,Op.stringOp]⟩
 ·by_cases hs:x.size+y.size<281474976710656
  ·simp[hs]at h
   subst h
   refine⟨_,fun _ _ _ _=>⟨_,rfl,rfl⟩,?_⟩
   have:¬(((x.size+y.size:Nat):Int)>IntKind.i64.max):=by
    show¬((9223372036854775807:Int)<((x.size+y.size:Nat):Int))
    omega
   have this':¬(IntKind.i64.max<(x.size:Int)+(y.size:Int)):=by
    show¬((9223372036854775807:Int)<_)
    omega
   have h3:(x.size:Int)+(y.size:Int)≤9223372036854775807:=by omega
   simp[binOp,Op.stringOp,this,this']
   exact h3
  ·simp[hs]at h
 ·cases h
theorem scalar_eq {f:Field}{z:Value}{l:Lf}{g h:Sg}{v u:Value}{r:Bool}{d:Nat}(hu:(match P.underlying f.type,z with|some (.int _), .int _ _=>true|some .bool, .bool _=>true|some .string, .string _=>true|_,_=>false)=true)
 (hz:zl l z=true) (hk:kindsOk [l] [g]=true) (he:sgsEq [g] [h]=some r) (hv:g.ro w R v) (hv':h.ro w R u):(Op.equalIn (d+1) f.type v u).run P w= .ok r w∧∃dd,P.underlying f.type=some dd∧descAgg dd=false:=by
 cases l with
 |val s=>
  cases g with
  |int k a=>
   cases s with
   |int k0 a0=>
    cases h with
    |int k' b=>
     have hkk:k=k':=by
      by_cases hkk:k=k'
      ·exact hkk
      ·simp[sgsEq,hkk]at he
     subst hkk
     simp[sgsEq]at he
     cases hv
     cases hv'
     cases z<;>simp[zl]at hz
     cases hud:P.underlying f.type with
     |none=>simp[hud]at hu
     |some dd=>
      cases dd<;>simp[hud]at hu
      exact⟨by simp[Op.equalIn,run_underlying hud,he],_,rfl,rfl⟩
    |_=>simp[sgsEq]at he
   |_=>simp[kindsOk]at hk
  |bool a=>
   cases s<;>simp[kindsOk]at hk
   cases h<;>simp[sgsEq]at he
   cases hv
   cases hv'
   cases z<;>simp[zl]at hz
   cases hud:P.underlying f.type with
   |none=>simp[hud]at hu
   |some dd=>
    cases dd<;>simp[hud]at hu
    exact⟨by simp[Op.equalIn,run_underlying hud,he],_,rfl,rfl⟩
  |str a=>
   cases s<;>simp[kindsOk]at hk
   cases h<;>simp[sgsEq]at he
   cases hv
   cases hv'
   cases z<;>simp[zl]at hz
   cases hud:P.underlying f.type with
   |none=>simp[hud]at hu
   |some dd=>
    cases dd<;>simp[hud]at hu
    exact⟨by simp[Op.equalIn,run_underlying hud,beq_toListBytes,he],_,rfl,rfl⟩
  |_=>cases s<;>simp[kindsOk]at hk
 |_=>cases g<;>simp[kindsOk]at hk
theorem sgsEq_cons {g h:Sg}{gs hs:List Sg}{r:Bool}(he:sgsEq (g::gs) (h::hs)=some r):∃r0 r1,sgsEq [g] [h]=some r0∧sgsEq gs hs=some r1∧r=(r0&&r1):=by
 cases hc:sgsEq gs hs with
 |none=>cases g<;>cases h<;>simp[sgsEq,hc]at he
 |some c=>
  cases g<;>cases h<;>simp only[sgsEq,hc]at he<;>try (cases he;done)
  ·rename_i k a k' b
   by_cases hk:k=k'
   ·subst hk
    simp at he
    exact⟨a==b,c,by simp[sgsEq],rfl,he.symm⟩
   ·simp[hk]at he
  ·rename_i a b
   injection he with he
   exact⟨a==b,c,by simp[sgsEq],rfl,he.symm⟩
  ·rename_i a b
   injection he with he
   exact⟨a.toList==b.toList,c,by simp[sgsEq],rfl,he.symm⟩
theorem kindsOk_cons {l:Lf}{ls:List Lf}{g:Sg}{gs:List Sg}(h:kindsOk (l::ls) (g::gs)=true):kindsOk [l] [g]=true∧kindsOk ls gs=true:=by
 cases l with
 |val s=>cases s<;>cases g<;>simp[kindsOk]at h⊢<;>exact h
 |_=>cases g<;>simp[kindsOk]at h
theorem eqFields_run {d:Nat}{xs ys:Array Value}:∀{fs:List Field} {zs:List Value} {j:Nat} {ls:List Lf} {gs hs:List Sg} {r:Bool},scalarChk P j fs zs=true→all2 zl ls zs=true→kindsOk ls gs=true→sgsEq gs hs=some r→
 (∀q g,gs[q]? =some g→∃v,xs[j+q]? =some v∧g.ro w R v)→(∀q g,hs[q]? =some g→∃v,ys[j+q]? =some v∧g.ro w R v)→(Op.eqFields (d+1) xs ys fs).run P w= .ok r w
 |[],[],j,ls,gs,hs,r,hc,hz,hk,he,hx,hy=>by
  cases ls with
  |cons _ _=>simp[all2]at hz
  |nil=>
   cases gs with
   |cons g _=>cases g<;>simp[kindsOk]at hk
   |nil=>
    cases hs with
    |nil=>simp[sgsEq]at he;subst he;simp[Op.eqFields]
    |cons _ _=>simp[sgsEq]at he
 |[],_::_,j,ls,gs,hs,r,hc,hz,hk,he,hx,hy=>by simp[scalarChk]at hc
 |f::fs,[],j,ls,gs,hs,r,hc,hz,hk,he,hx,hy=>by simp[scalarChk]at hc
 |f::fs,z::zs,j,[],gs,hs,r,hc,hz,hk,he,hx,hy=>by simp[all2]at hz
 |f::fs,z::zs,j,l::ls,[],hs,r,hc,hz,hk,he,hx,hy=>by cases l with|val s=>cases s<;>simp[kindsOk]at hk|_=>simp[kindsOk]at hk
 |f::fs,z::zs,j,l::ls,g::gs,[],r,hc,hz,hk,he,hx,hy=>by cases g<;>simp[sgsEq]at he
 |f::fs,z::zs,j,l::ls,g::gs,h::hs,r,hc,hz,hk,he,hx,hy=>by
  simp only[scalarChk,Bool.and_eq_true,decide_eq_true_eq,Bool.not_eq_true']at hc
  obtain⟨⟨⟨hoff,hname⟩,hu⟩,hc⟩:=hc
  have hname':f.name≠ "_" :=by simpa using hname
  simp only[all2,Bool.and_eq_true]at hz
  obtain⟨hk1,hk2⟩:=kindsOk_cons hk
  obtain⟨r0,r1,he1,he2,hr⟩:=sgsEq_cons he
  obtain⟨v,hv,hv1⟩:=hx 0 g rfl
  obtain⟨u,hv',hv2⟩:=hy 0 h rfl
  simp only[Nat.add_zero]at hv hv'
  obtain⟨h3,dd,h4,h5⟩:=scalar_eq (d:=d) hu hz.1 hk1 he1 hv1 hv2
  have hrest:=eqFields_run (d:=d) (xs:=xs) (ys:=ys) hc hz.2 hk2 he2 (fun q g' hg=>by rw[show j+1+q=j+(q+1) by omega];exact hx (q+1) g' (by simpa using hg)) (fun q g' hg=>by rw[show j+1+q=j+(q+1) by omega];exact hy (q+1) g' (by simpa using hg))
  have hagg:(isAgg f.type).run P w= .ok false w:=by
   unfold isAgg
   simp only[Sem.run_bind,run_underlying h4,Result.andThen_ok]
   rw[←h5]
   cases dd<;>rfl
  have hp1:(part f.type xs f.offset).run P w= .ok v w:=by simp[part,hagg,hoff,hv]
  have hp2:(part f.type ys f.offset).run P w= .ok u w:=by simp[part,hagg,hoff,hv']
  rw[Op.eqFields]
  simp only[if_pos hname',Sem.run_bind,hp1,hp2,h3,Result.andThen_ok]
  cases r0
  ·simp at hr;subst hr;simp
  ·simp at hr;subst hr;simpa using hrest
theorem equalIn_bool (d:Nat){t:Nat}{x y:Bool}(hu:P.underlying t=some .bool):(Op.equalIn (d+1) t (.bool x) (.bool y)).run P w= .ok (x==y) w:=by
 simp[Op.equalIn,run_underlying hu]
theorem empty_rel (h:Rel F c w R σ a){av:AV}{e:Bool}{v:Value}(he:emptyOf σ.heap av=some e)(hv:av.rel c w R σ.heap v):(∃ad n cp,v= .slice ad n cp)∧(e=false→∃ad n cp,v= .slice (some ad) n cp):=by
 unfold emptyOf at he
 split at he
 ·rename_i T xs
  have he:=Option.some.inj he
  have hv:LTy.ro w R (.sl T) xs v:=V1.one hv
  rcases hv with⟨h1,ad,cp,rfl⟩|⟨b,o,cp,rfl,_⟩
  ·refine⟨⟨ad,0,cp,rfl⟩,fun e0=> ?_⟩
   subst h1
   rw[←he]at e0
   cases e0
  ·exact⟨⟨_,_,_,rfl⟩,fun _=>⟨_,_,_,rfl⟩⟩
 ·have he:=Option.some.inj he
  obtain⟨ad,rfl⟩:=(show∃ad,v= .slice ad 0 0 from V1.one hv)
  exact⟨⟨_,_,_,rfl⟩,fun e0=>by rw[←he]at e0;cases e0⟩
 ·rename_i n
  split at he
  ·rename_i T d xs hl
   have he:=Option.some.inj he
   have hv:=(show(Lf.ref n).rel c w R σ.heap v from V1.one hv) T d xs hl
   cases hz:c.at_ n with
   |none=>
    rw[hz]at hv
    obtain⟨ad,rfl⟩:=hv
    refine⟨⟨_,_,_,rfl⟩,fun e0=> ?_⟩
    have hx:xs=[]:=by
     have:=h.hp n _ hl
     cases d<;>simp only[Ent.rel,hz]at this<;>exact this.1
    subst hx
    rw[←he]at e0
    cases e0
   |some z=>
    rw[hz]at hv
    obtain⟨cp,rfl,_⟩:=hv
    exact⟨⟨_,_,_,rfl⟩,fun _=>⟨_,_,_,rfl⟩⟩
  ·cases he
 ·cases he
theorem equalIn_nil (k:Nat){t q n cp:Nat}{ad:Option Addr}(hu:P.underlying t=some (.slice q)):(Op.equalIn (k+1) t (.slice ad n cp) (.slice none 0 0)).run P w= .ok ad.isNone w:=by
 cases ad<;>simp[Op.equalIn,run_underlying hu]
theorem nil_run {op:BinOp}{e:Bool}{av:AV}{t q:Nat}{v:Value}(hu:P.underlying t=some (.slice q))(hn:nilE op e some=some av)(hv:(∃ad n cp,v= .slice ad n cp)∧(e=false→∃ad n cp,v= .slice (some ad) n cp)):
 ∃u,(∀c w R H,av.rel c w R H u)∧(binOp op t v (.slice none 0 0)).run P w= .ok u w:=by
 obtain⟨⟨ad,n,cp,rfl⟩,h2⟩:=hv
 have heq:(Op.equal t (.slice ad n cp) (.slice none 0 0)).run P w= .ok ad.isNone w:=by
  exact equalIn_nil 9999 hu
 unfold nilE at hn
 split at hn
 ·cases e with
  |true=>cases hn;exact⟨.bool ad.isNone,fun _ _ _ _=>⟨_,rfl⟩,by simp[binOp,heq]⟩
  |false=>
   cases hn
   obtain⟨ad',n',cp',h3⟩:=h2 rfl
   cases h3
   exact⟨.bool false,fun _ _ _ _=>⟨_,rfl,rfl⟩,by simp[binOp,heq]⟩
 ·cases e with
  |true=>cases hn;exact⟨.bool !ad.isNone,fun _ _ _ _=>⟨_,rfl⟩,by simp[binOp,heq]⟩
  |false=>
   cases hn
   obtain⟨ad',n',cp',h3⟩:=h2 rfl
   cases h3
   exact⟨.bool true,fun _ _ _ _=>⟨_,rfl,rfl⟩,by simp[binOp,heq]⟩
 ·cases hn
theorem nilE_out {op:BinOp}{e:Bool}{d:D}(h:nilE op e (fun a=>some (D.mk a [] [] []))=some d):∃av,nilE op e some=some av∧d=⟨av,[],[],[]⟩:=by
 unfold nilE at h⊢
 cases op<;>cases e<;>simp at h⊢<;>exact h.symm
theorem isNilC_eq {y:Operand}(h:isNilC y=true):y= .const (.slice none 0 0):=by
 unfold isNilC at h
 split at h
 ·rfl
 ·cases h
theorem op_binOp (hE:EnvOk P E)(h:Rel F c w R σ a){op:BinOp}{t u:Nat}{x y:Operand}(hop:o.op= .binOp op t x y u)(hd:opD E σ site o some=some d):Does P o a w (Post F σ a d):=by
 simp only[opD,hop]at hd
 split at hd
 ·rename_i i av bv hi hx hy
  have hT:=hE.ty t i hi
  have hv:=eval_rel h hx
  have hv':=eval_rel h hy
  split at hd
  ·rename_i hnil
   simp only[Bool.and_eq_true]at hnil
   have hy0:=isNilC_eq hnil.1
   obtain⟨q,hq⟩:∃q,i.k= .sl q:=by
    have:=hnil.2
    unfold isSl at this
    split at this
    ·exact⟨_,by assumption⟩
    ·cases this
   obtain⟨dd,hu,_,_,_,hsl,_⟩:=hT.und
   have hu:P.underlying t=some (.slice q):=by rw[hu,hsl q hq]
   split at hd
   ·rename_i e he
    obtain⟨av',hne,rfl⟩:=nilE_out hd
    have hev:a.eval y= .slice none 0 0:=by rw[hy0];rfl
    have hem:=empty_rel h he hv
    obtain⟨v,h1,h2⟩:=nil_run (P:=P) (w:=w) hu hne hem
    obtain⟨ad,n,cp,hx0⟩:=hem.1
    rw[←hev]at h2
    have hg:=guard_ok (P:=P) (op:=op) (t:=t) (x:=x) (y:=y) (u:=a.eval x) (v:=a.eval y) (w:=w) (fun xs ys h3 _=>by rw[hx0]at h3;cases h3) (by rw[hx0];simp)
    exact Does.run (v:=v) (w':=w) (by simp[execOp,hop,hg,h2]) (Post.pure h (h1 c w R σ.heap))
   ·cases hd
  have key:∃v av',d=⟨av',[],[],[]⟩∧av'.rel c w R σ.heap v∧(∀xs ys,a.eval x= .agg xs→a.eval y= .agg ys→P.eqGuardType P.depth t=false)∧a.eval x≠ .nilIface∧(binOp op t (a.eval x) (a.eval y)).run P w= .ok v w:=by
   have hb:∃av',binE i.k i.eq i.zero op av bv some=some av'∧d=⟨av',[],[],[]⟩:=by
    rw[binE_bind]at hd
    cases hbe:binE i.k i.eq i.zero op av bv some with
    |none=>rw[hbe]at hd;cases hd
    |some av'=>rw[hbe]at hd;injection hd with hd;exact⟨av',rfl,hd.symm⟩
   obtain⟨av',hb,hd⟩:=hb
   suffices hs:∃v,av'.rel c w R σ.heap v∧(∀xs ys,a.eval x= .agg xs→a.eval y= .agg ys→P.eqGuardType P.depth t=false)∧a.eval x≠ .nilIface∧(binOp op t (a.eval x) (a.eval y)).run P w= .ok v w by
    obtain⟨v,h1⟩:=hs
    exact⟨v,av',hd,h1⟩
   unfold binE at hb
   split at hb
   ·rename_i k x' k' y'
    have e1:a.eval x= .int k x':=V1.one hv
    have e2:a.eval y= .int k' y':=V1.one hv'
    rw[e1,e2]
    by_cases hk:k=k'
    ·subst hk
     simp only[decide_true]at hb
     obtain⟨v,h1,h2⟩:=intBin_run (P:=P) (w:=w) (t:=t) hb
     exact⟨v,h1 c w R σ.heap,fun _ _ h=>(by cases h),by simp,h2⟩
    ·simp only[hk,decide_false]at hb
     split at hb
     ·obtain⟨z,rfl,h2⟩:=intRest_run (P:=P) (w:=w) (t:=t) (k':=k') hb (.inr (.inl rfl)) (by simp)
      exact⟨_,⟨_,rfl,rfl⟩,fun _ _ h=>(by cases h),by simp,h2⟩
     ·obtain⟨z,rfl,h2⟩:=intRest_run (P:=P) (w:=w) (t:=t) (k':=k') hb (.inr (.inr rfl)) (by simp)
      exact⟨_,⟨_,rfl,rfl⟩,fun _ _ h=>(by cases h),by simp,h2⟩
     ·cases hb
   ·rename_i x' y'
    have e1:a.eval x= .string x':=V1.one hv
    have e2:a.eval y= .string y':=V1.one hv'
    rw[e1,e2]
    obtain⟨v,h1,h2⟩:=strBin_run (P:=P) (w:=w) (t:=t) hb
    exact⟨v,h1 c w R σ.heap,fun _ _ h=>(by cases h),by simp,h2⟩
   ·rename_i x' y'
    have e1:a.eval x= .bool x':=V1.one hv
    have e2:a.eval y= .bool y':=V1.one hv'
    rw[e1,e2]
    have he:i.k= .bool→(Op.equal t (.bool x') (.bool y')).run P w= .ok (x'==y') w:=by
     intro hk
     exact equalIn_bool 9999 (hT.bl hk)
    split at hb
    ·rename_i hk
     injection hb with hb
     subst hb
     exact⟨.bool (x'==y'),⟨_,rfl,rfl⟩,fun _ _ h=>(by cases h),by simp,by simp[binOp,he hk]⟩
    ·rename_i hk
     injection hb with hb
     subst hb
     exact⟨.bool (!(x'==y')),⟨_,rfl,rfl⟩,fun _ _ h=>(by cases h),by simp,by simp[binOp,he hk]⟩
    ·cases hb
   ·rename_i ls ms
    obtain⟨vs,e1,hvs⟩:=hv
    obtain⟨us,e2,hus⟩:=hv'
    rw[e1,e2]
    split at hb
    ·rename_i gs hs hgs hhs
     have hvs:=vals_rel hgs hvs
     have hus:=vals_rel hhs hus
     split at hb
     ·rename_i cc hcc
      have he:(i.eq&&kindsOk i.zero gs)=true→(Op.equal t (.agg vs.toArray) (.agg us.toArray)).run P w= .ok cc w∧P.eqGuardType P.depth t=false:=by
       intro hk
       simp only[Bool.and_eq_true]at hk
       obtain⟨fs,zs,hu,hst,hfl,hsc,hz,hg⟩:=hT.eqs hk.1
       refine⟨?_,hg⟩
       unfold Op.equal
       rw[show Op.maxDepth=9998+1+1 from rfl]
       have hf:P.fieldsOf t=fs:=by simp[Program.fieldsOf,hu]
       rw[run_equalIn_struct (P:=P) w _ t _ _ (by rw[hf];exact hu) hst,hf]
       refine eqFields_run (R:=R) hsc hz hk.2 hcc (fun q g hq=> ?_) (fun q g hq=> ?_)
       ·obtain⟨v,h1,h2⟩:=hvs.get q g hq
        exact⟨v,by simpa using h1,h2⟩
       ·obtain⟨v,h1,h2⟩:=hus.get q g hq
        exact⟨v,by simpa using h1,h2⟩
      split at hb
      ·rename_i hk
       injection hb with hb
       subst hb
       obtain⟨h1,h2⟩:=he hk
       exact⟨.bool cc,⟨_,rfl,rfl⟩,fun _ _ _ _=>h2,by simp,by simp[binOp,h1]⟩
      ·rename_i hk
       injection hb with hb
       subst hb
       obtain⟨h1,h2⟩:=he hk
       exact⟨.bool (!cc),⟨_,rfl,rfl⟩,fun _ _ _ _=>h2,by simp,by simp[binOp,h1]⟩
      ·cases hb
     ·cases hb
    ·cases hb
   ·cases hb
  obtain⟨v,av',rfl,h1,h2,h3,h4⟩:=key
  exact Does.run (v:=v) (w':=w) (by simp[execOp,hop,guard_ok h2 h3,h4]) (Post.pure h h1)
 ·cases hd
end
end V
end Go.Proofs.YtcbeaoigenjoeaeGreat
