/- The plain law of FnExactBlameOf: what the printed functions compute is true, for all data in range. -/
import Derived.Test.YtcbeaoigenjoeacGreatXBlameOfPure0
namespace Go.Proofs.YtcbeaoigenjoeacGreat
open V
set_option linter.unusedVariables false
set_option linter.unusedSimpArgs false
set_option maxHeartbeats 1000000
theorem bnd {α β:Type}{e:Option α}{a:α}{f:α→Option β}{r:Option β}(h:e=some a)(hf:f a=r):e.bind f=r:=by rw[h,bind_s];exact hf
theorem cF {α:Type}{c:Bool}{a b r:α}(h:c=false)(hb:b=r):(bif c then a else b)=r:=by rw[h,cond_f];exact hb
theorem cT {α:Type}{c:Bool}{a b r:α}(h:c=true)(ha:a=r):(bif c then a else b)=r:=by rw[h,cond_t];exact ha
theorem nbeq {α:Type}[BEq α][ReflBEq α](a:α):(!(a==a))=false:=by rw[beq_self_eq_true];rfl
def szR (s:Nat)(L:Int):Int:=if(s:Int)≤L then L-s else-1
theorem szR_b {s1 s2:Nat}{L:Int}(h0:0≤L)(h1:L≤1050000){e:Option Int}(he:e=some (szR s1 L)){f:Int→Option Int}(hf:∀M,0≤M→M≤1050000→f M=some (szR s2 M)):(e.bind fun y=>bif decide (y<(0:Int))then some (-1:Int)else f y)=some (szR (s1+s2) L):=by
 rw[he,bind_s]
 unfold szR
 by_cases g:(s1:Int)≤L
 ·rw[if_pos g,decide_eq_false (by omega),cond_f,hf _ (by omega) (by omega)]
  unfold szR
  by_cases k:(s2:Int)≤L-s1
  ·rw[if_pos k,if_pos (by omega)];congr 1;omega
  ·rw[if_neg k,if_neg (by omega)]
 ·rw[if_neg g,decide_eq_true (by omega),cond_t,if_neg (by omega)]
theorem szR_l {s:Nat}{L:Int}(h0:0≤L){e:Option Int}(he:e=some (szR s L)):(e.bind fun y=>bif decide (y<(0:Int))then some (-1:Int)else some y)=some (szR s L):=by
 rw[he,bind_s]
 unfold szR
 by_cases g:(s:Int)≤L
 ·rw[if_pos g,decide_eq_false (by omega),cond_f]
 ·rw[if_neg g,decide_eq_true (by omega),cond_t]
theorem sz_law {s:Nat}{L:Int}(h0:0≤L){e:Option Int}(he:e=some (szR s L)){f:Int→Option Bool}(hf:(s:Int)≤L→f (L-s)=some true):(e.bind fun y=>bif decide (y<(0:Int))then some true else f y)=some true:=by
 rw[he,bind_s]
 unfold szR
 by_cases g:(s:Int)≤L
 ·rw[if_pos g,decide_eq_false (by omega),cond_f];exact hf g
 ·rw[if_neg g,decide_eq_true (by omega),cond_t]
def fnd {α:Type}(p:α→Bool):List α→Int→Int
 |[],_=> -1
 |x::xs,k=>bif p x then k else fnd p xs (k+1)
theorem fnd_cons {α:Type}(p:α→Bool)(x:α)(xs:List α)(k:Int):fnd p (x::xs) k=bif p x then k else fnd p xs (k+1):=rfl
theorem fnd_step {α:Type}(p:α→Bool){xs:List α}{i:Nat}(h:i<xs.length):fnd p (xs.drop i) (i:Int)=bif p xs[i]then(i:Int)else fnd p (xs.drop (i+1)) ((i+1:Nat):Int):=by
 rw[List.drop_eq_getElem_cons h,fnd_cons];rfl
theorem fnd_last {α:Type}(p:α→Bool)(xs:List α)(k:Int):fnd p (xs.drop xs.length) k= -1:=by
 rw[List.drop_length];rfl
theorem fnd_ge {α:Type}(p:α→Bool)(xs:List α):∀k:Int,0≤k→decide (fnd p xs k≥0)=xs.any p:=by
 induction xs with
 |nil=>intro k hk;rfl
 |cons x t ih=>
  intro k hk
  rw[fnd_cons,List.any_cons]
  cases p x with
  |true=>rw[cond_t,Bool.true_or];exact decide_eq_true hk
  |false=>rw[cond_f,Bool.false_or];exact ih _ (by omega)
theorem l1In_v (a b c:Int):spec_l1In a b c=some (decide (b≤a)&&decide (a≤c)):=by
 show(bif decide (b≤a)then some (decide (a≤c))else some false)=_
 cases decide (b≤a)<;>rfl
theorem InRange_v (a b c:Int):impl_InRange a b c=some (decide (b≤a)&&decide (a≤c)):=by
 show(bif decide (b≤a)then some (decide (a≤c))else some false)=_
 cases decide (b≤a)<;>rfl
def sizeS {α:Type}(size:α→Nat)(xs:List α):Nat:=xs.length+(xs.map size).sum
theorem toList_v {α:Type}(xs:List α)(d:α)(f:α→Option α)(hl:xs.length≤1050000)(hf:∀i (h:i<xs.length),f xs[i]=some xs[i])(l:Nat→Int→List α→Option (List α))(u:∀n a ys,l (n+1) a ys=(bif decide (a<(xs.length:Int))then bif decide (0≤a)then bif decide (a<(xs.length:Int))then(f (xs.getD a.toNat d)).bind fun y1=>bif decide (0≤a)then bif decide (a<(ys.length:Int))then l n (IntKind.i64.wrap (a+(1:Int))) (ys.set a.toNat y1)else none else none else none else none else some ys)):(bif((xs.length:Int)==(xs.length:Int))then bif decide (0≤(xs.length:Int))then bif decide ((xs.length:Int)<(68719476736:Int))then l KK (0:Int) (List.replicate ((xs.length:Int).toNat) d)else none else none else none)=some xs:=by
 have hh:∀i n,i≤xs.length→xs.length-i<n→∀ys,ys=xs.take i++List.replicate (xs.length-i) d→l n (i:Int) ys=some xs:=by
  refine idx_ind ?_ ?_
  ·intro n ys hy
   subst hy
   rw[u]
   simp only[lt_f (Nat.le_refl _),cond_f]
   simp
  ·intro i n hi ih ys hy
   have hyl:i<ys.length:=by subst hy;simp;omega
   rw[u]
   simp only[lt_t hi,lt_t hyl,ge_t,cond_t,Int.toNat_natCast,at_n hi,hf i hi,bind_s,w64_succ (i:=i) (by omega)]
   exact ih _ (fill_set hy hi)
 rw[beq_self_eq_true,cond_t,ge_t,cond_t,decide_eq_true (by omega),cond_t,Int.toNat_natCast]
 have:=hh 0 KK (Nat.zero_le _) (KK_gt (by omega)) _ rfl
 simpa using this
theorem eqList_v {α:Type}(xs:List α)(d:α)(f:α→α→Option Bool)(hl:xs.length≤1152921504606846976)(hf:∀i (h:i<xs.length),f xs[i] xs[i]=some true)(l:Nat→Int→Option Bool)(u:∀n a,l (n+1) a=(bif decide (a<(xs.length:Int))then bif decide (0≤a)then bif decide (a<(xs.length:Int))then bif decide (0≤a)then bif decide (a<(xs.length:Int))then(f (xs.getD a.toNat d) (xs.getD a.toNat d)).bind fun y1=>bif !y1 then some false else l n (IntKind.i64.wrap (a+(1:Int)))else none else none else none else none else some true)):(bif(xs.length:Int) !=(xs.length:Int)then some false else l KK (0:Int))=some true:=by
 have hh:∀i n,i≤xs.length→xs.length-i<n→l n (i:Int)=some true:=by
  refine idx_ind ?_ ?_
  ·intro n
   rw[u]
   simp only[lt_f (Nat.le_refl _),cond_f]
  ·intro i n hi ih
   rw[u]
   simp only[lt_t hi,ge_t,cond_t,Int.toNat_natCast,at_n hi,hf i hi,bind_s,w64_succ (i:=i) (by omega),Bool.not_true,cond_f]
   exact ih
 rw[bne_self,cond_f]
 exact hh 0 KK (Nat.zero_le _) (KK_gt (by omega))
theorem upd_ln {α:Type}(xs:List α)(i:Nat)(f:α→α):(upd xs i f).length=xs.length:=by
 induction xs generalizing i with
 |nil=>rfl
 |cons x t ih=>
  cases i with
  |zero=>rfl
  |succ i=>show(upd t i f).length+1=_;rw[ih];rfl
theorem upd_upd {α:Type}(xs:List α)(i:Nat)(f g:α→α):upd (upd xs i f) i g=upd xs i (fun z=>g (f z)):=by
 induction xs generalizing i with
 |nil=>rfl
 |cons x t ih=>
  cases i with
  |zero=>rfl
  |succ i=>show x::upd (upd t i f) i g=x::_;rw[ih]
theorem upd_get {α:Type}{xs:List α}{i:Nat}(h:i<xs.length)(f:α→α)(d:α):(upd xs i f).getD i d=f xs[i]:=by
 induction xs generalizing i with
 |nil=>simp at h
 |cons x t ih=>
  cases i with
  |zero=>rfl
  |succ i=>exact ih (by simpa using h)
theorem upd_st {α:Type}{xs:List α}{i:Nat}(h:i<xs.length)(f:α→α):upd xs i f=xs.set i (f xs[i]):=by
 induction xs generalizing i with
 |nil=>simp at h
 |cons x t ih=>
  cases i with
  |zero=>rfl
  |succ i=>show x::upd t i f=x::_;rw[ih (by simpa using h)];rfl
theorem wd {n:Int}(h:0≤n∧n≤4611686018427387904):IntKind.i64.wrap n=n:=w64 (by omega) (by omega)
def mkl {α:Type}(M:α→Int→α)(E:α→Int→Int):List α→Int→List α
 |[],_=>[]
 |x::t,k=>M x k::mkl M E t (E x k)
def endl {α:Type}(E:α→Int→Int):List α→Int→Int
 |[],k=>k
 |x::t,k=>endl E t (E x k)
theorem endl_b {α:Type}(E:α→Int→Int)(size:α→Nat)(hE:∀x k,k≤E x k∧E x k≤k+64*(1+size x))(xs:List α):∀k,k≤endl E xs k∧endl E xs k≤k+64*(sizeS size xs:Nat):=by
 induction xs with
 |nil=>intro k;exact⟨Int.le_refl _,by show k≤_;omega⟩
 |cons x t ih=>
  intro k
  have h1:=hE x k
  have h2:=ih (E x k)
  have e:sizeS size (x::t)=1+size x+sizeS size t:=by unfold sizeS;simp;omega
  show k≤endl E t (E x k)∧endl E t (E x k)≤_
  rw[e]
  omega
theorem mark_l {α:Type}(M:α→Int→α)(E:α→Int→Int)(size:α→Nat)(hE:∀x k,k≤E x k∧E x k≤k+64*(1+size x))(l:Nat→Int→Int→List α→Option (List α×Int))(u0:∀n k (ys:List α),l (n+1) k (ys.length:Int) ys=some (ys,k))(u:∀n k (i:Nat) (ys:List α) (hi:i<ys.length),0≤k→k+64*(1+(size ys[i]:Int))≤2305843009213693952→(i:Int)≤2305843009213693952→l (n+1) k (i:Int) ys=l n (E ys[i] k) ((i+1:Nat):Int) (ys.set i (M ys[i] k))):∀(suf pre:List α) (k:Int) (n:Nat),suf.length<n→0≤k→k+64*(sizeS size suf:Nat)≤2305843009213693952→(pre.length:Int)+suf.length≤2305843009213693952→l n k (pre.length:Int) (pre++suf)=some (pre++mkl M E suf k,endl E suf k):=by
 intro suf
 induction suf with
 |nil=>
  intro pre k n hn h0 h1 h2
  match n,hn with
  |n+1,_=>
   have:=u0 n k (pre++[])
   rw[List.append_nil]at this⊢
   rw[this];show _=some (pre++[],k);rw[List.append_nil]
 |cons x t ih=>
  intro pre k n hn h0 h1 h2
  have e:sizeS size (x::t)=1+size x+sizeS size t:=by unfold sizeS;simp;omega
  rw[e]at h1
  have hx:=hE x k
  match n,hn with
  |n+1,hn=>
   have hi:pre.length<(pre++x::t).length:=by simp
   have hg:(pre++x::t)[pre.length]=x:=by simp
   rw[u n k pre.length (pre++x::t) hi h0 (by rw[hg];omega) (by omega),hg]
   have hs:(pre++x::t).set pre.length (M x k)=(pre++[M x k])++t:=by simp
   have:=ih (pre++[M x k]) (E x k) n (by simp at hn;omega) (by omega) (by omega) (by simp at h2⊢;omega)
   rw[hs]
   simp only[List.length_append,List.length_cons,List.length_nil]at this
   rw[show pre.length+1=pre.length+(0+1) by omega,this]
   show some ((pre++[M x k])++mkl M E t (E x k),endl E t (E x k))=some (pre++(M x k::mkl M E t (E x k)),endl E t (E x k))
   rw[List.append_assoc];rfl
theorem held_l {α:Type}(M:α→Int→α)(E:α→Int→Int)(size:α→Nat)(hE:∀x k,k≤E x k∧E x k≤k+64*(1+size x))(xs:List α)(l:Nat→Int→Int→Option Int)(u0:∀n k,l (n+1) k (xs.length:Int)=some k)(u:∀n k (i:Nat) (x:α) (hi:i<xs.length),xs[i]=M x k→0≤k→k+64*(1+(size x:Int))≤2305843009213693952→(i:Int)≤2305843009213693952→l (n+1) k (i:Int)=l n (E x k) ((i+1:Nat):Int)):∀(suf:List α) (pre:List α) (k:Int) (n:Nat),xs=pre++mkl M E suf k→suf.length<n→0≤k→k+64*(sizeS size suf:Nat)≤2305843009213693952→(pre.length:Int)+suf.length≤2305843009213693952→l n k (pre.length:Int)=some (endl E suf k):=by
 intro suf
 induction suf with
 |nil=>
  intro pre k n hx hn h0 h1 h2
  match n,hn with
  |n+1,_=>
   have e:xs.length=pre.length:=by rw[hx];show(pre++[]).length=_;rw[List.append_nil]
   have:=u0 n k
   rw[e]at this
   exact this
 |cons x t ih=>
  intro pre k n hx hn h0 h1 h2
  have e:sizeS size (x::t)=1+size x+sizeS size t:=by unfold sizeS;simp;omega
  rw[e]at h1
  have hb:=hE x k
  have hx':xs=pre++(M x k::mkl M E t (E x k)):=hx
  match n,hn with
  |n+1,hn=>
   have hi:pre.length<xs.length:=by rw[hx'];simp
   have hg:xs[pre.length]=M x k:=by
    have:xs[pre.length]? =some (M x k):=by rw[hx'];simp
    rw[List.getElem?_eq_getElem hi]at this
    injection this
   rw[u n k pre.length x hi hg h0 (by omega) (by omega)]
   have:=ih (pre++[M x k]) (E x k) n (by rw[hx'];simp) (by simp at hn;omega) (by omega) (by omega) (by simp at h2⊢;omega)
   simp only[List.length_append,List.length_cons,List.length_nil]at this
   exact this
theorem szR_fl {s:Nat}{L:Int}(h0:0≤L)(h1:L≤1050000)(hm:s≤9223372036854775807):(bif decide (IntKind.i64.wrap (L-(s:Int))<(0:Int))then some (-1:Int)else some (IntKind.i64.wrap (L-(s:Int))))=some (szR s L):=by
 rw[w64 (by omega) (by omega)]
 unfold szR
 by_cases g:(s:Int)≤L
 ·rw[decide_eq_false (by omega),cond_f,if_pos g]
 ·rw[decide_eq_true (by omega),cond_t,if_neg g]
theorem z30 :((3:Int)==(0:Int))=false:=by decide
def size0 {α:Type}(_:α):Nat:=0
theorem sizeS0 {α:Type}(xs:List α):sizeS (size0 (α:=α)) xs=xs.length:=by
 unfold sizeS
 have:∀ys:List α,(ys.map size0).sum=0:=by
  intro ys
  induction ys with
  |nil=>rfl
  |cons y t ih=>rw[List.map_cons,List.sum_cons,ih];rfl
 rw[this,Nat.add_zero]
theorem szIntS_v (x0:List Int)(L:Int)(hx:x0.length≤9223372036854775807)(h0:0≤L)(h1:L≤1050000):laws_szIntS x0 L=some (szR x0.length L):=by
 unfold laws_szIntS
 exact szR_fl h0 h1 hx
theorem toIntS_v (x0:List Int)(hx:x0.length≤1050000):laws_toIntS x0=some x0:=
 toList_v x0 (0:Int) (fun s=>some s) hx (fun i h=>rfl) (laws_toIntS.l6 x0) (fun n a b=>laws_toIntS.u6 x0 n a b)
theorem eqIntS_v (x0:List Int)(hx:x0.length≤1152921504606846976):laws_eqIntS x0 x0=some true:=
 eqList_v x0 (0:Int) (fun s t=>some (s==t)) hx (fun i h=>by rw[beq_self_eq_true]) (laws_eqIntS.l8 x0 x0) (fun n a=>laws_eqIntS.u8 x0 x0 n a)
def fullInt (x:Int)(k:Int):Int:=k
def fendInt (x:Int)(k:Int):Int:=k+1
theorem fendInt_b (x:Int)(k:Int):k≤fendInt x k∧fendInt x k≤k+64*(1+(size0 x:Nat)):=by
 unfold fendInt size0
 omega
def mkdIntS (xs:List Int)(k:Int):List Int:=mkl fullInt fendInt xs k
def endIntS (xs:List Int)(k:Int):Int:=endl fendInt xs k
theorem endIntS_b (xs:List Int)(k:Int):k≤endIntS xs k∧endIntS xs k≤k+64*(xs.length:Nat):=by
 have:=endl_b fendInt size0 (fendInt_b) xs k
 rw[sizeS0]at this
 exact this
theorem markIntS_v (xs:List Int)(k:Int)(h0:0≤k)(h1:k+64*(xs.length:Nat)≤2305843009213693952):laws_markIntS xs k=some (mkdIntS xs k,endIntS xs k):=by
 refine mark_l fullInt fendInt size0 (fendInt_b) laws_markIntS.l4 (fun n k ys=> ?_) (fun n k i ys hi h0 h1 h2=> ?_) xs [] k KK (KK_gt (by omega)) h0 (by rw[sizeS0];exact h1) (by simp;omega)
 ·rw[laws_markIntS.u4]
  simp only[laws_markIntS.g4,lt_f (Nat.le_refl _),cond_f]
 ·rw[laws_markIntS.u4]
  unfold size0 at h1
  simp only[laws_markIntS.g4,upd_ln,upd_upd,upd_get hi,lt_t hi,ge_t,cond_t,Int.toNat_natCast,at_n hi,z30,cond_f]
  simp (disch:=omega) only[wd]
  rfl
theorem heldIntS_v (xs:List Int)(k:Int)(h0:0≤k)(h1:k+64*(xs.length:Nat)≤2305843009213693952):laws_heldIntS (mkdIntS xs k) k=some (endIntS xs k):=by
 refine held_l fullInt fendInt size0 (fendInt_b) (mkdIntS xs k) (laws_heldIntS.l4 (mkdIntS xs k)) (fun n k=> ?_) (fun n k i x hi hx h0 h1 h2=> ?_) xs [] k KK rfl (KK_gt (by omega)) h0 (by rw[sizeS0];exact h1) (by simp;omega)
 ·rw[laws_heldIntS.u4]
  simp only[laws_heldIntS.g4,lt_f (Nat.le_refl _),cond_f]
 ·rw[laws_heldIntS.u4]
  unfold size0 at h1
  simp only[laws_heldIntS.g4,lt_t hi,ge_t,cond_t,Int.toNat_natCast,at_n hi,hx,z30,cond_f]
  refine cF (bne_self _) ?_
  simp (disch:=omega) only[wd]
  rfl
def sizeKeys (x:TKeys):Nat:=x.1.length
def KeysMax (x:TKeys):Prop:=x.1.length≤9223372036854775807
theorem szKeys_v (x0:TKeys)(L:Int)(hx:KeysMax x0)(h0:0≤L)(h1:L≤1050000):laws_szKeys x0 L=some (szR (sizeKeys x0) L):=by
 unfold laws_szKeys sizeKeys
 exact szR_l h0 (szIntS_v _ _ hx h0 h1)
theorem toKeys_v (x0:TKeys)(hx:sizeKeys x0≤1050000):laws_toKeys x0=some x0:=by
 unfold sizeKeys at hx
 unfold laws_toKeys
 exact bnd (toIntS_v _ (by omega)) (rfl)
theorem eqKeys_v (a:TKeys)(hx:sizeKeys a≤1152921504606846976):laws_eqKeys a a=some true:=by
 unfold sizeKeys at hx
 unfold laws_eqKeys
 exact bnd (eqIntS_v _ (by omega)) (cF rfl (cF (bne_self _) (rfl)))
def mkdKeys (x:TKeys)(k:Int):TKeys:=(mkdIntS x.1 k,x.2)
def endKeys (x:TKeys)(k:Int):Int:=endIntS x.1 k
theorem endKeys_b (x:TKeys)(k:Int):k≤endKeys x k∧endKeys x k≤k+64*(sizeKeys x:Nat):=by
 unfold endKeys sizeKeys
 have b0:=endIntS_b x.1 k
 omega
theorem markKeys_v (x:TKeys)(k:Int)(h0:0≤k)(h1:k+64*(sizeKeys x:Nat)≤2305843009213693952):laws_markKeys x k=some ((mkdKeys x k).1,endKeys x k):=by
 unfold sizeKeys at h1
 have b0:=endIntS_b x.1 k
 unfold laws_markKeys
 exact bnd (markIntS_v x.1 k (by omega) (by omega)) (rfl)
def sizeHead (x:THead):Nat:=sizeKeys (Head_Keys x)+(sizeKeys (Head_Heirs x)+(sizeKeys (Head_Judge x)))
structure HeadMax (x:THead):Prop where
 m0:KeysMax (Head_Keys x)
 m1:KeysMax (Head_Heirs x)
 m2:KeysMax (Head_Judge x)
theorem szHead_v (x0:THead)(L:Int)(hx:HeadMax x0)(h0:0≤L)(h1:L≤1050000):laws_szHead x0 L=some (szR (sizeHead x0) L):=by
 unfold laws_szHead sizeHead
 exact szR_b h0 h1 (szKeys_v _ _ hx.m0 h0 h1) (fun M h0 h1=>szR_b h0 h1 (szKeys_v _ _ hx.m1 h0 h1) (fun M h0 h1=>szR_l h0 (szKeys_v _ _ hx.m2 h0 h1)))
theorem toHead_v (x0:THead)(hx:sizeHead x0≤1050000):laws_toHead x0=some x0:=by
 unfold sizeHead at hx
 unfold laws_toHead
 exact bnd (toKeys_v _ (by omega)) (bnd (toKeys_v _ (by omega)) (bnd (toKeys_v _ (by omega)) (rfl)))
theorem eqHead_v (a:THead)(hx:sizeHead a≤1152921504606846976):laws_eqHead a a=some true:=by
 unfold sizeHead at hx
 unfold laws_eqHead
 exact cF (bne_self _) (cF (bne_self _) (cF (bne_self _) (cF (bne_self _) (cF (bne_self _) (cF (bne_self _) (cF (bne_self _) (cF (bne_self _) (bnd (eqKeys_v _ (by omega)) (cF rfl (bnd (eqKeys_v _ (by omega)) (cF rfl (cF (bne_self _) (bnd (eqKeys_v _ (by omega)) (cF rfl (cF (nbeq _) (rfl))))))))))))))))
def mkdHead (x:THead)(k:Int):THead:=Head_mk (Head_Zone x) (Head_Epoch x) (Head_Kind x) (Head_Time x) (Head_Until x) (Head_Count x) (Head_Root x) (Head_Prev x) (mkdKeys (Head_Keys x) k) (mkdKeys (Head_Heirs x) (endKeys (Head_Keys x) k)) (Head_Wait x) (mkdKeys (Head_Judge x) (endKeys (Head_Heirs x) (endKeys (Head_Keys x) k))) (Head_Frozen x)
def endHead (x:THead)(k:Int):Int:=endKeys (Head_Judge x) (endKeys (Head_Heirs x) (endKeys (Head_Keys x) k))
theorem endHead_b (x:THead)(k:Int):k≤endHead x k∧endHead x k≤k+64*(sizeHead x:Nat):=by
 unfold endHead sizeHead
 have b8:=endKeys_b (Head_Keys x) k
 have b9:=endKeys_b (Head_Heirs x) (endKeys (Head_Keys x) k)
 have b11:=endKeys_b (Head_Judge x) (endKeys (Head_Heirs x) (endKeys (Head_Keys x) k))
 omega
theorem markHead_v (x:THead)(k:Int)(h0:0≤k)(h1:k+64*(sizeHead x:Nat)≤2305843009213693952):laws_markHead x k=some ((Head_Keys (mkdHead x k)).1,(Head_Heirs (mkdHead x k)).1,(Head_Judge (mkdHead x k)).1,endHead x k):=by
 unfold sizeHead at h1
 have b8:=endKeys_b (Head_Keys x) k
 have b9:=endKeys_b (Head_Heirs x) (endKeys (Head_Keys x) k)
 have b11:=endKeys_b (Head_Judge x) (endKeys (Head_Heirs x) (endKeys (Head_Keys x) k))
 unfold laws_markHead
 exact bnd (markKeys_v (Head_Keys x) k (by omega) (by omega)) (bnd (markKeys_v (Head_Heirs x) (endKeys (Head_Keys x) k) (by omega) (by omega)) (bnd (markKeys_v (Head_Judge x) (endKeys (Head_Heirs x) (endKeys (Head_Keys x) k)) (by omega) (by omega)) (rfl)))
theorem toSig_v (x0:TSig):laws_toSig x0=some x0:=rfl
theorem eqSig_v (a:TSig):laws_eqSig a a=some true:=by
 unfold laws_eqSig
 simp only[bne_self,cond_f]
theorem szSigS_v (x0:List TSig)(L:Int)(hx:x0.length≤9223372036854775807)(h0:0≤L)(h1:L≤1050000):laws_szSigS x0 L=some (szR x0.length L):=by
 unfold laws_szSigS
 exact szR_fl h0 h1 hx
theorem toSigS_v (x0:List TSig)(hx:x0.length≤1050000):laws_toSigS x0=some x0:=
 toList_v x0 dSig laws_toSig hx (fun i h=>toSig_v _) (laws_toSigS.l6 x0) (fun n a b=>laws_toSigS.u6 x0 n a b)
theorem eqSigS_v (x0:List TSig)(hx:x0.length≤1152921504606846976):laws_eqSigS x0 x0=some true:=
 eqList_v x0 dSig laws_eqSig hx (fun i h=>eqSig_v _) (laws_eqSigS.l8 x0 x0) (fun n a=>laws_eqSigS.u8 x0 x0 n a)
def fullSig (x:TSig)(k:Int):TSig:=(k,k+1)
def fendSig (x:TSig)(k:Int):Int:=k+1+1
theorem fendSig_b (x:TSig)(k:Int):k≤fendSig x k∧fendSig x k≤k+64*(1+(size0 x:Nat)):=by
 unfold fendSig size0
 omega
def mkdSigS (xs:List TSig)(k:Int):List TSig:=mkl fullSig fendSig xs k
def endSigS (xs:List TSig)(k:Int):Int:=endl fendSig xs k
theorem endSigS_b (xs:List TSig)(k:Int):k≤endSigS xs k∧endSigS xs k≤k+64*(xs.length:Nat):=by
 have:=endl_b fendSig size0 (fendSig_b) xs k
 rw[sizeS0]at this
 exact this
theorem markSigS_v (xs:List TSig)(k:Int)(h0:0≤k)(h1:k+64*(xs.length:Nat)≤2305843009213693952):laws_markSigS xs k=some (mkdSigS xs k,endSigS xs k):=by
 refine mark_l fullSig fendSig size0 (fendSig_b) laws_markSigS.l4 (fun n k ys=> ?_) (fun n k i ys hi h0 h1 h2=> ?_) xs [] k KK (KK_gt (by omega)) h0 (by rw[sizeS0];exact h1) (by simp;omega)
 ·rw[laws_markSigS.u4]
  simp only[laws_markSigS.g4,lt_f (Nat.le_refl _),cond_f]
 ·rw[laws_markSigS.u4]
  unfold size0 at h1
  simp only[laws_markSigS.g4,upd_ln,upd_upd,upd_get hi,lt_t hi,ge_t,cond_t,Int.toNat_natCast,at_n hi,z30,cond_f,laws_markSigS.w1]
  try simp (disch:=omega) only[wd]
  simp only[upd_st hi]
  rfl
def sizeSigned (x:TSigned):Nat:=sizeHead (Signed_Head x)+((Signed_Sigs x).length)
structure SignedMax (x:TSigned):Prop where
 m0:HeadMax (Signed_Head x)
 m1:(Signed_Sigs x).length≤9223372036854775807
theorem szSigned_v (x0:TSigned)(L:Int)(hx:SignedMax x0)(h0:0≤L)(h1:L≤1050000):laws_szSigned x0 L=some (szR (sizeSigned x0) L):=by
 unfold laws_szSigned sizeSigned
 exact szR_b h0 h1 (szHead_v _ _ hx.m0 h0 h1) (fun M h0 h1=>szR_l h0 (szSigS_v _ _ hx.m1 h0 h1))
theorem toSigned_v (x0:TSigned)(hx:sizeSigned x0≤1050000):laws_toSigned x0=some x0:=by
 unfold sizeSigned at hx
 unfold laws_toSigned
 exact bnd (toHead_v _ (by omega)) (bnd (toSigS_v _ (by omega)) (rfl))
theorem eqSigned_v (a:TSigned)(hx:sizeSigned a≤1152921504606846976):laws_eqSigned a a=some true:=by
 unfold sizeSigned at hx
 unfold laws_eqSigned
 exact bnd (eqHead_v _ (by omega)) (cF rfl (bnd (eqSigS_v _ (by omega)) (cF rfl (rfl))))
def mkdSigned (x:TSigned)(k:Int):TSigned:=Signed_mk (mkdHead (Signed_Head x) k) (mkdSigS (Signed_Sigs x) (endHead (Signed_Head x) k))
def endSigned (x:TSigned)(k:Int):Int:=endSigS (Signed_Sigs x) (endHead (Signed_Head x) k)
theorem endSigned_b (x:TSigned)(k:Int):k≤endSigned x k∧endSigned x k≤k+64*(sizeSigned x:Nat):=by
 unfold endSigned sizeSigned
 have b0:=endHead_b (Signed_Head x) k
 have b1:=endSigS_b (Signed_Sigs x) (endHead (Signed_Head x) k)
 omega
theorem markSigned_v (x:TSigned)(k:Int)(h0:0≤k)(h1:k+64*(sizeSigned x:Nat)≤2305843009213693952):laws_markSigned x k=some ((Head_Keys (Signed_Head (mkdSigned x k))).1,(Head_Heirs (Signed_Head (mkdSigned x k))).1,(Head_Judge (Signed_Head (mkdSigned x k))).1,(Signed_Sigs (mkdSigned x k)),endSigned x k):=by
 unfold sizeSigned at h1
 have b0:=endHead_b (Signed_Head x) k
 have b1:=endSigS_b (Signed_Sigs x) (endHead (Signed_Head x) k)
 unfold laws_markSigned
 exact bnd (markHead_v (Signed_Head x) k (by omega) (by omega)) (bnd (markSigS_v (Signed_Sigs x) (endHead (Signed_Head x) k) (by omega) (by omega)) (rfl))
def sizeFork (x:TFork):Nat:=sizeSigned (Fork_Before x)+(sizeSigned (Fork_A x)+(sizeSigned (Fork_B x)))
structure ForkMax (x:TFork):Prop where
 m0:SignedMax (Fork_Before x)
 m1:SignedMax (Fork_A x)
 m2:SignedMax (Fork_B x)
theorem szFork_v (x0:TFork)(L:Int)(hx:ForkMax x0)(h0:0≤L)(h1:L≤1050000):laws_szFork x0 L=some (szR (sizeFork x0) L):=by
 unfold laws_szFork sizeFork
 exact szR_b h0 h1 (szSigned_v _ _ hx.m0 h0 h1) (fun M h0 h1=>szR_b h0 h1 (szSigned_v _ _ hx.m1 h0 h1) (fun M h0 h1=>szR_l h0 (szSigned_v _ _ hx.m2 h0 h1)))
theorem toFork_v (x0:TFork)(hx:sizeFork x0≤1050000):laws_toFork x0=some x0:=by
 unfold sizeFork at hx
 unfold laws_toFork
 exact bnd (toSigned_v _ (by omega)) (bnd (toSigned_v _ (by omega)) (bnd (toSigned_v _ (by omega)) (rfl)))
theorem eqFork_v (a:TFork)(hx:sizeFork a≤1152921504606846976):laws_eqFork a a=some true:=by
 unfold sizeFork at hx
 unfold laws_eqFork
 exact bnd (eqSigned_v _ (by omega)) (cF rfl (bnd (eqSigned_v _ (by omega)) (cF rfl (bnd (eqSigned_v _ (by omega)) (cF rfl (rfl))))))
def mkdFork (x:TFork)(k:Int):TFork:=Fork_mk (mkdSigned (Fork_Before x) k) (mkdSigned (Fork_A x) (endSigned (Fork_Before x) k)) (mkdSigned (Fork_B x) (endSigned (Fork_A x) (endSigned (Fork_Before x) k)))
def endFork (x:TFork)(k:Int):Int:=endSigned (Fork_B x) (endSigned (Fork_A x) (endSigned (Fork_Before x) k))
theorem endFork_b (x:TFork)(k:Int):k≤endFork x k∧endFork x k≤k+64*(sizeFork x:Nat):=by
 unfold endFork sizeFork
 have b0:=endSigned_b (Fork_Before x) k
 have b1:=endSigned_b (Fork_A x) (endSigned (Fork_Before x) k)
 have b2:=endSigned_b (Fork_B x) (endSigned (Fork_A x) (endSigned (Fork_Before x) k))
 omega
theorem markFork_v (x:TFork)(k:Int)(h0:0≤k)(h1:k+64*(sizeFork x:Nat)≤2305843009213693952):laws_markFork x k=some ((Head_Keys (Signed_Head (Fork_Before (mkdFork x k)))).1,(Head_Heirs (Signed_Head (Fork_Before (mkdFork x k)))).1,(Head_Judge (Signed_Head (Fork_Before (mkdFork x k)))).1,(Signed_Sigs (Fork_Before (mkdFork x k))),(Head_Keys (Signed_Head (Fork_A (mkdFork x k)))).1,(Head_Heirs (Signed_Head (Fork_A (mkdFork x k)))).1,(Head_Judge (Signed_Head (Fork_A (mkdFork x k)))).1,(Signed_Sigs (Fork_A (mkdFork x k))),(Head_Keys (Signed_Head (Fork_B (mkdFork x k)))).1,(Head_Heirs (Signed_Head (Fork_B (mkdFork x k)))).1,(Head_Judge (Signed_Head (Fork_B (mkdFork x k)))).1,(Signed_Sigs (Fork_B (mkdFork x k))),endFork x k):=by
 unfold sizeFork at h1
 have b0:=endSigned_b (Fork_Before x) k
 have b1:=endSigned_b (Fork_A x) (endSigned (Fork_Before x) k)
 have b2:=endSigned_b (Fork_B x) (endSigned (Fork_A x) (endSigned (Fork_Before x) k))
 unfold laws_markFork
 exact bnd (markSigned_v (Fork_Before x) k (by omega) (by omega)) (bnd (markSigned_v (Fork_A x) (endSigned (Fork_Before x) k) (by omega) (by omega)) (bnd (markSigned_v (Fork_B x) (endSigned (Fork_A x) (endSigned (Fork_Before x) k)) (by omega) (by omega)) (rfl)))
theorem Grow_v (n:Int)(h0:0≤n)(h1:n<68719476736):slices_Grow_int [] n=some []:=by
 have e0:IntKind.i64.wrap ((0:Int)-((0:Nat):Int))=0:=w64 (by omega) (by omega)
 have e1:IntKind.i64.wrap (n-0)=n:=by rw[w64 (by omega) (by omega)];omega
 unfold slices_Grow_int
 simp only[slices_Grow_int.b,slices_Grow_int.l7,slices_Grow_int.g7,e0,e1]
 rw[decide_eq_false (by omega),cond_f]
 by_cases h:n>0
 ·rw[decide_eq_true h,cond_t,decide_eq_true (by omega),cond_t,decide_eq_true h1,cond_t,decide_eq_true (by omega),cond_t,decide_eq_true (by omega),cond_t,decide_eq_true (by omega),cond_t]
  simp
 ·rw[decide_eq_false h,cond_f]
theorem Concat_l22 (x0:List (List Int))(hl:x0.length<1152921504606846976):∀i n,i≤x0.length→x0.length-i<n→∀acc:List Int,acc.length+(x0.drop i).flatten.length<68719476736→slices_Concat_int.l22 x0 n (x0.length:Int) (i:Int) acc=some (acc++(x0.drop i).flatten):=by
 refine idx_ind ?_ ?_
 ·intro n acc ha
  rw[slices_Concat_int.u22]
  simp only[slices_Concat_int.g22,lt_f (Nat.le_refl _),cond_f,List.drop_length,List.flatten_nil,List.append_nil]
 ·intro i n hi ih acc ha
  rw[List.drop_eq_getElem_cons hi,List.flatten_cons]at ha⊢
  rw[List.length_append]at ha
  rw[slices_Concat_int.u22]
  simp only[slices_Concat_int.g22,lt_t hi,ge_t,cond_t,w64_succ (i:=i) (by omega),Int.toNat_natCast,at_n hi]
  rw[decide_eq_true (by omega),cond_t,ih _ (by rw[List.length_append];omega),List.append_assoc]
theorem Concat_l6 (x0:List (List Int))(hl:x0.length<1152921504606846976)(hf:x0.flatten.length<68719476736):∀i n,i≤x0.length→x0.length-i<n→∀s:Int,0≤s→s+(x0.drop i).flatten.length<68719476736→slices_Concat_int.l6 x0 n s (x0.length:Int) (i:Int)=some x0.flatten:=by
 refine idx_ind ?_ ?_
 ·intro n s h0 ha
  rw[slices_Concat_int.u6]
  rw[List.drop_length,List.flatten_nil]at ha
  simp only[slices_Concat_int.g6,lt_f (Nat.le_refl _),cond_f]
  rw[Grow_v s h0 (by simpa using ha),bind_s]
  have:=Concat_l22 x0 hl 0 KK (Nat.zero_le _) (KK_gt (by omega)) [] (by simpa using hf)
  simpa using this
 ·intro i n hi ih s h0 ha
  rw[List.drop_eq_getElem_cons hi,List.flatten_cons,List.length_append]at ha
  rw[slices_Concat_int.u6]
  simp only[slices_Concat_int.g6,lt_t hi,ge_t,cond_t,w64_succ (i:=i) (by omega),Int.toNat_natCast,at_n hi]
  rw[w64 (n:=s+(x0[i].length:Int)) (by omega) (by omega),decide_eq_false (by omega),cond_f,ih _ (by omega) (by omega)]
theorem Concat_v (x0:List (List Int))(hl:x0.length<1152921504606846976)(hf:x0.flatten.length<68719476736):slices_Concat_int x0=some x0.flatten:=by
 have:=Concat_l6 x0 hl hf 0 KK (Nat.zero_le _) (KK_gt (by omega)) 0 (Int.le_refl 0) (by rw[List.drop_zero,Int.zero_add];omega)
 exact this
theorem Mod_eq (a b:Int):spec_Mod a b=impl_Mod a b:=by
 unfold spec_Mod impl_Mod
 rw[l1In_v,InRange_v]
def mod2 (a:Int):Int:=Int.tmod (IntKind.i64.wrap (Int.tmod a 2147483647+2147483647)) 2147483647
theorem Mod_v (a:Int):impl_Mod a 2147483647=some (mod2 a):=by
 unfold impl_Mod mod2
 rw[InRange_v,bind_s]
 rw[decide_eq_true (by omega),decide_eq_true (by omega),Bool.and_self,Bool.not_true,cond_f]
 rw[show((2147483647:Int)==0)=false from by decide,cond_f,cond_f]
def hstep (h a:Int):Int:=Int.tmod (IntKind.i64.wrap ((IntKind.i64.wrap ((IntKind.i64.wrap (h*(1000003:Int)))+mod2 a))+(13:Int))) (2147483647:Int)
theorem sHash_l (x0:List Int)(hx:x0.length≤1152921504606846976):∀i n,i≤x0.length→x0.length-i<n→∀h:Int,spec_Hash.l6 x0 n h (i:Int)=some ((x0.drop i).foldl hstep h):=by
 refine idx_ind ?_ ?_
 ·intro n h
  rw[spec_Hash.u6]
  simp only[spec_Hash.g6,lt_f (Nat.le_refl _),cond_f,List.drop_length,List.foldl_nil]
 ·intro i n hi ih h
  rw[List.drop_eq_getElem_cons hi,List.foldl_cons]
  rw[spec_Hash.u6]
  simp only[spec_Hash.g6,lt_t hi,ge_t,cond_t,bind_s,w64_succ (i:=i) (by omega),Int.toNat_natCast,at_n hi,Mod_eq,Mod_v]
  rw[show((2147483647:Int)==0)=false from by decide,cond_f,ih]
  rfl
theorem iHash_l (x0:List Int)(hx:x0.length≤1152921504606846976):∀i n,i≤x0.length→x0.length-i<n→∀h:Int,impl_Hash.l6 x0 n h (x0.length:Int) (i:Int)=some ((x0.drop i).foldl hstep h):=by
 refine idx_ind ?_ ?_
 ·intro n h
  rw[impl_Hash.u6]
  simp only[impl_Hash.g6,lt_f (Nat.le_refl _),cond_f,List.drop_length,List.foldl_nil]
 ·intro i n hi ih h
  rw[List.drop_eq_getElem_cons hi,List.foldl_cons]
  rw[impl_Hash.u6]
  simp only[impl_Hash.g6,lt_t hi,ge_t,cond_t,bind_s,w64_succ (i:=i) (by omega),Int.toNat_natCast,at_n hi,Mod_v]
  rw[show((2147483647:Int)==0)=false from by decide,cond_f,ih]
  rfl
theorem sHash_v (x0:List Int)(hx:x0.length≤1152921504606846976):spec_Hash x0=some (x0.foldl hstep 11):=by
 have:=sHash_l x0 hx 0 KK (Nat.zero_le _) (KK_gt (by omega)) 11
 rw[List.drop_zero]at this
 exact this
theorem iHash_v (x0:List Int)(hx:x0.length≤1152921504606846976):impl_Hash x0=some (x0.foldl hstep 11):=by
 have:=iHash_l x0 hx 0 KK (Nat.zero_le _) (KK_gt (by omega)) 11
 rw[List.drop_zero]at this
 exact this
def keysInts (k:TKeys):List Int:=[k.2,(k.1.length:Int)]++k.1
theorem keysInts_len (k:TKeys):(keysInts k).length=k.1.length+2:=by unfold keysInts;simp
theorem sKeysInts_v (k:TKeys)(h:k.1.length≤1050000):spec_KeysInts k=some (keysInts k):=by
 unfold spec_KeysInts keysInts
 rw[decide_eq_true (by simp;omega),cond_t]
theorem iKeysInts_v (k:TKeys)(h:k.1.length≤1050000):impl_KeysInts k=some (keysInts k):=by
 unfold impl_KeysInts keysInts
 rw[decide_eq_true (by simp;omega),cond_t]
def hd8 (x0:THead):List Int:=[(Head_Zone x0),(Head_Epoch x0),(Head_Kind x0),(Head_Time x0),(Head_Until x0),(Head_Count x0),(Head_Root x0),(Head_Prev x0)]
def hde (x0:THead):List Int:=[(Head_Wait x0)]
def hdb (x0:THead):List Int:=[bif(Head_Frozen x0)then(1:Int)else 0]
def headInts (x0:THead):List Int:=((((hd8 x0++keysInts (Head_Keys x0))++keysInts (Head_Heirs x0))++hde x0)++keysInts (Head_Judge x0))++hdb x0
theorem headInts_len (x0:THead):(headInts x0).length=sizeHead x0+16:=by
 unfold headInts sizeHead sizeKeys
 simp only[List.length_append,keysInts_len]
 simp[hd8,hde,hdb];omega
theorem app_le {α:Type}(a b:List α):(a++b).length=a.length+b.length:=List.length_append
theorem sHeadInts_v (x0:THead)(h:sizeHead x0≤1050000):spec_HeadInts x0=some (headInts x0):=by
 have hs:=h
 unfold sizeHead sizeKeys at hs
 have e1:=sKeysInts_v (Head_Keys x0) (by omega)
 have e2:=sKeysInts_v (Head_Heirs x0) (by omega)
 have e3:=sKeysInts_v (Head_Judge x0) (by omega)
 have l1:=keysInts_len (Head_Keys x0)
 have l2:=keysInts_len (Head_Heirs x0)
 have l3:=keysInts_len (Head_Judge x0)
 have l8:(hd8 x0).length=8:=rfl
 have le:(hde x0).length=1:=rfl
 show((spec_KeysInts (Head_Keys x0)).bind fun y1=>bif decide ((hd8 x0).length+y1.length<68719476736)then(spec_KeysInts (Head_Heirs x0)).bind fun y2=>bif decide ((hd8 x0++y1).length+y2.length<68719476736)then bif decide (((hd8 x0++y1)++y2).length+(hde x0).length<68719476736)then(spec_KeysInts (Head_Judge x0)).bind fun y3=>bif decide ((((hd8 x0++y1)++y2)++hde x0).length+y3.length<68719476736)then bif(Head_Frozen x0)then bif decide (((((hd8 x0++y1)++y2)++hde x0)++y3).length+[(1:Int)].length<68719476736)then some (((((hd8 x0++y1)++y2)++hde x0)++y3)++[(1:Int)])else none else bif decide (((((hd8 x0++y1)++y2)++hde x0)++y3).length+[(0:Int)].length<68719476736)then some (((((hd8 x0++y1)++y2)++hde x0)++y3)++[(0:Int)])else none else none else none else none else none)=_
 simp only[e1,e2,e3,bind_s,app_le,l1,l2,l3,l8,le,List.length_singleton]
 rw[decide_eq_true (by omega),cond_t,decide_eq_true (by omega),cond_t,decide_eq_true (by omega),cond_t,decide_eq_true (by omega),cond_t,decide_eq_true (by omega),cond_t]
 unfold headInts hdb
 cases(Head_Frozen x0)<;>rfl
theorem iHeadInts_v (x0:THead)(h:sizeHead x0≤1050000):impl_HeadInts x0=some (headInts x0):=by
 have hs:=h
 unfold sizeHead sizeKeys at hs
 have e1:=iKeysInts_v (Head_Keys x0) (by omega)
 have e2:=iKeysInts_v (Head_Heirs x0) (by omega)
 have e3:=iKeysInts_v (Head_Judge x0) (by omega)
 have eb:impl_bit (Head_Frozen x0)=some (bif(Head_Frozen x0)then(1:Int)else 0):=by
  unfold impl_bit
  cases(Head_Frozen x0)<;>rfl
 have ef:[hd8 x0,keysInts (Head_Keys x0),keysInts (Head_Heirs x0),hde x0,keysInts (Head_Judge x0),hdb x0].flatten=headInts x0:=by
  simp[headInts]
 have ec:=Concat_v [hd8 x0,keysInts (Head_Keys x0),keysInts (Head_Heirs x0),hde x0,keysInts (Head_Judge x0),hdb x0] (by simp) (by rw[ef,headInts_len];omega)
 rw[ef]at ec
 show((impl_KeysInts (Head_Keys x0)).bind fun y1=>(impl_KeysInts (Head_Heirs x0)).bind fun y2=>(impl_KeysInts (Head_Judge x0)).bind fun y3=>(impl_bit (Head_Frozen x0)).bind fun y4=>(slices_Concat_int [hd8 x0,y1,y2,hde x0,y3,[y4]]).bind fun y5=>some y5)=_
 simp only[e1,e2,e3,eb,bind_s]
 rw[show [bif(Head_Frozen x0)then(1:Int)else 0]=hdb x0 from rfl,ec,bind_s]
def headDigest (x0:THead):Int:=([(233:Int)]++headInts x0).foldl hstep 11
theorem sHeadDigest_v (x0:THead)(h:sizeHead x0≤1050000):spec_HeadDigest x0=some (headDigest x0):=by
 have hl:=headInts_len x0
 unfold spec_HeadDigest headDigest
 rw[sHeadInts_v x0 h,bind_s,decide_eq_true (by simp[hl];omega),cond_t,sHash_v _ (by simp[hl];omega),bind_s]
theorem iHeadDigest_v (x0:THead)(h:sizeHead x0≤1050000):impl_HeadDigest x0=some (headDigest x0):=by
 have hl:=headInts_len x0
 unfold impl_HeadDigest headDigest
 rw[iHeadInts_v x0 h,bind_s,decide_eq_true (by simp[hl];omega),cond_t,iHash_v _ (by simp[hl];omega),bind_s]
def keyedHash (k:Int)(xs:List Int):Int:=(([k]++xs)++[k]).foldl hstep 11
theorem sKeyedHash_v (k:Int)(xs:List Int)(h:xs.length≤16777216):spec_KeyedHash k xs=some (keyedHash k xs):=by
 unfold spec_KeyedHash keyedHash
 rw[decide_eq_true (by simp;omega),cond_t,decide_eq_true (by simp;omega),cond_t,sHash_v _ (by simp;omega),bind_s]
theorem iKeyedHash_v (k:Int)(xs:List Int)(h:xs.length≤16777216):impl_KeyedHash k xs=some (keyedHash k xs):=by
 have ef:[[k],xs,[k]].flatten=([k]++xs)++[k]:=by simp
 have ec:=Concat_v [[k],xs,[k]] (by simp) (by rw[ef];simp;omega)
 rw[ef]at ec
 unfold impl_KeyedHash keyedHash
 rw[ec,bind_s,iHash_v _ (by simp;omega),bind_s]
def tagOf (k:Int)(xs:List Int):Int:=keyedHash k ([(223:Int)]++xs)
theorem sTagOf_v (k:Int)(xs:List Int)(h:xs.length≤8388608):spec_TagOf k xs=some (tagOf k xs):=by
 unfold spec_TagOf tagOf
 rw[decide_eq_true (by simp;omega),cond_t,sKeyedHash_v _ _ (by simp;omega),bind_s]
theorem iTagOf_v (k:Int)(xs:List Int)(h:xs.length≤8388608):impl_TagOf k xs=some (tagOf k xs):=by
 unfold impl_TagOf tagOf
 rw[decide_eq_true (by simp;omega),cond_t,iKeyedHash_v _ _ (by simp;omega),bind_s]
theorem isKey_v (k:Int):impl_isKey k=some (decide (1≤k)&&decide (k≤99)):=by
 unfold impl_isKey
 rw[InRange_v,bind_s]
def isSigBy (s:TSig)(xs:List Int):Bool:=(decide (1≤s.1)&&decide (s.1≤99))&&(s.2==tagOf s.1 xs)
theorem sIsSigBy_v (s:TSig)(xs:List Int)(h:xs.length≤8388608):spec_IsSigBy s xs=some (isSigBy s xs):=by
 unfold spec_IsSigBy isSigBy
 rw[l1In_v,bind_s,sTagOf_v _ _ h,bind_s]
 cases(decide (1≤s.1)&&decide (s.1≤99))<;>rfl
theorem iIsSigBy_v (s:TSig)(xs:List Int)(h:xs.length≤8388608):impl_IsSigBy s xs=some (isSigBy s xs):=by
 unfold impl_IsSigBy isSigBy
 rw[isKey_v,bind_s,iTagOf_v _ _ h,bind_s]
 cases(decide (1≤s.1)&&decide (s.1≤99))<;>rfl
def sgBy (k:Int)(xs:List Int)(s:TSig):Bool:=s.1==k&&isSigBy s xs
theorem IndexFunc_Sig_l (x0:List TSig)(x1:Unit×(Int×List Int))(hx:x0.length≤1050000)(hm:x1.2.2.length≤8388608):∀i n,i≤x0.length→x0.length-i<n→slices_IndexFunc_impl_Sig__CountSigs_1.l4 x0 x1 n (x0.length:Int) (i:Int)=some (fnd (sgBy x1.2.1 x1.2.2) (x0.drop i) (i:Int)):=by
 refine idx_ind ?_ ?_
 ·intro n
  rw[slices_IndexFunc_impl_Sig__CountSigs_1.u4]
  simp only[slices_IndexFunc_impl_Sig__CountSigs_1.g4,lt_f (Nat.le_refl _),cond_f,fnd_last]
 ·intro i n hi ih
  rw[slices_IndexFunc_impl_Sig__CountSigs_1.u4]
  simp only[slices_IndexFunc_impl_Sig__CountSigs_1.g4,impl_CountSigs_1,iIsSigBy_v _ _ hm,lt_t hi,ge_t,cond_t,bind_s,w64_succ (i:=i) (by omega),Int.toNat_natCast,at_n hi,fnd_step _ hi,ih]
  unfold sgBy
  cases(x0[i].1==x1.2.1)<;>cases(isSigBy x0[i] x1.2.2)<;>rfl
theorem ContainsFunc_Sig_v (x0:List TSig)(k:Int)(xs:List Int)(hx:x0.length≤1050000)(hm:xs.length≤8388608):slices_ContainsFunc_impl_Sig__CountSigs_1 x0 ((),(k,xs))=some (x0.any (sgBy k xs)):=by
 have h:=IndexFunc_Sig_l x0 ((),(k,xs)) hx hm 0 KK (Nat.zero_le _) (KK_gt (by omega))
 have e:slices_IndexFunc_impl_Sig__CountSigs_1 x0 ((),(k,xs))=some (fnd (sgBy k xs) x0 0):=by
  unfold slices_IndexFunc_impl_Sig__CountSigs_1
  simpa [slices_IndexFunc_impl_Sig__CountSigs_1.b]using h
 unfold slices_ContainsFunc_impl_Sig__CountSigs_1
 rw[e,bind_s,fnd_ge _ _ _ (Int.le_refl 0)]
def cnt (p:Int→Bool):List Int→Int→Int
 |[],c=>c
 |k::ks,c=>cnt p ks (bif p k then c+1 else c)
theorem cnt_step (p:Int→Bool){ks:List Int}{i:Nat}(h:i<ks.length)(c:Int):cnt p (ks.drop i) c=cnt p (ks.drop (i+1)) (bif p ks[i]then c+1 else c):=by
 rw[List.drop_eq_getElem_cons h];rfl
theorem cnt_last (p:Int→Bool)(ks:List Int)(c:Int):cnt p (ks.drop ks.length) c=c:=by
 rw[List.drop_length];rfl
def hasSig (sg:List TSig)(xs:List Int)(k:Int):Bool:=sg.any (sgBy k xs)
theorem iCountSigs_l (x0:TKeys)(xs:List Int)(sg:List TSig)(hk:x0.1.length≤1050000)(hs:sg.length≤1050000)(hm:xs.length≤8388608):∀i n,i≤x0.1.length→x0.1.length-i<n→∀c:Int,0≤c→c≤i→impl_CountSigs.l6 x0 xs sg n c (x0.1.length:Int) (i:Int)=some (cnt (hasSig sg xs) (x0.1.drop i) c):=by
 refine idx_ind ?_ ?_
 ·intro n c h0 h1
  rw[impl_CountSigs.u6]
  simp only[impl_CountSigs.g6,lt_f (Nat.le_refl _),cond_f,cnt_last]
 ·intro i n hi ih c h0 h1
  rw[impl_CountSigs.u6]
  simp only[impl_CountSigs.g6,lt_t hi,ge_t,cond_t,bind_s,w64_succ (i:=i) (by omega),Int.toNat_natCast,at_n hi,ContainsFunc_Sig_v _ _ _ hs hm,cnt_step _ hi,w64 (n:=c+1) (by omega) (by omega)]
  rw[show sg.any (sgBy x0.1[i] xs)=hasSig sg xs x0.1[i]from rfl]
  cases hasSig sg xs x0.1[i]with
  |true=>rw[cond_t,cond_t];exact ih _ (by omega) (by omega)
  |false=>rw[cond_f,cond_f];exact ih _ (by omega) (by omega)
theorem iCountSigs_v (x0:TKeys)(xs:List Int)(sg:List TSig)(hk:x0.1.length≤1050000)(hs:sg.length≤1050000)(hm:xs.length≤8388608):impl_CountSigs x0 xs sg=some (cnt (hasSig sg xs) x0.1 0):=by
 have:=iCountSigs_l x0 xs sg hk hs hm 0 KK (Nat.zero_le _) (KK_gt (by omega)) 0 (Int.le_refl 0) (by omega)
 rw[List.drop_zero]at this
 exact this
theorem sCountSigs_l12 (x0:TKeys)(xs:List Int)(sg:List TSig)(hs:sg.length≤1050000)(hm:xs.length≤8388608)(c:Int)(j:Nat)(hj:j<x0.1.length)(r:Int→Int→Option Int):∀i n,i≤sg.length→sg.length-i<n→spec_CountSigs.l12 x0 xs sg c (j:Int) r n (i:Int)=bif(sg.drop i).any (sgBy x0.1[j] xs)then r (IntKind.i64.wrap (c+1)) (IntKind.i64.wrap ((j:Int)+1))else r c (IntKind.i64.wrap ((j:Int)+1)):=by
 refine idx_ind ?_ ?_
 ·intro n
  rw[spec_CountSigs.u12]
  simp only[spec_CountSigs.g12,lt_f (Nat.le_refl _),cond_f,List.drop_length,List.any_nil]
 ·intro i n hi ih
  rw[spec_CountSigs.u12]
  simp only[spec_CountSigs.g12,spec_CountSigs.l19,spec_CountSigs.g19,lt_t hi,lt_t hj,ge_t,cond_t,cond_f,bind_s,w64_succ (i:=i) (by omega),Int.toNat_natCast,at_n hi,at_n hj,sIsSigBy_v _ _ hm,ih]
  rw[List.drop_eq_getElem_cons hi,List.any_cons]
  rw[show sgBy x0.1[j] xs sg[i]=(sg[i].1==x0.1[j]&&isSigBy sg[i] xs)from rfl]
  cases(sg[i].1==x0.1[j])<;>cases(isSigBy sg[i] xs)<;>rfl
theorem sCountSigs_l (x0:TKeys)(xs:List Int)(sg:List TSig)(hk:x0.1.length≤1050000)(hs:sg.length≤1050000)(hm:xs.length≤8388608):∀i n,i≤x0.1.length→x0.1.length-i<n→∀c:Int,0≤c→c≤i→spec_CountSigs.l6 x0 xs sg n c (i:Int)=some (cnt (hasSig sg xs) (x0.1.drop i) c):=by
 refine idx_ind ?_ ?_
 ·intro n c h0 h1
  rw[spec_CountSigs.u6]
  simp only[spec_CountSigs.g6,lt_f (Nat.le_refl _),cond_f,cnt_last]
 ·intro i n hi ih c h0 h1
  have hl:=sCountSigs_l12 x0 xs sg hs hm c i hi (spec_CountSigs.l6 x0 xs sg n) 0 KK (Nat.zero_le _) (KK_gt (by omega))
  rw[List.drop_zero]at hl
  rw[spec_CountSigs.u6]
  simp only[spec_CountSigs.g6,lt_t hi,cond_t]
  refine Eq.trans hl ?_
  rw[w64_succ (i:=i) (by omega),w64 (n:=c+1) (by omega) (by omega),cnt_step _ hi]
  rw[show sg.any (sgBy x0.1[i] xs)=hasSig sg xs x0.1[i]from rfl]
  cases hasSig sg xs x0.1[i]with
  |true=>rw[cond_t,cond_t];exact ih _ (by omega) (by omega)
  |false=>rw[cond_f,cond_f];exact ih _ (by omega) (by omega)
theorem sCountSigs_v (x0:TKeys)(xs:List Int)(sg:List TSig)(hk:x0.1.length≤1050000)(hs:sg.length≤1050000)(hm:xs.length≤8388608):spec_CountSigs x0 xs sg=some (cnt (hasSig sg xs) x0.1 0):=by
 have:=sCountSigs_l x0 xs sg hk hs hm 0 KK (Nat.zero_le _) (KK_gt (by omega)) 0 (Int.le_refl 0) (by omega)
 rw[List.drop_zero]at this
 exact this
def gk (x0:TKeys)(j:Nat):Int:=x0.1.getD j 0
theorem gk_def (x0:TKeys)(j:Nat):x0.1.getD j 0=gk x0 j:=rfl
def keysAsc (x0:TKeys)(i:Nat):Prop:=∀j,j<x0.1.length→i≤j→0<j→gk x0 (j-1)<gk x0 j
def keysIn (x0:TKeys)(i:Nat):Prop:=∀j,j<x0.1.length→i≤j→(1≤gk x0 j∧gk x0 j≤99)∧(0<j→gk x0 (j-1)<gk x0 j)
def keysNeed (x0:TKeys):Prop:=(1≤(x0.1.length:Int)∧(x0.1.length:Int)≤4)∧(1≤x0.2∧x0.2≤(x0.1.length:Int))
theorem sIsKeys_l (x0:TKeys)(hx:x0.1.length≤1050000):∀i n,i≤x0.1.length→x0.1.length-i<n→∃b,spec_IsKeys.l4 x0 n (i:Int)=some b∧(b=true↔keysIn x0 i∧keysNeed x0):=by
 refine idx_ind ?_ ?_
 ·intro n
  rw[spec_IsKeys.u4]
  simp only[spec_IsKeys.g4,lt_f (Nat.le_refl _),cond_f,l1In_v,bind_s]
  refine⟨(decide ((1:Int)≤(x0.1.length:Int))&&decide ((x0.1.length:Int)≤4))&&(decide (1≤x0.2)&&decide (x0.2≤(x0.1.length:Int))),?_,?_⟩
  ·cases(decide ((1:Int)≤(x0.1.length:Int))&&decide ((x0.1.length:Int)≤4))<;>rfl
  ·unfold keysIn keysNeed
   simp only[Bool.and_eq_true,decide_eq_true_eq]
   exact⟨fun h=>⟨fun j h1 h2=>absurd h1 (by omega),h⟩,fun h=>h.2⟩
 ·intro i n hi ih
  obtain⟨b,hb,hP⟩:=ih
  rw[spec_IsKeys.u4]
  simp only[spec_IsKeys.g4,lt_t hi,ge_t,cond_t,l1In_v,bind_s,w64_succ (i:=i) (by omega),Int.toNat_natCast,hb,gk_def]
  by_cases hr:1≤gk x0 i∧gk x0 i≤99
  ·rw[decide_eq_true hr.1,decide_eq_true hr.2,Bool.and_self,Bool.not_true,cond_f]
   by_cases h0:0<i
   ·have ew:IntKind.i64.wrap ((i:Int)-1)=((i-1:Nat):Int):=by rw[w64 (by omega) (by omega)];omega
    simp only[decide_eq_true (show(i:Int)>0 by omega),cond_t,ew,ge_t,lt_t (show i-1<x0.1.length by omega),Int.toNat_natCast,gk_def]
    by_cases ha:gk x0 (i-1)<gk x0 i
    ·rw[decide_eq_false (by omega),cond_f]
     refine⟨b,rfl,hP.trans ⟨fun h=>⟨fun j h1 h2=> ?_,h.2⟩,fun h=>⟨fun j h1 h2=>h.1 j h1 (by omega),h.2⟩⟩⟩
     by_cases e:j=i
     ·subst e;exact⟨hr,fun _=>ha⟩
     ·exact h.1 j h1 (by omega)
    ·rw[decide_eq_true (by omega),cond_t]
     refine⟨false,rfl,⟨fun h=>Bool.noConfusion h,fun h=>absurd ((h.1 i hi (Nat.le_refl _)).2 h0) ha⟩⟩
   ·rw[decide_eq_false (by omega),cond_f]
    refine⟨b,rfl,hP.trans ⟨fun h=>⟨fun j h1 h2=> ?_,h.2⟩,fun h=>⟨fun j h1 h2=>h.1 j h1 (by omega),h.2⟩⟩⟩
    by_cases e:j=i
    ·subst e;exact⟨hr,fun h=>absurd h h0⟩
    ·exact h.1 j h1 (by omega)
  ·have e:(decide (1≤gk x0 i)&&decide (gk x0 i≤99))=false:=by
    cases hc:(decide (1≤gk x0 i)&&decide (gk x0 i≤99))
    ·rfl
    ·simp only[Bool.and_eq_true,decide_eq_true_eq]at hc;exact absurd hc hr
   rw[e,Bool.not_false,cond_t]
   exact⟨false,rfl,⟨fun h=>Bool.noConfusion h,fun h=>absurd (h.1 i hi (Nat.le_refl _)).1 hr⟩⟩
theorem asc_l (x0:TKeys)(hx:x0.1.length≤1050000):∀i n,i≤x0.1.length→x0.1.length-i<n→∃b,impl_ascending.l4 x0.1 n (x0.1.length:Int) (i:Int)=some b∧(b=true↔keysAsc x0 i):=by
 refine idx_ind ?_ ?_
 ·intro n
  rw[impl_ascending.u4]
  simp only[impl_ascending.g4,lt_f (Nat.le_refl _),cond_f]
  exact⟨true,rfl,⟨fun _ j h1 h2=>absurd h1 (by omega),fun _=>rfl⟩⟩
 ·intro i n hi ih
  obtain⟨b,hb,hP⟩:=ih
  rw[impl_ascending.u4]
  simp only[impl_ascending.g4,lt_t hi,ge_t,cond_t,w64_succ (i:=i) (by omega),Int.toNat_natCast,hb,gk_def]
  by_cases h0:0<i
  ·have ew:IntKind.i64.wrap ((i:Int)-1)=((i-1:Nat):Int):=by rw[w64 (by omega) (by omega)];omega
   simp only[decide_eq_true (show(i:Int)>0 by omega),cond_t,ew,ge_t,lt_t (show i-1<x0.1.length by omega),Int.toNat_natCast,gk_def]
   by_cases ha:gk x0 (i-1)<gk x0 i
   ·rw[decide_eq_false (by omega),cond_f]
    refine⟨b,rfl,hP.trans ⟨fun h j h1 h2 h3=> ?_,fun h j h1 h2 h3=>h j h1 (by omega) h3⟩⟩
    by_cases e:j=i
    ·subst e;exact ha
    ·exact h j h1 (by omega) h3
   ·rw[decide_eq_true (by omega),cond_t]
    exact⟨false,rfl,⟨fun h=>Bool.noConfusion h,fun h=>absurd (h i hi (Nat.le_refl _) h0) ha⟩⟩
  ·rw[decide_eq_false (by omega),cond_f]
   refine⟨b,rfl,hP.trans ⟨fun h j h1 h2 h3=>h j h1 (by omega) h3,fun h j h1 h2 h3=>h j h1 (by omega) h3⟩⟩
theorem asc_le (x0:TKeys)(h:keysAsc x0 0)(a:Nat):∀b,a≤b→b<x0.1.length→gk x0 a≤gk x0 b:=by
 intro b
 induction b with
 |zero=>intro h1 _;have:a=0:=by omega
        subst this;exact Int.le_refl _
 |succ b ih=>
  intro h1 h2
  by_cases e:a=b+1
  ·subst e;exact Int.le_refl _
  ·have:=ih (by omega) (by omega)
   have h3:=h (b+1) h2 (by omega) (by omega)
   rw[show b+1-1=b from rfl]at h3
   omega
theorem keysIn_of (x0:TKeys)(h:keysAsc x0 0)(h0:1≤gk x0 0)(h1:gk x0 (x0.1.length-1)≤99):keysIn x0 0:=by
 intro j hj _
 have a:=asc_le x0 h 0 j (by omega) hj
 have b:=asc_le x0 h j (x0.1.length-1) (by omega) (by omega)
 exact⟨⟨by omega,by omega⟩,h j hj (by omega)⟩
theorem bool_eq {a b:Bool}(h:a=true↔b=true):a=b:=by cases a<;>cases b<;>simp_all
theorem IsKeys_v (x0:TKeys)(hx:x0.1.length≤1050000):∃b,spec_IsKeys x0=some b∧impl_IsKeys x0=some b:=by
 obtain⟨s,hs,hS⟩:=sIsKeys_l x0 hx 0 KK (Nat.zero_le _) (KK_gt (by omega))
 obtain⟨a,ha,hA⟩:=asc_l x0 hx 0 KK (Nat.zero_le _) (KK_gt (by omega))
 refine⟨s,hs,?_⟩
 have ea:impl_ascending x0.1=some a:=ha
 unfold impl_IsKeys
 rw[InRange_v,bind_s]
 by_cases hl:1≤(x0.1.length:Int)∧(x0.1.length:Int)≤4
 ·rw[decide_eq_true hl.1,decide_eq_true hl.2,Bool.and_self,cond_t,ea,bind_s]
  have ew:IntKind.i64.wrap ((x0.1.length:Int)-1)=((x0.1.length-1:Nat):Int):=by rw[w64 (by omega) (by omega)];omega
  cases a with
  |false=>
   rw[cond_f]
   have:s=false:=by
    cases s with
    |false=>rfl
    |true=>
     have h:=(hS.mp rfl).1
     exact(hA.mpr (fun j h1 h2 h3=>(h j h1 h2).2 h3)).symm
   rw[this]
  |true=>
   have hasc:=hA.mp rfl
   rw[cond_t,decide_eq_true (Int.le_refl 0),cond_t,decide_eq_true (by omega),cond_t,isKey_v,bind_s,ew,ge_t,cond_t,lt_t (by omega),cond_t,isKey_v,bind_s,InRange_v,bind_s,Int.toNat_natCast,show(0:Int).toNat=0 from rfl]
   rw[show x0.1.getD 0 0=gk x0 0 from rfl,show x0.1.getD (x0.1.length-1) 0=gk x0 (x0.1.length-1)from rfl]
   have e:s=((decide (1≤gk x0 0)&&decide (gk x0 0≤99))&&((decide (1≤gk x0 (x0.1.length-1))&&decide (gk x0 (x0.1.length-1)≤99))&&(decide (1≤x0.2)&&decide (x0.2≤(x0.1.length:Int))))):=by
    refine bool_eq (hS.trans ?_)
    simp only[Bool.and_eq_true,decide_eq_true_eq]
    constructor
    ·intro h
     exact⟨(h.1 0 (by omega) (Nat.le_refl _)).1,(h.1 (x0.1.length-1) (by omega) (by omega)).1,h.2.2⟩
    ·intro h
     exact⟨keysIn_of x0 hasc h.1.1 h.2.1.2,hl,h.2.2⟩
   rw[e]
   cases(decide (1≤gk x0 0)&&decide (gk x0 0≤99))<;>cases(decide (1≤gk x0 (x0.1.length-1))&&decide (gk x0 (x0.1.length-1)≤99))<;>rfl
 ·have e:(decide (1≤(x0.1.length:Int))&&decide ((x0.1.length:Int)≤4))=false:=by
   cases hc:(decide (1≤(x0.1.length:Int))&&decide ((x0.1.length:Int)≤4))
   ·rfl
   ·simp only[Bool.and_eq_true,decide_eq_true_eq]at hc;exact absurd hc hl
  rw[e,cond_f]
  have:s=false:=by
   cases s with
   |false=>rfl
   |true=>exact absurd (hS.mp rfl).2.1 hl
  rw[this]
theorem IsKeys_pos (x0:TKeys)(hx:x0.1.length≤1050000)(h:spec_IsKeys x0=some true):1≤x0.1.length:=by
 obtain⟨s,hs,hS⟩:=sIsKeys_l x0 hx 0 KK (Nat.zero_le _) (KK_gt (by omega))
 have e:spec_IsKeys x0=some s:=hs
 rw[h]at e
 injection e with e
 have:=(hS.mp e.symm).2.1
 omega
noncomputable def keysB (k:TKeys):Bool:=(spec_IsKeys k).getD false
theorem sKeysB (k:TKeys)(hx:k.1.length≤1050000):spec_IsKeys k=some (keysB k):=by
 obtain⟨b,h1,h2⟩:=IsKeys_v k hx
 unfold keysB
 rw[h1];rfl
theorem iKeysB (k:TKeys)(hx:k.1.length≤1050000):impl_IsKeys k=some (keysB k):=by
 obtain⟨b,h1,h2⟩:=IsKeys_v k hx
 unfold keysB
 rw[h1,h2];rfl
def noK (k:TKeys):Bool:=k.2==(0:Int)&&((k.1.length:Int)==(0:Int))
theorem sNoKeys_v (k:TKeys):spec_NoKeys k=some (noK k):=by
 unfold spec_NoKeys noK
 cases(k.2==(0:Int))<;>rfl
theorem iNoKeys_v (k:TKeys):impl_NoKeys k=some (noK k):=by
 unfold impl_NoKeys noK
 cases(k.2==(0:Int))<;>rfl
theorem keysB_no (k:TKeys)(hx:k.1.length≤1050000):(keysB k&&noK k)=false:=by
 cases h:keysB k with
 |false=>rfl
 |true=>
  have:=IsKeys_pos k hx (by rw[sKeysB k hx,h])
  unfold noK
  have e:((k.1.length:Int)==(0:Int))=false:=by rw[beq_eq_false_iff_ne];omega
  rw[e,Bool.and_false];rfl
def inR (a b c:Int):Bool:=decide (b≤a)&&decide (a≤c)
theorem l1In_r (a b c:Int):spec_l1In a b c=some (inR a b c):=l1In_v a b c
theorem InRange_r (a b c:Int):impl_InRange a b c=some (inR a b c):=InRange_v a b c
theorem isDigest_r (a:Int):impl_isDigest a=some (inR a 0 2147483646):=by
 unfold impl_isDigest
 rw[InRange_r,bind_s]
theorem bif_some {α:Type}(c:Bool)(a b:α):(bif c then some a else some b)=some (bif c then a else b):=by cases c<;>rfl
theorem bif_ff (c a:Bool):(bif c then a else false)=(c&&a):=by cases c<;>rfl
theorem bif_fl (c a:Bool):(bif c then false else a)=(!c&&a):=by cases c<;>rfl
theorem bif_tl (c a:Bool):(bif c then true else a)=(c||a):=by cases c<;>rfl
theorem bif_tr (c a:Bool):(bif c then a else true)=(!c||a):=by cases c<;>rfl
def hr4 (x:THead):Bool:=inR (Head_Zone x) 0 2147483646&&(inR (Head_Root x) 0 2147483646&&(inR (Head_Prev x) 0 2147483646&&(inR (Head_Epoch x) 0 200&&inR (Head_Kind x) 1 3)))
def spanB (x:THead):Bool:=decide ((Head_Time x)≥0)&&(decide ((Head_Time x)≤(Head_Until x))&&(decide ((Head_Until x)≤100000)&&decide (IntKind.i64.wrap ((Head_Until x)-(Head_Time x))≤200)))
theorem span_eq (x:THead)(r:Bool):(inR (Head_Time x) 0 100000&&(inR (Head_Until x) (Head_Time x) 100000&&(!decide (IntKind.i64.wrap ((Head_Until x)-(Head_Time x))>200)&&r)))=(spanB x&&r):=by
 have:(inR (Head_Time x) 0 100000&&(inR (Head_Until x) (Head_Time x) 100000&& !decide (IntKind.i64.wrap ((Head_Until x)-(Head_Time x))>200)))=spanB x:=by
  unfold inR spanB
  generalize IntKind.i64.wrap ((Head_Until x)-(Head_Time x))=w
  refine bool_eq ?_
  simp only[Bool.and_eq_true,decide_eq_true_eq,Bool.not_eq_true',decide_eq_false_iff_not]
  omega
 rw[←this]
 simp only[Bool.and_assoc]
noncomputable def keyPart (x:THead):Bool:=(bif noK (Head_Heirs x)then((Head_Wait x)==(0:Int))else(keysB (Head_Heirs x)&&inR (Head_Wait x) 1 500))&&(keysB (Head_Judge x)||(noK (Head_Judge x)&& !(Head_Frozen x)))
noncomputable def isHeadB (x:THead):Bool:=hr4 x&&(spanB x&&(inR (Head_Count x) 0 12&&(keysB (Head_Keys x)&&keyPart x)))
theorem sIsHead_v (x:THead)(hx:sizeHead x≤1050000):spec_IsHead x=some (isHeadB x):=by
 unfold sizeHead sizeKeys at hx
 have k1:=sKeysB (Head_Keys x) (by omega)
 have k2:=sKeysB (Head_Heirs x) (by omega)
 have k3:=sKeysB (Head_Judge x) (by omega)
 have n2:=sNoKeys_v (Head_Heirs x)
 have n3:=sNoKeys_v (Head_Judge x)
 have key:(bif noK (Head_Heirs x)then(!((Head_Wait x) !=(0:Int))&&(keysB (Head_Judge x)||(noK (Head_Judge x)&& !(Head_Frozen x))))else(keysB (Head_Heirs x)&&(inR (Head_Wait x) 1 500&&(keysB (Head_Judge x)||(noK (Head_Judge x)&& !(Head_Frozen x))))))=keyPart x:=by
  unfold keyPart
  cases noK (Head_Heirs x)with
  |true=>simp[bne]
  |false=>simp only[cond_f,Bool.and_assoc]
 unfold spec_IsHead
 simp only[spec_IsHead.b,spec_IsHead.l7,spec_IsHead.g7,spec_IsHead.l11,spec_IsHead.g11,spec_IsHead.l21,spec_IsHead.g21,l1In_r,k1,k2,k3,n2,n3,bind_s,bif_some,bif_ff,bif_fl,bif_tl,bif_tr,Bool.not_not]
 rw[key,span_eq]
 unfold isHeadB hr4 Head_Keys
 simp only[Bool.and_assoc]
theorem iIsHead_v (x:THead)(hx:sizeHead x≤1050000):impl_IsHead x=some (isHeadB x):=by
 unfold sizeHead sizeKeys at hx
 have k1:=iKeysB (Head_Keys x) (by omega)
 have k2:=iKeysB (Head_Heirs x) (by omega)
 have k3:=iKeysB (Head_Judge x) (by omega)
 have n2:=iNoKeys_v (Head_Heirs x)
 have n3:=iNoKeys_v (Head_Judge x)
 have q3:=keysB_no (Head_Judge x) (by omega)
 have key:((noK (Head_Heirs x)||keysB (Head_Heirs x))&&((noK (Head_Judge x)||keysB (Head_Judge x))&&((bif noK (Head_Heirs x)then((Head_Wait x)==(0:Int))else inR (Head_Wait x) 1 500)&&(!(Head_Frozen x)|| !noK (Head_Judge x)))))=keyPart x:=by
  unfold keyPart
  revert q3
  generalize ((Head_Wait x)==(0:Int))=a
  generalize inR (Head_Wait x) 1 500=b
  generalize (Head_Frozen x)=c
  cases noK (Head_Heirs x)<;>cases keysB (Head_Heirs x)<;>cases noK (Head_Judge x)<;>cases keysB (Head_Judge x)<;>cases a<;>cases b<;>cases c<;>decide
 unfold impl_IsHead
 simp only[impl_isMaybe,impl_isWait,impl_isSpan,isDigest_r,InRange_r,k1,k2,k3,n2,n3,bind_s,bif_some,bif_ff,bif_fl,bif_tl,bif_tr,Bool.not_not]
 rw[key]
 unfold isHeadB hr4 spanB Head_Keys
 simp only[Bool.and_assoc]
theorem EqualInts_l (x0 x1:List Int)(hl:x0.length=x1.length)(hx:x0.length≤1152921504606846976):∀i n,i≤x0.length→x0.length-i<n→spec_EqualInts.l8 x0 x1 n (i:Int)=some (decide (x0.drop i=x1.drop i)):=by
 refine idx_ind ?_ ?_
 ·intro n
  rw[spec_EqualInts.u8]
  simp only[spec_EqualInts.g8,lt_f (Nat.le_refl _),cond_f]
  rw[List.drop_length,hl,List.drop_length];simp
 ·intro i n hi ih
  have hi':i<x1.length:=by omega
  rw[spec_EqualInts.u8]
  simp only[spec_EqualInts.g8,lt_t hi,lt_t hi',ge_t,cond_t,w64_succ (i:=i) (by omega),Int.toNat_natCast,at_n hi,at_n hi']
  rw[dec_step (drop_eq hi hi')]
  by_cases he:x0[i]=x1[i]
  ·rw[show(x0[i] !=x1[i])=false by simp[he],cond_f,ih,decide_eq_true he,Bool.true_and]
  ·rw[show(x0[i] !=x1[i])=true by simp[he],cond_t,decide_eq_false he,Bool.false_and]
theorem EqualInts_v (x0 x1:List Int)(hx:x0.length≤1152921504606846976):spec_EqualInts x0 x1=some (decide (x0=x1)):=by
 unfold spec_EqualInts
 by_cases hl:x0.length=x1.length
 ·simp only[spec_EqualInts.b,len_eq hl,cond_f]
  have:=EqualInts_l x0 x1 hl hx 0 KK (Nat.zero_le _) (KK_gt (by omega))
  simpa using this
 ·simp only[spec_EqualInts.b,len_ne hl,cond_t]
  rw[decide_eq_false (fun h=>hl (by rw[h]))]
theorem slicesEq_int_l (x0 x1:List Int)(hl:x0.length=x1.length)(hx:x0.length≤1152921504606846976):∀i n,i≤x0.length→x0.length-i<n→slices_Equal_int.l8 x0 x1 n (x0.length:Int) (i:Int)=some (decide (x0.drop i=x1.drop i)):=by
 refine idx_ind ?_ ?_
 ·intro n
  rw[slices_Equal_int.u8]
  simp only[slices_Equal_int.g8,lt_f (Nat.le_refl _),cond_f]
  rw[List.drop_length,hl,List.drop_length];simp
 ·intro i n hi ih
  have hi':i<x1.length:=by omega
  rw[slices_Equal_int.u8]
  simp only[slices_Equal_int.g8,lt_t hi,lt_t hi',ge_t,cond_t,w64_succ (i:=i) (by omega),Int.toNat_natCast,at_n hi,at_n hi']
  rw[dec_step (drop_eq hi hi')]
  by_cases he:x0[i]=x1[i]
  ·rw[show(x0[i] !=x1[i])=false by simp[he],cond_f,ih,decide_eq_true he,Bool.true_and]
  ·rw[show(x0[i] !=x1[i])=true by simp[he],cond_t,decide_eq_false he,Bool.false_and]
theorem slicesEq_int_v (x0 x1:List Int)(hx:x0.length≤1152921504606846976):slices_Equal_int x0 x1=some (decide (x0=x1)):=by
 unfold slices_Equal_int
 by_cases hl:x0.length=x1.length
 ·simp only[slices_Equal_int.b,len_eq hl,cond_f]
  have:=slicesEq_int_l x0 x1 hl hx 0 KK (Nat.zero_le _) (KK_gt (by omega))
  simpa using this
 ·simp only[slices_Equal_int.b,len_ne hl,cond_t]
  rw[decide_eq_false (fun h=>hl (by rw[h]))]
theorem sigEq (a b:TSig):((a.1==b.1)&&((a.2==b.2)&&true))=decide (a=b):=by
 obtain⟨a1,a2⟩:=a
 obtain⟨b1,b2⟩:=b
 by_cases h1:a1=b1<;>by_cases h2:a2=b2<;>simp[h1,h2]
theorem slicesEq_Sig_l (x0 x1:List TSig)(hl:x0.length=x1.length)(hx:x0.length≤1152921504606846976):∀i n,i≤x0.length→x0.length-i<n→slices_Equal_impl_Sig.l8 x0 x1 n (x0.length:Int) (i:Int)=some (decide (x0.drop i=x1.drop i)):=by
 refine idx_ind ?_ ?_
 ·intro n
  rw[slices_Equal_impl_Sig.u8]
  simp only[slices_Equal_impl_Sig.g8,lt_f (Nat.le_refl _),cond_f]
  rw[List.drop_length,hl,List.drop_length];simp
 ·intro i n hi ih
  have hi':i<x1.length:=by omega
  rw[slices_Equal_impl_Sig.u8]
  simp only[slices_Equal_impl_Sig.g8,lt_t hi,lt_t hi',ge_t,cond_t,w64_succ (i:=i) (by omega),Int.toNat_natCast,at_n hi,at_n hi',sigEq]
  rw[dec_step (drop_eq hi hi')]
  by_cases he:x0[i]=x1[i]
  ·simp only[he,decide_true,Bool.not_true,cond_f,Bool.true_and]
   exact ih
  ·simp only[he,decide_false,Bool.not_false,cond_t,Bool.false_and]
theorem slicesEq_Sig_v (x0 x1:List TSig)(hx:x0.length≤1152921504606846976):slices_Equal_impl_Sig x0 x1=some (decide (x0=x1)):=by
 unfold slices_Equal_impl_Sig
 by_cases hl:x0.length=x1.length
 ·simp only[slices_Equal_impl_Sig.b,len_eq hl,cond_f]
  have:=slicesEq_Sig_l x0 x1 hl hx 0 KK (Nat.zero_le _) (KK_gt (by omega))
  simpa using this
 ·simp only[slices_Equal_impl_Sig.b,len_ne hl,cond_t]
  rw[decide_eq_false (fun h=>hl (by rw[h]))]
theorem EqualKeys_v (a b:TKeys)(hx:a.1.length≤1050000):impl_EqualKeys a b=some (decide (a=b)):=by
 unfold impl_EqualKeys
 rw[slicesEq_int_v _ _ (by omega),bind_s]
 obtain⟨a1,a2⟩:=a
 obtain⟨b1,b2⟩:=b
 by_cases h1:a1=b1<;>by_cases h2:a2=b2<;>simp[h1,h2]
theorem keysInts_inj {k k':TKeys}{r r':List Int}(h:keysInts k++r=keysInts k'++r'):k=k'∧r=r':=by
 unfold keysInts at h
 simp only[List.cons_append,List.nil_append,List.append_assoc,List.cons.injEq]at h
 obtain⟨h1,h2,h3⟩:=h
 have hl:k.1.length=k'.1.length:=by omega
 obtain⟨h4,h5⟩:=List.append_inj h3 hl
 exact⟨Prod.ext h4 h1,h5⟩
theorem headInts_inj {a b:THead}(h:headInts a=headInts b):Head_Keys a=Head_Keys b∧Head_Heirs a=Head_Heirs b∧Head_Judge a=Head_Judge b∧hdb a=hdb b:=by
 unfold headInts at h
 simp only[List.append_assoc]at h
 obtain⟨_,h⟩:=List.append_inj h rfl
 obtain⟨h1,h⟩:=keysInts_inj h
 obtain⟨h2,h⟩:=keysInts_inj h
 obtain⟨_,h⟩:=List.append_inj h rfl
 obtain⟨h3,h⟩:=keysInts_inj h
 exact⟨h1,h2,h3,h⟩
theorem hdb_inj {a b:THead}(h:hdb a=hdb b):((Head_Frozen a)==(Head_Frozen b))=true:=by
 unfold hdb at h
 generalize (Head_Frozen a)=p at h⊢
 generalize (Head_Frozen b)=q at h⊢
 revert h
 cases p<;>cases q<;>decide
def eqHeads (a b:THead):Bool:=decide (headInts a=headInts b)
theorem sEqualHeads_v (a b:THead)(ha:sizeHead a≤1050000)(hb:sizeHead b≤1050000):spec_EqualHeads a b=some (eqHeads a b):=by
 unfold spec_EqualHeads eqHeads
 rw[sHeadInts_v a ha,bind_s,sHeadInts_v b hb,bind_s,EqualInts_v _ _ (by rw[headInts_len];omega),bind_s]
 by_cases h:headInts a=headInts b
 ·rw[decide_eq_true h,cond_t,hdb_inj (headInts_inj h).2.2.2]
 ·rw[decide_eq_false h,cond_f]
theorem iEqualHeads_v (a b:THead)(ha:sizeHead a≤1050000)(hb:sizeHead b≤1050000):impl_EqualHeads a b=some (eqHeads a b):=by
 have hs:=ha
 unfold sizeHead sizeKeys at hs
 show((impl_EqualKeys (Head_Keys a) (Head_Keys b)).bind fun y1=>bif y1 then(impl_EqualKeys (Head_Heirs a) (Head_Heirs b)).bind fun y2=>bif y2 then(impl_EqualKeys (Head_Judge a) (Head_Judge b)).bind fun y3=>bif y3 then(impl_HeadInts a).bind fun y4=>(impl_HeadInts b).bind fun y5=>(slices_Equal_int y4 y5).bind fun y6=>some y6 else some false else some false else some false)=_
 rw[EqualKeys_v _ _ (by omega),bind_s,EqualKeys_v _ _ (by omega),bind_s,EqualKeys_v _ _ (by omega),bind_s,iHeadInts_v a ha,bind_s,iHeadInts_v b hb,bind_s,slicesEq_int_v _ _ (by rw[headInts_len];omega),bind_s]
 unfold eqHeads
 by_cases h:headInts a=headInts b
 ·obtain⟨h1,h2,h3,_⟩:=headInts_inj h
  rw[decide_eq_true h1,decide_eq_true h2,decide_eq_true h3,cond_t,cond_t,cond_t]
 ·rw[decide_eq_false h]
  cases decide (Head_Keys a=Head_Keys b)<;>cases decide (Head_Heirs a=Head_Heirs b)<;>cases decide (Head_Judge a=Head_Judge b)<;>rfl
def eqSigneds (a b:TSigned):Bool:=eqHeads (Signed_Head a) (Signed_Head b)&&decide (Signed_Sigs a=Signed_Sigs b)
theorem sEqualSigned_l (x0 x1:TSigned)(hl:(Signed_Sigs x0).length=(Signed_Sigs x1).length)(hx:(Signed_Sigs x0).length≤1152921504606846976):∀i n,i≤(Signed_Sigs x0).length→(Signed_Sigs x0).length-i<n→spec_EqualSigned.l8 x0 x1 n (i:Int)=some (decide ((Signed_Sigs x0).drop i=(Signed_Sigs x1).drop i)):=by
 refine idx_ind ?_ ?_
 ·intro n
  rw[spec_EqualSigned.u8]
  simp only[spec_EqualSigned.g8,lt_f (Nat.le_refl _),cond_f]
  rw[List.drop_length,hl,List.drop_length];simp
 ·intro i n hi ih
  have hi':i<(Signed_Sigs x1).length:=by omega
  rw[spec_EqualSigned.u8]
  simp only[spec_EqualSigned.g8,lt_t hi,lt_t hi',ge_t,cond_t,w64_succ (i:=i) (by omega),Int.toNat_natCast,at_n hi,at_n hi',sigEq]
  rw[dec_step (drop_eq hi hi')]
  generalize (Signed_Sigs x0)[i]=p
  generalize (Signed_Sigs x1)[i]=q
  by_cases he:p=q
  ·simp only[he,decide_true,Bool.not_true,cond_f,Bool.true_and]
   exact ih
  ·simp only[he,decide_false,Bool.not_false,cond_t,Bool.false_and]
theorem sEqualSigned_v (a b:TSigned)(ha:sizeSigned a≤1050000)(hb:sizeSigned b≤1050000):spec_EqualSigned a b=some (eqSigneds a b):=by
 unfold sizeSigned at ha hb
 show((spec_EqualHeads (Signed_Head a) (Signed_Head b)).bind fun y1=>bif !y1 then some false else bif((Signed_Sigs a).length:Int) !=((Signed_Sigs b).length:Int)then some false else spec_EqualSigned.l8 a b KK 0)=_
 rw[sEqualHeads_v _ _ (by omega) (by omega),bind_s]
 unfold eqSigneds
 cases eqHeads (Signed_Head a) (Signed_Head b)with
 |false=>rw[Bool.not_false,cond_t,Bool.false_and]
 |true=>
  rw[Bool.not_true,cond_f,Bool.true_and]
  by_cases hl:(Signed_Sigs a).length=(Signed_Sigs b).length
  ·rw[len_eq hl,cond_f]
   have:=sEqualSigned_l a b hl (by omega) 0 KK (Nat.zero_le _) (KK_gt (by omega))
   simpa using this
  ·rw[len_ne hl,cond_t,decide_eq_false (fun h=>hl (by rw[h]))]
theorem iEqualSigned_v (a b:TSigned)(ha:sizeSigned a≤1050000)(hb:sizeSigned b≤1050000):impl_EqualSigned a b=some (eqSigneds a b):=by
 unfold sizeSigned at ha hb
 show((impl_EqualHeads (Signed_Head a) (Signed_Head b)).bind fun y1=>bif y1 then(slices_Equal_impl_Sig (Signed_Sigs a) (Signed_Sigs b)).bind fun y2=>some y2 else some false)=_
 rw[iEqualHeads_v _ _ (by omega) (by omega),bind_s,slicesEq_Sig_v _ _ (by omega),bind_s]
 unfold eqSigneds
 cases eqHeads (Signed_Head a) (Signed_Head b)<;>rfl
def hasK (xs:List Int)(k:Int):Bool:=xs.any (fun a=>a==k)
theorem l6Has_l (x0:List Int)(k:Int)(hx:x0.length≤1152921504606846976):∀i n,i≤x0.length→x0.length-i<n→spec_l6Has.l4 x0 k n (i:Int)=some (hasK (x0.drop i) k):=by
 refine idx_ind ?_ ?_
 ·intro n
  rw[spec_l6Has.u4]
  simp only[spec_l6Has.g4,lt_f (Nat.le_refl _),cond_f,List.drop_length];rfl
 ·intro i n hi ih
  rw[spec_l6Has.u4]
  simp only[spec_l6Has.g4,lt_t hi,ge_t,cond_t,w64_succ (i:=i) (by omega),Int.toNat_natCast,at_n hi,ih]
  rw[List.drop_eq_getElem_cons hi]
  show _=some ((x0[i]==k)||hasK (x0.drop (i+1)) k)
  cases(x0[i]==k)<;>rfl
theorem l6Has_v (x0:List Int)(k:Int)(hx:x0.length≤1152921504606846976):spec_l6Has x0 k=some (hasK x0 k):=by
 have:=l6Has_l x0 k hx 0 KK (Nat.zero_le _) (KK_gt (by omega))
 rw[List.drop_zero]at this
 exact this
theorem Index_int_l (x0:List Int)(k:Int)(hx:x0.length≤1152921504606846976):∀i n,i≤x0.length→x0.length-i<n→slices_Index_int.l4 x0 k n (x0.length:Int) (i:Int)=some (fnd (fun a=>a==k) (x0.drop i) (i:Int)):=by
 refine idx_ind ?_ ?_
 ·intro n
  rw[slices_Index_int.u4]
  simp only[slices_Index_int.g4,lt_f (Nat.le_refl _),cond_f,fnd_last]
 ·intro i n hi ih
  rw[slices_Index_int.u4]
  simp only[slices_Index_int.g4,lt_t hi,ge_t,cond_t,w64_succ (i:=i) (by omega),Int.toNat_natCast,at_n hi,fnd_step _ hi,ih]
  rw[Bool.beq_comm]
  cases(x0[i]==k)<;>rfl
theorem Contains_int_v (x0:List Int)(k:Int)(hx:x0.length≤1152921504606846976):slices_Contains_int x0 k=some (hasK x0 k):=by
 have h:=Index_int_l x0 k hx 0 KK (Nat.zero_le _) (KK_gt (by omega))
 rw[List.drop_zero]at h
 have e:slices_Index_int x0 k=some (fnd (fun a=>a==k) x0 0):=h
 unfold slices_Contains_int
 rw[e,bind_s,fnd_ge _ _ _ (Int.le_refl 0)];rfl
theorem aB {e f:Option Bool}{b c:Bool}(h:e=some b)(hf:f=some c):(e.bind fun y=>bif y then f else some false)=some (b&&c):=by
 rw[h,bind_s,hf];cases b<;>rfl
theorem aC {f:Option Bool}{c d:Bool}(hf:f=some d):(bif c then f else some false)=some (c&&d):=by
 rw[hf];cases c<;>rfl
theorem aL {α:Type}{e:Option α}{b:α}(h:e=some b):(e.bind fun y=>some y)=some b:=by rw[h,bind_s]
def zoneOf (k:TKeys)(s:Int):Int:=([(239:Int),s]++keysInts k).foldl hstep 11
theorem sZoneOf_v (k:TKeys)(s:Int)(hk:k.1.length≤1050000):spec_ZoneOf k s=some (zoneOf k s):=by
 have hl:=keysInts_len k
 unfold spec_ZoneOf zoneOf
 rw[sKeysInts_v k hk,bind_s,decide_eq_true (by simp[hl];omega),cond_t,sHash_v _ (by simp[hl];omega),bind_s]
theorem iZoneOf_v (k:TKeys)(s:Int)(hk:k.1.length≤1050000):impl_ZoneOf k s=some (zoneOf k s):=by
 have hl:=keysInts_len k
 unfold impl_ZoneOf zoneOf
 rw[iKeysInts_v k hk,bind_s,decide_eq_true (by simp[hl];omega),cond_t,iHash_v _ (by simp[hl];omega),bind_s]
noncomputable def isSigned (k:TKeys)(m:List Int)(sg:List TSig):Bool:=keysB k&&decide (cnt (hasSig sg m) k.1 0≥k.2)
theorem sIsSigned_v (k:TKeys)(m:List Int)(sg:List TSig)(hk:k.1.length≤1050000)(hs:sg.length≤1050000)(hm:m.length≤8388608):spec_IsSigned k m sg=some (isSigned k m sg):=by
 unfold spec_IsSigned isSigned
 exact aB (sKeysB k hk) (bnd (sCountSigs_v k m sg hk hs hm) rfl)
theorem iIsSigned_v (k:TKeys)(m:List Int)(sg:List TSig)(hk:k.1.length≤1050000)(hs:sg.length≤1050000)(hm:m.length≤8388608):impl_IsSigned k m sg=some (isSigned k m sg):=by
 unfold impl_IsSigned isSigned
 exact aB (iKeysB k hk) (bnd (iCountSigs_v k m sg hk hs hm) rfl)
noncomputable def signedBy (s:TSigned)(k:TKeys):Bool:=isSigned k (headInts (Signed_Head s)) (Signed_Sigs s)
theorem hi_len (x:THead)(hx:sizeHead x≤1050000):(headInts x).length≤8388608:=by rw[headInts_len];omega
theorem isSignedBy_v (s:TSigned)(k:TKeys)(hs:sizeSigned s≤1050000)(hk:k.1.length≤1050000):impl_Signed_isSignedBy s k=some (signedBy s k):=by
 unfold sizeSigned at hs
 unfold impl_Signed_isSignedBy signedBy
 exact bnd (iHeadInts_v _ (by omega)) (aL (iIsSigned_v _ _ _ hk (by omega) (hi_len _ (by omega))))
noncomputable def isFirst (s:TSigned):Bool:=isHeadB (Signed_Head s)&&(Head_Epoch (Signed_Head s)==(0:Int)&&(Head_Kind (Signed_Head s)==(1:Int)&&(!(Head_Frozen (Signed_Head s))&&(Head_Zone (Signed_Head s)==zoneOf (Head_Keys (Signed_Head s)) (Head_Prev (Signed_Head s))&&signedBy s (Head_Keys (Signed_Head s))))))
theorem sIsFirst_v (s:TSigned)(hs:sizeSigned s≤1050000):spec_IsFirst s=some (isFirst s):=by
 unfold sizeSigned at hs
 have hk:(Head_Keys (Signed_Head s)).1.length≤1050000:=by unfold sizeHead sizeKeys at hs;omega
 unfold spec_IsFirst isFirst
 exact aB (sIsHead_v _ (by omega)) (aC (aC (aC (bnd (sZoneOf_v _ _ hk) (aC (bnd (sHeadInts_v _ (by omega)) (aL (sIsSigned_v _ _ _ hk (by omega) (hi_len _ (by omega))))))))))
theorem iIsFirst_v (s:TSigned)(hs:sizeSigned s≤1050000):impl_IsFirst s=some (isFirst s):=by
 have hs':=hs
 unfold sizeSigned at hs'
 have hk:(Head_Keys (Signed_Head s)).1.length≤1050000:=by unfold sizeHead sizeKeys at hs';omega
 unfold impl_IsFirst isFirst
 exact aB (iIsHead_v _ (by omega)) (aC (aC (aC (bnd (iZoneOf_v _ _ hk) (aC (aL (isSignedBy_v _ _ hs hk)))))))
theorem sEqualKeys_v (a b:TKeys)(hx:a.1.length≤1050000):spec_EqualKeys a b=some (decide (a=b)):=by
 unfold spec_EqualKeys
 refine(aC (aL (EqualInts_v _ _ (by omega)))).trans ?_
 obtain⟨a1,a2⟩:=a
 obtain⟨b1,b2⟩:=b
 by_cases h1:a1=b1<;>by_cases h2:a2=b2<;>simp[h1,h2]
def sameC (a b:THead):Bool:=Head_Count a==Head_Count b&&Head_Root a==Head_Root b
theorem sSame_v (a b:THead):spec_SameContents a b=some (sameC a b):=aC rfl
theorem iSame_v (a b:THead):impl_SameContents a b=some (sameC a b):=aC rfl
def ownC (p h:THead):Int:=bif Head_Frozen p then 4 else bif Head_Frozen h then 6 else 1
def lateB (p h:THead):Bool:=noK (Head_Heirs p)||decide ((Head_Time h)<(IntKind.i64.wrap ((Head_Until p)+(Head_Wait p))))
def heirC (p h:THead):Int:=bif Head_Frozen p then 4 else bif lateB p h then 5 else bif Head_Frozen h||(!decide (Head_Keys h=Head_Heirs p)|| !sameC h p)then 6 else 1
def judgeC (p h:THead):Int:=bif noK (Head_Judge p)then 5 else bif(Head_Frozen h==Head_Frozen p)|| !(sameC h p&&(decide (Head_Judge h=Head_Judge p)&&(decide (Head_Heirs h=Head_Heirs p)&&(Head_Wait h==Head_Wait p))))then 6 else bif Head_Frozen h&& !decide (Head_Keys h=Head_Keys p)then 6 else 1
theorem sOwn_v (p h:THead):spec_l15Owner p h=some (ownC p h):=by
 unfold spec_l15Owner ownC
 cases Head_Frozen p<;>cases Head_Frozen h<;>rfl
theorem heads_len (h:THead)(hx:sizeHead h≤1050000):(Head_Keys h).1.length≤1050000∧(Head_Heirs h).1.length≤1050000∧(Head_Judge h).1.length≤1050000:=by
 unfold sizeHead sizeKeys at hx;omega
theorem sHeir_v (p h:THead)(hh:sizeHead h≤1050000):spec_l15Heir p h=some (heirC p h):=by
 have hk:=(heads_len h hh).1
 unfold spec_l15Heir heirC lateB
 simp only[spec_l15Heir.b,spec_l15Heir.l9,spec_l15Heir.g9,sNoKeys_v,sEqualKeys_v _ _ hk,sSame_v,bind_s]
 generalize decide ((Head_Time h)<(IntKind.i64.wrap ((Head_Until p)+(Head_Wait p))))=a
 generalize decide (Head_Keys h=Head_Heirs p)=b
 cases Head_Frozen p<;>cases noK (Head_Heirs p)<;>cases a<;>cases Head_Frozen h<;>cases b<;>cases sameC h p<;>rfl
theorem sJudge_v (p h:THead)(hh:sizeHead h≤1050000):spec_l15Judge p h=some (judgeC p h):=by
 have hk:=heads_len h hh
 unfold spec_l15Judge judgeC
 simp only[spec_l15Judge.b,spec_l15Judge.l9,spec_l15Judge.g9,sNoKeys_v,sEqualKeys_v _ _ hk.1,sEqualKeys_v _ _ hk.2.1,sEqualKeys_v _ _ hk.2.2,sSame_v,bind_s,bne]
 generalize (Head_Wait h==Head_Wait p)=w
 generalize (Head_Frozen h==Head_Frozen p)=q
 generalize decide (Head_Judge h=Head_Judge p)=a
 generalize decide (Head_Heirs h=Head_Heirs p)=b
 generalize decide (Head_Keys h=Head_Keys p)=d
 cases noK (Head_Judge p)<;>cases q<;>cases sameC h p<;>cases a<;>cases b<;>cases w<;>cases Head_Frozen h<;>cases d<;>rfl
def finC (code:Int)(b:Bool):Int:=bif code==(1:Int)then(bif b then code else 7)else code
noncomputable def isNext (p h:THead):Bool:=Head_Zone h==Head_Zone p&&(Head_Epoch h==IntKind.i64.wrap ((Head_Epoch p)+(1:Int))&&(Head_Prev h==headDigest p&&decide (Head_Time h≥Head_Time p)))
theorem isNext_v (p h:THead)(hp:sizeHead p≤1050000):impl_isNext p h=some (isNext p h):=by
 unfold impl_isNext isNext
 exact aC (aC (bnd (iHeadDigest_v p hp) (aC rfl)))
noncomputable def kindC (p:THead)(s:TSigned):Int:=
 bif Head_Kind (Signed_Head s)==(2:Int)then finC (heirC p (Signed_Head s)) (signedBy s (Head_Heirs p))else bif Head_Kind (Signed_Head s)==(3:Int)then finC (judgeC p (Signed_Head s)) (signedBy s (Head_Judge p))else finC (ownC p (Signed_Head s)) (signedBy s (Head_Keys p))
noncomputable def nextCode (p:THead)(s:TSigned):Int:=
 bif !(isHeadB p&&isHeadB (Signed_Head s))then 2 else bif !isNext p (Signed_Head s)then 3 else kindC p s
theorem finC_v (c:Int)(b:Bool):(bif c==(1:Int)then(bif !b then some (7:Int)else some c)else some c)=some (finC c b):=by
 unfold finC
 cases(c==(1:Int))<;>cases b<;>rfl
theorem sNext31_v (s:TSigned)(c:Int)(k:TKeys)(hs:sizeSigned s≤1050000)(hk:k.1.length≤1050000):spec_NextCode.l31 s c k.1 k.2=some (finC c (signedBy s k)):=by
 unfold sizeSigned at hs
 unfold spec_NextCode.l31
 simp only[spec_NextCode.g31,sHeadInts_v _ (show sizeHead (Signed_Head s)≤1050000 by omega),sIsSigned_v k _ _ hk (show(Signed_Sigs s).length≤1050000 by omega) (hi_len (Signed_Head s) (by omega)),bind_s]
 exact finC_v c _
theorem sNextCode_v (p:THead)(s:TSigned)(hp:sizeHead p≤1050000)(hs:sizeSigned s≤1050000):spec_NextCode p s=some (nextCode p s):=by
 have hs':=hs
 unfold sizeSigned at hs'
 have hk:=heads_len p hp
 unfold spec_NextCode nextCode isNext
 simp only[spec_NextCode.b,spec_NextCode.l9,spec_NextCode.g9,spec_NextCode.l13,spec_NextCode.g13,sIsHead_v p hp,sIsHead_v (Signed_Head s) (show _≤1050000 by omega),sHeadDigest_v p hp,sOwn_v,sHeir_v p (Signed_Head s) (by omega),sJudge_v p (Signed_Head s) (by omega),sNext31_v s _ _ hs hk.1,sNext31_v s _ _ hs hk.2.1,sNext31_v s _ _ hs hk.2.2,bind_s,bif_some,bne]
 show some _=some _
 unfold kindC
 congr 1
 generalize (Head_Zone (Signed_Head s)==Head_Zone p)=a
 generalize (Head_Epoch (Signed_Head s)==IntKind.i64.wrap ((Head_Epoch p)+(1:Int)))=b
 generalize (Head_Prev (Signed_Head s)==headDigest p)=c
 have e:decide ((Head_Time (Signed_Head s))<(Head_Time p))= !decide (Head_Time (Signed_Head s)≥Head_Time p):=by
  by_cases h:Head_Time (Signed_Head s)<Head_Time p
  ·rw[decide_eq_true h,decide_eq_false (by omega)];rfl
  ·rw[decide_eq_false h,decide_eq_true (by omega)];rfl
 rw[e]
 generalize decide (Head_Time (Signed_Head s)≥Head_Time p)=d
 cases isHeadB p<;>cases isHeadB (Signed_Head s)<;>cases a<;>cases b<;>cases c<;>cases d<;>rfl
theorem iOwn_v (p:THead)(s:TSigned)(hp:sizeHead p≤1050000)(hs:sizeSigned s≤1050000):impl_ownerCode p s=some (finC (ownC p (Signed_Head s)) (signedBy s (Head_Keys p))):=by
 have hk:=heads_len p hp
 unfold impl_ownerCode ownC
 rw[isSignedBy_v s _ hs hk.1,bind_s]
 cases Head_Frozen p<;>cases Head_Frozen (Signed_Head s)<;>cases signedBy s (Head_Keys p)<;>rfl
theorem iHeir_v (p:THead)(s:TSigned)(hp:sizeHead p≤1050000)(hs:sizeSigned s≤1050000):impl_heirCode p s=some (finC (heirC p (Signed_Head s)) (signedBy s (Head_Heirs p))):=by
 have hk:=heads_len p hp
 have hs':=hs
 unfold sizeSigned at hs'
 have hq:=heads_len (Signed_Head s) (by omega)
 unfold impl_heirCode heirC lateB
 simp only[impl_heirCode.b,impl_heirCode.l11,impl_heirCode.g11,impl_heirCode.l15,impl_heirCode.g15,iNoKeys_v,EqualKeys_v _ _ hq.1,iSame_v,isSignedBy_v s _ hs hk.2.1,bind_s]
 generalize decide ((Head_Time (Signed_Head s))<(IntKind.i64.wrap ((Head_Until p)+(Head_Wait p))))=a
 generalize decide (Head_Keys (Signed_Head s)=Head_Heirs p)=b
 generalize signedBy s (Head_Heirs p)=c
 cases Head_Frozen p<;>cases noK (Head_Heirs p)<;>cases a<;>cases Head_Frozen (Signed_Head s)<;>cases b<;>cases sameC (Signed_Head s) p<;>cases c<;>rfl
theorem iJudge_v (p:THead)(s:TSigned)(hp:sizeHead p≤1050000)(hs:sizeSigned s≤1050000):impl_judgeCode p s=some (finC (judgeC p (Signed_Head s)) (signedBy s (Head_Judge p))):=by
 have hk:=heads_len p hp
 have hs':=hs
 unfold sizeSigned at hs'
 have hq:=heads_len (Signed_Head s) (by omega)
 unfold impl_judgeCode judgeC
 simp only[impl_judgeCode.b,impl_judgeCode.l7,impl_judgeCode.g7,impl_judgeCode.l13,impl_judgeCode.g13,iNoKeys_v,EqualKeys_v _ _ hq.1,EqualKeys_v _ _ hq.2.1,EqualKeys_v _ _ hq.2.2,iSame_v,isSignedBy_v s _ hs hk.2.2,bind_s]
 generalize (Head_Wait (Signed_Head s)==Head_Wait p)=w
 generalize (Head_Frozen (Signed_Head s)==Head_Frozen p)=q
 generalize decide (Head_Judge (Signed_Head s)=Head_Judge p)=a
 generalize decide (Head_Heirs (Signed_Head s)=Head_Heirs p)=b
 generalize decide (Head_Keys (Signed_Head s)=Head_Keys p)=d
 generalize signedBy s (Head_Judge p)=c
 cases noK (Head_Judge p)<;>cases q<;>cases sameC (Signed_Head s) p<;>cases a<;>cases b<;>cases w<;>cases Head_Frozen (Signed_Head s)<;>cases d<;>cases c<;>rfl
theorem isHeadB_kind (x:THead)(h:isHeadB x=true):Head_Kind x=1∨Head_Kind x=2∨Head_Kind x=3:=by
 unfold isHeadB hr4 at h
 simp only[Bool.and_eq_true]at h
 have h1:=h.1.2.2.2.2
 unfold inR at h1
 simp only[Bool.and_eq_true,decide_eq_true_eq]at h1
 omega
theorem iNextCode_v (p:THead)(s:TSigned)(hp:sizeHead p≤1050000)(hs:sizeSigned s≤1050000):impl_NextCode p s=some (nextCode p s):=by
 have hs':=hs
 unfold sizeSigned at hs'
 unfold impl_NextCode nextCode
 simp only[impl_NextCode.b,impl_NextCode.l5,impl_NextCode.g5,iIsHead_v p hp,iIsHead_v (Signed_Head s) (show _≤1050000 by omega),isNext_v p _ hp,iOwn_v p s hp hs,iHeir_v p s hp hs,iJudge_v p s hp hs,bind_s]
 cases h1:isHeadB p with
 |false=>rfl
 |true=>
  cases h2:isHeadB (Signed_Head s)with
  |false=>rfl
  |true=>
   cases isNext p (Signed_Head s)with
   |false=>rfl
   |true=>
    show _=some (kindC p s)
    unfold kindC
    rcases isHeadB_kind _ h2 with h|h|h<;>rw[h]<;>rfl
noncomputable def mayFollow (p:THead)(s:TSigned):Bool:=nextCode p s==(1:Int)
theorem sMay_v (p:THead)(s:TSigned)(hp:sizeHead p≤1050000)(hs:sizeSigned s≤1050000):spec_MayFollow p s=some (mayFollow p s):=bnd (sNextCode_v p s hp hs) rfl
theorem iMay_v (p:THead)(s:TSigned)(hp:sizeHead p≤1050000)(hs:sizeSigned s≤1050000):impl_MayFollow p s=some (mayFollow p s):=bnd (iNextCode_v p s hp hs) rfl
noncomputable def isFork (x:TFork):Bool:=
 !eqHeads (Signed_Head (Fork_A x)) (Signed_Head (Fork_B x))&&(bif eqSigneds (Fork_Before x) dSigned then isFirst (Fork_A x)&&(isFirst (Fork_B x)&&(Head_Zone (Signed_Head (Fork_A x))==Head_Zone (Signed_Head (Fork_B x))))else mayFollow (Signed_Head (Fork_Before x)) (Fork_A x)&&mayFollow (Signed_Head (Fork_Before x)) (Fork_B x))
theorem sIsFork_v (x:TFork)(hx:sizeFork x≤1050000):spec_IsFork x=some (isFork x):=by
 unfold sizeFork at hx
 have hb:sizeHead (Signed_Head (Fork_Before x))≤1050000:=by unfold sizeSigned at hx;omega
 have ha:sizeHead (Signed_Head (Fork_A x))≤1050000:=by unfold sizeSigned at hx;omega
 have hc:sizeHead (Signed_Head (Fork_B x))≤1050000:=by unfold sizeSigned at hx;omega
 unfold spec_IsFork isFork
 refine bnd (sEqualHeads_v _ _ ha hc) ?_
 cases eqHeads (Signed_Head (Fork_A x)) (Signed_Head (Fork_B x))with
 |true=>rfl
 |false=>
  refine bnd (sEqualSigned_v _ _ (by omega) (show 0≤1050000 by omega)) ?_
  cases eqSigneds (Fork_Before x) dSigned with
  |true=>simp only[cond_t,cond_f,Bool.not_false,Bool.true_and];exact aB (sIsFirst_v _ (by omega)) (aB (sIsFirst_v _ (by omega)) rfl)
  |false=>simp only[cond_t,cond_f,Bool.not_false,Bool.true_and];exact aB (sMay_v _ _ hb (by omega)) (aL (sMay_v _ _ hb (by omega)))
theorem iIsFork_v (x:TFork)(hx:sizeFork x≤1050000):impl_IsFork x=some (isFork x):=by
 unfold sizeFork at hx
 have hb:sizeHead (Signed_Head (Fork_Before x))≤1050000:=by unfold sizeSigned at hx;omega
 have ha:sizeHead (Signed_Head (Fork_A x))≤1050000:=by unfold sizeSigned at hx;omega
 have hc:sizeHead (Signed_Head (Fork_B x))≤1050000:=by unfold sizeSigned at hx;omega
 unfold impl_IsFork isFork
 refine bnd (iEqualHeads_v _ _ ha hc) ?_
 cases eqHeads (Signed_Head (Fork_A x)) (Signed_Head (Fork_B x))with
 |true=>rfl
 |false=>
  refine bnd (iEqualSigned_v _ _ (by omega) (show 0≤1050000 by omega)) ?_
  cases eqSigneds (Fork_Before x) dSigned with
  |true=>simp only[cond_t,cond_f,Bool.not_false,Bool.true_and];exact aB (iIsFirst_v _ (by omega)) (aB (iIsFirst_v _ (by omega)) rfl)
  |false=>simp only[cond_t,cond_f,Bool.not_false,Bool.true_and];exact aB (iMay_v _ _ hb (by omega)) (aL (iMay_v _ _ hb (by omega)))
def hq (s t:TSigned):Bool:=eqHeads (Signed_Head s) (Signed_Head t)
def hs (xs:List Int):Int:=xs.foldl hstep 11
theorem app1 {α:Type}{xs:List α}{x:α}(h:xs.length≤1050000):decide (xs.length+[x].length<68719476736)=true:=decide_eq_true (by show xs.length+1<_;omega)
theorem len1 {α:Type}(xs:List α)(x:α):(xs++[x]).length=xs.length+1:=by simp
def upK :Nat→Int→List Int
 |0,_=>[]
 |n+1,k=>k::upK n (k+1)
theorem upK_mem :∀(n:Nat) (k x:Int),x∈upK n k↔k≤x∧x<k+(n:Int)
 |0,k,x=>⟨fun h=>absurd h (by simp[upK]),fun h=>by omega⟩
 |n+1,k,x=>by
  unfold upK
  rw[List.mem_cons,upK_mem n (k+1) x]
  omega
theorem upK_lt :∀(n:Nat) (k:Int),(upK n k).Pairwise (· < ·)
 |0,k=>List.Pairwise.nil
 |n+1,k=>by
  unfold upK
  refine List.Pairwise.cons (fun x hx=> ?_) (upK_lt n (k+1))
  have:=(upK_mem n (k+1) x).1 hx
  omega
theorem upK_len :∀(n:Nat) (k:Int),(upK n k).length=n
 |0,k=>rfl
 |n+1,k=>by unfold upK;rw[List.length_cons,upK_len n (k+1)]
theorem asc_eq :∀{xs ys:List Int},xs.Pairwise (· < ·)→ys.Pairwise (· < ·)→(∀a,a∈xs↔a∈ys)→xs=ys
 |[],[],_,_,_=>rfl
 |[],y::ys,_,_,h=>absurd ((h y).2 (List.mem_cons_self ..)) (by simp)
 |x::xs,[],_,_,h=>absurd ((h x).1 (List.mem_cons_self ..)) (by simp)
 |x::xs,y::ys,hx,hy,h=>by
  obtain⟨hx1,hx2⟩:=List.pairwise_cons.1 hx
  obtain⟨hy1,hy2⟩:=List.pairwise_cons.1 hy
  have e:x=y:=by
   have g1:=(h x).1 (List.mem_cons_self ..)
   have g2:=(h y).2 (List.mem_cons_self ..)
   rcases List.mem_cons.1 g1 with g1|g1
   ·exact g1
   ·rcases List.mem_cons.1 g2 with g2|g2
    ·exact g2.symm
    ·have:=hy1 x g1
     have:=hx1 y g2
     omega
  subst e
  congr 1
  refine asc_eq hx2 hy2 fun a=>⟨fun ha=> ?_,fun ha=> ?_⟩
  ·have:=hx1 a ha
   rcases List.mem_cons.1 ((h a).1 (List.mem_cons_of_mem _ ha))with g|g
   ·omega
   ·exact g
  ·have:=hy1 a ha
   rcases List.mem_cons.1 ((h a).2 (List.mem_cons_of_mem _ ha))with g|g
   ·omega
   ·exact g
theorem compact_up (d:Array Int)(hs:∀i j,i≤j→j<d.size→d[i]! ≤d[j]!):∀m,m≤d.size→(Go.Lib.compactUpTo d m).Pairwise (· < ·)∧∀a,a∈Go.Lib.compactUpTo d m↔∃j,j<m∧d[j]! =a
 |0,_=>⟨List.Pairwise.nil,fun a=>⟨fun h=>absurd h (by simp[Go.Lib.compactUpTo]),fun⟨j,h,_⟩=>absurd h (Nat.not_lt_zero _)⟩⟩
 |m+1,hm=>by
  obtain⟨h1,h2⟩:=compact_up d hs m (by omega)
  rw[Go.Lib.compactUpTo_succ]
  by_cases hk:Go.Lib.keeps d m=true
  ·rw[if_pos hk]
   have hkk:m=0∨d[m]! ≠d[m-1]! :=by simpa [Go.Lib.keeps]using hk
   refine⟨List.pairwise_append.2 ⟨h1,List.pairwise_singleton ..,fun a ha b hb=> ?_⟩,fun a=> ?_⟩
   ·rw[List.mem_singleton]at hb
    subst hb
    obtain⟨j,hj,rfl⟩:=(h2 a).1 ha
    have g1:=hs j (m-1) (by omega) (by omega)
    have g2:=hs (m-1) m (by omega) (by omega)
    rcases hkk with hkk|hkk
    ·omega
    ·omega
   ·rw[List.mem_append,h2,List.mem_singleton]
    constructor
    ·rintro(⟨j,hj,rfl⟩|rfl)
     ·exact⟨j,by omega,rfl⟩
     ·exact⟨m,by omega,rfl⟩
    ·rintro⟨j,hj,rfl⟩
     by_cases e:j=m
     ·subst e;exact .inr rfl
     ·exact .inl ⟨j,by omega,rfl⟩
  ·rw[if_neg hk,List.append_nil]
   have hkk:m≠0∧d[m]! =d[m-1]! :=by simpa [Go.Lib.keeps]using hk
   refine⟨h1,fun a=> ?_⟩
   rw[h2]
   constructor
   ·rintro⟨j,hj,rfl⟩
    exact⟨j,by omega,rfl⟩
   ·rintro⟨j,hj,rfl⟩
    by_cases e:j=m
    ·subst e;exact⟨j-1,by omega,hkk.2.symm⟩
    ·exact⟨j,by omega,rfl⟩
theorem sort_compact (xs:List Int):(Go.Lib.compact (α:=Int) (xs.mergeSort fun(p q:Int)=>decide (p≤q))).Pairwise (· < ·)∧∀a,a∈Go.Lib.compact (α:=Int) (xs.mergeSort fun(p q:Int)=>decide (p≤q))↔a∈xs:=by
 have hp:=List.pairwise_mergeSort (le:=fun(p q:Int)=>decide (p≤q)) (fun a b c h1 h2=>by simp only[decide_eq_true_eq]at*;omega) (fun a b=>by simp only[Bool.or_eq_true,decide_eq_true_eq];omega) xs
 have hm:=fun a=>List.mem_mergeSort (le:=fun(p q:Int)=>decide (p≤q)) (a:=a) (l:=xs)
 revert hp hm
 generalize (xs.mergeSort fun(p q:Int)=>decide (p≤q))=ys
 intro hp hm
 have hs:∀i j,i≤j→j<ys.toArray.size→ys.toArray[i]! ≤ys.toArray[j]! :=by
  intro i j hij hj
  have hj:j<ys.length:=by simpa using hj
  by_cases e:i=j
  ·subst e;exact Int.le_refl _
  ·have:=List.pairwise_iff_getElem.1 hp i j (by omega) hj (by omega)
   simp only[decide_eq_true_eq]at this
   rw[getElem!_pos _ i (by simp;omega),getElem!_pos _ j (by simpa using hj)]
   simpa using this
 obtain⟨h1,h2⟩:=compact_up ys.toArray hs ys.length (by simp)
 refine⟨h1,fun a=> ?_⟩
 rw[←hm a]
 refine(h2 a).trans ⟨?_,fun ha=> ?_⟩
 ·rintro⟨j,hj,rfl⟩
  rw[getElem!_pos _ j (by simpa using hj)]
  simp
 ·obtain⟨j,hj,rfl⟩:=List.getElem_of_mem ha
  refine⟨j,hj,?_⟩
  rw[getElem!_pos _ j (by simpa using hj)]
  simp
noncomputable def signers (m:List Int)(sg:List TSig):List Int:=(upK 99 1).filter (hasSig sg m)
theorem signers_len (m:List Int)(sg:List TSig):(signers m sg).length≤99:=by
 have:=List.length_filter_le (hasSig sg m) (upK 99 1)
 rw[upK_len]at this
 exact this
theorem signers_lt (m:List Int)(sg:List TSig):(signers m sg).Pairwise (· < ·):=(upK_lt 99 1).filter _
theorem signers_mem (m:List Int)(sg:List TSig)(k:Int):k∈signers m sg↔hasSig sg m k=true:=by
 unfold signers
 rw[List.mem_filter,upK_mem]
 refine⟨fun h=>h.2,fun h=>⟨?_,h⟩⟩
 unfold hasSig at h
 obtain⟨s,_,hs⟩:=List.any_eq_true.1 h
 unfold sgBy isSigBy at hs
 simp only[Bool.and_eq_true,beq_iff_eq,decide_eq_true_eq]at hs
 omega
theorem signers_c (m:List Int)(sg:List TSig):Go.Lib.compact (α:=Int) (((sg.filter fun s=>isSigBy s m).map (·.1)).mergeSort fun(p q:Int)=>decide (p≤q))=signers m sg:=by
 obtain⟨h1,h2⟩:=sort_compact ((sg.filter fun s=>isSigBy s m).map (·.1))
 refine asc_eq h1 (signers_lt m sg) fun a=> ?_
 rw[h2,signers_mem]
 unfold hasSig
 rw[List.mem_map,List.any_eq_true]
 constructor
 ·rintro⟨s,hs,rfl⟩
  obtain⟨h3,h4⟩:=List.mem_filter.1 hs
  refine⟨s,h3,?_⟩
  unfold sgBy
  rw[beq_self_eq_true,h4]
  rfl
 ·rintro⟨s,hs,h3⟩
  unfold sgBy at h3
  simp only[Bool.and_eq_true,beq_iff_eq]at h3
  exact⟨s,List.mem_filter.2 ⟨hs,h3.2⟩,h3.1⟩
theorem iSigners_l (m:List Int)(sg:List TSig)(hs:sg.length≤1050000)(hm:m.length≤8388608):∀i n,i≤sg.length→sg.length-i<n→∀acc:List Int,acc.length≤i→
 impl_SignersOf.l6 m sg n (sg.length:Int) (i:Int) acc=some (Go.Lib.compact (α:=Int) ((acc++((sg.drop i).filter fun s=>isSigBy s m).map (·.1)).mergeSort fun(p q:Int)=>decide (p≤q))):=by
 refine idx_ind ?_ ?_
 ·intro n acc ha
  rw[impl_SignersOf.u6]
  simp only[impl_SignersOf.g6,lt_f (Nat.le_refl _),cond_f,List.drop_length,List.filter_nil,List.map_nil,List.append_nil]
  refine bnd (by unfold slices_Sort_int;exact cT (decide_eq_true (by unfold V.lim;omega)) rfl) (bnd (by unfold slices_Compact_int;exact cT (decide_eq_true (by rw[List.length_mergeSort];unfold V.lim;omega)) rfl) rfl)
 ·intro i n hi ih acc ha
  rw[impl_SignersOf.u6]
  simp only[impl_SignersOf.g6,lt_t hi,ge_t,cond_t,bind_s,w64_succ (i:=i) (by omega),Int.toNat_natCast,at_n hi,iIsSigBy_v _ _ hm]
  rw[List.drop_eq_getElem_cons hi,List.filter_cons]
  cases hb:isSigBy sg[i] m with
  |true=>
   rw[cond_t,if_pos rfl,List.map_cons]
   refine cT (app1 (by omega)) ?_
   rw[ih _ (by rw[len1];omega),List.append_assoc]
   rfl
  |false=>
   rw[cond_f,if_neg (by simp)]
   exact ih _ (by omega)
theorem iSigners_v (m:List Int)(sg:List TSig)(hs:sg.length≤1050000)(hm:m.length≤8388608):impl_SignersOf m sg=some (signers m sg):=by
 have:=iSigners_l m sg hs hm 0 KK (Nat.zero_le _) (KK_gt (by omega)) [] (Nat.le_refl _)
 rw[List.drop_zero,List.nil_append,signers_c]at this
 exact this
theorem sSigners_l12 (m:List Int)(sg:List TSig)(hs:sg.length≤1050000)(hm:m.length≤8388608)(k:Int)(acc:List Int)(ha:acc.length≤1000)(r:Int→List Int→Option (List Int)):∀i n,i≤sg.length→sg.length-i<n→
 spec_SignersOf.l12 m sg k acc r n (i:Int)=bif(sg.drop i).any (sgBy k m)then r (IntKind.i64.wrap (k+(1:Int))) (acc++[k])else r (IntKind.i64.wrap (k+(1:Int))) acc:=by
 refine idx_ind ?_ ?_
 ·intro n
  rw[spec_SignersOf.u12]
  simp only[spec_SignersOf.g12,lt_f (Nat.le_refl _),cond_f,List.drop_length,List.any_nil]
 ·intro i n hi ih
  rw[spec_SignersOf.u12]
  simp only[spec_SignersOf.g12,spec_SignersOf.l19,spec_SignersOf.g19,lt_t hi,ge_t,cond_t,cond_f,bind_s,w64_succ (i:=i) (by omega),Int.toNat_natCast,at_n hi,sIsSigBy_v _ _ hm,ih,app1 (x:=k) (show acc.length≤1050000 by omega)]
  rw[List.drop_eq_getElem_cons hi,List.any_cons]
  rw[show sgBy k m sg[i]=(sg[i].1==k&&isSigBy sg[i] m)from rfl]
  cases(sg[i].1==k)<;>cases(isSigBy sg[i] m)<;>rfl
theorem sSigners_l (m:List Int)(sg:List TSig)(hs:sg.length≤1050000)(hm:m.length≤8388608):∀(d n:Nat) (k:Int) (acc:List Int),k=100-(d:Int)→d≤99→d<n→acc.length+d≤1000→spec_SignersOf.l6 m sg n k acc=some (acc++(upK d k).filter (hasSig sg m)):=by
 intro d
 induction d with
 |zero=>
  intro n k acc hk _ hn _
  obtain⟨n,rfl⟩:∃n',n=n'+1:=⟨n-1,by omega⟩
  rw[spec_SignersOf.u6]
  refine cF (decide_eq_false (by omega)) ?_
  simp[upK]
 |succ d ih=>
  intro n k acc hk hd hn ha
  obtain⟨n,rfl⟩:∃n',n=n'+1:=⟨n-1,by omega⟩
  rw[spec_SignersOf.u6]
  refine cT (decide_eq_true (by omega)) ?_
  have h12:=sSigners_l12 m sg hs hm k acc (by omega) (spec_SignersOf.l6 m sg n) 0 KK (Nat.zero_le _) (KK_gt (by omega))
  rw[List.drop_zero]at h12
  refine h12.trans ?_
  rw[w64 (n:=k+1) (by omega) (by omega)]
  unfold upK
  rw[List.filter_cons]
  rw[show sg.any (sgBy k m)=hasSig sg m k from rfl]
  cases hasSig sg m k with
  |true=>
   rw[cond_t,if_pos rfl,ih n (k+1) (acc++[k]) (by omega) (by omega) (by omega) (by rw[len1];omega),List.append_assoc]
   rfl
  |false=>
   rw[cond_f,if_neg (by simp)]
   exact ih n (k+1) acc (by omega) (by omega) (by omega) (by omega)
theorem sSigners_v (m:List Int)(sg:List TSig)(hs:sg.length≤1050000)(hm:m.length≤8388608):spec_SignersOf m sg=some (signers m sg):=
 sSigners_l m sg hs hm 99 KK 1 [] (by omega) (by omega) (KK_gt (by omega)) (by simp)
noncomputable def blame (x:TFork):List Int:=bif isFork x then(signers (headInts (Signed_Head (Fork_A x))) (Signed_Sigs (Fork_A x))).filter (hasK (signers (headInts (Signed_Head (Fork_B x))) (Signed_Sigs (Fork_B x))))else []
theorem blame_len (x:TFork):(blame x).length≤99:=by
 unfold blame
 cases isFork x with
 |false=>rw[cond_f];exact Nat.zero_le _
 |true=>rw[cond_t];exact Nat.le_trans (List.length_filter_le ..) (signers_len ..)
theorem blame_l (a b:List Int)(ha:a.length≤1000)(hb:b.length≤1000):∀i n,i≤a.length→a.length-i<n→∀acc:List Int,acc.length≤i→spec_BlameOf.l14 a b n (i:Int) acc=some (acc++(a.drop i).filter (hasK b)):=by
 refine idx_ind ?_ ?_
 ·intro n acc h
  rw[spec_BlameOf.u14]
  simp only[spec_BlameOf.g14,lt_f (Nat.le_refl _),cond_f,List.drop_length,List.filter_nil,List.append_nil]
 ·intro i n hi ih acc h
  rw[spec_BlameOf.u14]
  simp only[spec_BlameOf.g14,lt_t hi,ge_t,cond_t,bind_s,w64_succ (i:=i) (by omega),Int.toNat_natCast,at_n hi,l6Has_v _ _ (show b.length≤1152921504606846976 by omega)]
  rw[List.drop_eq_getElem_cons hi,List.filter_cons]
  cases hasK b a[i]with
  |true=>
   rw[cond_t,if_pos rfl]
   refine cT (app1 (by omega)) ?_
   rw[ih _ (by rw[len1];omega),List.append_assoc]
   rfl
  |false=>
   rw[cond_f,if_neg (by simp)]
   exact ih _ (by omega)
theorem fork_parts {x:TFork}(hx:sizeFork x≤1050000):(sizeHead (Signed_Head (Fork_A x))≤1050000∧(Signed_Sigs (Fork_A x)).length≤1050000)∧(sizeHead (Signed_Head (Fork_B x))≤1050000∧(Signed_Sigs (Fork_B x)).length≤1050000):=by
 unfold sizeFork sizeSigned at hx
 omega
theorem sBlameOf_v (x:TFork)(hx:sizeFork x≤1050000):spec_BlameOf x=some (blame x):=by
 obtain⟨⟨a1,a2⟩,b1,b2⟩:=fork_parts hx
 have e1:(headInts (Signed_Head (Fork_A x))).length≤8388608:=by rw[headInts_len];omega
 have e2:(headInts (Signed_Head (Fork_B x))).length≤8388608:=by rw[headInts_len];omega
 unfold spec_BlameOf spec_BlameOf.b blame
 refine bnd (sIsFork_v x hx) ?_
 cases isFork x with
 |false=>rfl
 |true=>
  refine cF rfl (bnd (sHeadInts_v _ a1) (bnd (sSigners_v _ _ a2 e1) (bnd (sHeadInts_v _ b1) (bnd (sSigners_v _ _ b2 e2) ?_))))
  have:=blame_l _ _ (Nat.le_trans (signers_len (headInts (Signed_Head (Fork_A x))) (Signed_Sigs (Fork_A x))) (by omega)) (Nat.le_trans (signers_len (headInts (Signed_Head (Fork_B x))) (Signed_Sigs (Fork_B x))) (by omega)) 0 KK (Nat.zero_le _) (KK_gt (by have:=signers_len (headInts (Signed_Head (Fork_A x))) (Signed_Sigs (Fork_A x));omega)) [] (Nat.le_refl _)
  rw[List.drop_zero,List.nil_append]at this
  exact this
theorem blame1_v (k:Int)(b:List Int)(hb:b.length≤1000):impl_BlameOf_1 k b=some (!hasK b k):=by
 unfold impl_BlameOf_1
 exact bnd (Contains_int_v b k (by omega)) rfl
theorem idxBlame_v (a b:List Int)(ha:a.length≤1000)(hb:b.length≤1000):slices_IndexFunc_int__BlameOf_1 a ((),b)=some (fnd (fun k=> !hasK b k) a 0):=by
 have h:∀i n,i≤a.length→a.length-i<n→slices_IndexFunc_int__BlameOf_1.l4 a ((),b) n (a.length:Int) (i:Int)=some (fnd (fun k=> !hasK b k) (a.drop i) (i:Int)):=by
  refine idx_ind ?_ ?_
  ·intro n
   rw[slices_IndexFunc_int__BlameOf_1.u4]
   simp only[slices_IndexFunc_int__BlameOf_1.g4,lt_f (Nat.le_refl _),cond_f,fnd_last]
  ·intro i n hi ih
   rw[slices_IndexFunc_int__BlameOf_1.u4]
   simp only[slices_IndexFunc_int__BlameOf_1.g4,lt_t hi,ge_t,cond_t,bind_s,w64_succ (i:=i) (by omega),Int.toNat_natCast,at_n hi,blame1_v _ _ hb,fnd_step _ hi,ih]
   cases(hasK b a[i])<;>rfl
 have:=h 0 KK (Nat.zero_le _) (KK_gt (by omega))
 rw[List.drop_zero]at this
 exact this
theorem fnd_filter (p:Int→Bool):∀(xs:List Int) (k:Int),0≤k→(fnd (fun a=> !p a) xs k= -1∧xs.filter p=xs)∨∃i:Nat,i<xs.length∧fnd (fun a=> !p a) xs k=k+(i:Int)∧xs.filter p=xs.take i++(xs.drop (i+1)).filter p
 |[],k,_=> .inl ⟨rfl,rfl⟩
 |x::xs,k,hk=>by
  rw[fnd_cons,List.filter_cons]
  cases hp:p x with
  |false=>
   refine .inr ⟨0,by simp,?_,?_⟩
   ·show(bif true then k else _)=_
    rw[cond_t];simp
   ·simp
  |true=>
   rw[show(bif !true then k else fnd (fun a=> !p a) xs (k+1))=fnd (fun a=> !p a) xs (k+1)from rfl,if_pos rfl]
   rcases fnd_filter p xs (k+1) (by omega)with⟨h1,h2⟩|⟨i,h1,h2,h3⟩
   ·exact .inl ⟨h1,by rw[h2]⟩
   ·exact .inr ⟨i+1,by simpa using h1,by rw[h2];omega,by rw[h3];rfl⟩
theorem delBlame_l (b:List Int)(hb:b.length≤1000)(len:Nat)(hl:len≤1000):∀(d n:Nat) (j:Nat),j+d=len→d<n→∀(i:Nat) (xs:List Int),i<j→xs.length=len→
 slices_DeleteFunc_int__BlameOf_1.l10 ((),b) n (i:Int) (j:Int) xs=some (([]:List Int),xs.take i++(xs.drop j).filter (hasK b)):=by
 intro d
 induction d with
 |zero=>
  intro n j hj hn i xs hi hx
  obtain⟨n,rfl⟩:∃n',n=n'+1:=⟨n-1,by omega⟩
  rw[slices_DeleteFunc_int__BlameOf_1.u10]
  refine cF (decide_eq_false (by omega)) (cT (decide_eq_true (by omega)) (cT (decide_eq_true (by omega)) (cT (by decide) (cT (decide_eq_true (by omega)) (cT (decide_eq_true (by simp;omega)) ?_)))))
  rw[List.drop_of_length_le (by omega),List.filter_nil,List.append_nil,Int.toNat_natCast,List.take_append_of_le_length (by simp;omega),List.take_take,Nat.min_self]
 |succ d ih=>
  intro n j hj hn i xs hi hx
  obtain⟨n,rfl⟩:∃n',n=n'+1:=⟨n-1,by omega⟩
  have hjx:j<xs.length:=by omega
  have hix:i<xs.length:=by omega
  rw[slices_DeleteFunc_int__BlameOf_1.u10]
  simp only[slices_DeleteFunc_int__BlameOf_1.g10,lt_t hjx,lt_t hix,ge_t,cond_t,bind_s,w64_succ (i:=i) (by omega),w64_succ (i:=j) (by omega),Int.toNat_natCast,at_n hjx,blame1_v _ _ hb,Bool.not_not]
  rw[List.drop_eq_getElem_cons hjx,List.filter_cons]
  cases hasK b xs[j]with
  |true=>
   rw[cond_t,if_pos rfl,ih n (j+1) (by omega) (by omega) (i+1) (xs.set i xs[j]) (by omega) (by rw[List.length_set];exact hx)]
   congr 2
   rw[List.drop_set,if_pos (by omega),List.take_succ_eq_append_getElem (by rw[List.length_set];exact hix),List.getElem_set_self,List.take_set,List.set_eq_of_length_le (by rw[List.length_take];omega),List.append_assoc]
   rfl
  |false=>
   rw[cond_f,if_neg (by simp)]
   exact ih n (j+1) (by omega) (by omega) i xs (by omega) hx
theorem delBlame_v (a b:List Int)(ha:a.length≤1000)(hb:b.length≤1000):slices_DeleteFunc_int__BlameOf_1 a ((),b)=some (([]:List Int),a.filter (hasK b)):=by
 unfold slices_DeleteFunc_int__BlameOf_1 slices_DeleteFunc_int__BlameOf_1.b
 refine bnd (idxBlame_v a b ha hb) ?_
 rcases fnd_filter (hasK b) a 0 (Int.le_refl 0)with⟨h1,h2⟩|⟨i,h1,h2,h3⟩
 ·rw[h1,h2]
  exact cT (by decide) rfl
 ·rw[h2,h3,Int.zero_add,w64_succ (i:=i) (by omega)]
  refine cF (by rw[beq_eq_false_iff_ne];omega) ?_
  exact delBlame_l b hb a.length ha (a.length-(i+1)) KK (i+1) (by omega) (KK_gt (by omega)) i a (by omega) rfl
theorem iBlameOf_v (x:TFork)(hx:sizeFork x≤1050000):impl_BlameOf x=some (blame x):=by
 obtain⟨⟨a1,a2⟩,b1,b2⟩:=fork_parts hx
 have e1:(headInts (Signed_Head (Fork_A x))).length≤8388608:=by rw[headInts_len];omega
 have e2:(headInts (Signed_Head (Fork_B x))).length≤8388608:=by rw[headInts_len];omega
 have l1:=signers_len (headInts (Signed_Head (Fork_A x))) (Signed_Sigs (Fork_A x))
 have l2:=signers_len (headInts (Signed_Head (Fork_B x))) (Signed_Sigs (Fork_B x))
 unfold impl_BlameOf blame
 refine bnd (iIsFork_v x hx) ?_
 cases isFork x with
 |false=>rfl
 |true=>exact cF rfl (bnd (iHeadInts_v _ b1) (bnd (iSigners_v _ _ b2 e2) (bnd (iHeadInts_v _ a1) (bnd (iSigners_v _ _ a2 e1) (bnd (delBlame_v _ _ (by omega) (by omega)) rfl)))))
theorem pure_FnExactBlameOf (x0:TFork)(h0:ForkMax x0):laws_FnExactBlameOf x0=some true:=by
 unfold laws_FnExactBlameOf
 refine sz_law (by omega) (szFork_v _ _ h0 (by omega) (by omega)) (fun g0=> ?_)
 have b0:sizeFork x0≤1050000:=by omega
 obtain⟨r,hs,hi,hr⟩:∃r,spec_BlameOf x0=some r∧impl_BlameOf x0=some r∧r.length≤1050000:=⟨blame x0,sBlameOf_v x0 b0,iBlameOf_v x0 b0,Nat.le_trans (blame_len x0) (by omega)⟩
 refine bnd (toFork_v x0 b0) ?_
 refine bnd hs ?_
 refine bnd (toFork_v x0 b0) ?_
 refine bnd hi ?_
 refine bnd (eqIntS_v r (by omega)) ?_
 refine cF rfl ?_
 refine bnd (toFork_v x0 b0) ?_
 refine bnd (eqFork_v x0 (by omega)) ?_
 refine cF rfl ?_
 have k0:=endFork_b x0 1
 refine bnd (markFork_v x0 1 (by omega) (by omega)) ?_
 refine cF (decide_eq_false (by(try unfold RForkInt_r1);(try dsimp only);omega)) ?_
 refine bnd (eqIntS_v r (by omega)) ?_
 refine cF rfl ?_
 have m0:=endIntS_b r 1
 refine bnd (markIntS_v r 1 (by omega) (by omega)) ?_
 refine bnd (heldIntS_v r 1 (by omega) (by omega)) ?_
 refine cF (decide_eq_false (by(try dsimp only);omega)) ?_
 refine cF (bne_self _) ?_
 refine bnd (toFork_v x0 b0) ?_
 refine bnd hi ?_
 refine bnd (eqIntS_v r (by omega)) ?_
 refine cF rfl ?_
 refine bnd (heldIntS_v r 1 (by omega) (by omega)) ?_
 refine cF (decide_eq_false (by(try dsimp only);omega)) ?_
 refine cF (bne_self _) ?_
 rfl

end Go.Proofs.YtcbeaoigenjoeacGreat
