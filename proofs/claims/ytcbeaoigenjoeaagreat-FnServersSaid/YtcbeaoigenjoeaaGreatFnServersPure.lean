/- The plain law of FnServers: what the printed functions compute is true, for all data in range. -/
import Derived.Test.YtcbeaoigenjoeaaGreatFnServersPure0
noncomputable section
namespace Go.Proofs.YtcbeaoigenjoeaaGreat
open V
set_option linter.unusedVariables false
set_option linter.unusedSimpArgs false
set_option maxHeartbeats 1000000
theorem Za {α β:Type}{e:Option α}{a:α}{f:α->Option β}{r:Option β}(h:e=some a)(hf:f a=r):e.bind f=r:=by rw[h,bind_s];exact hf
theorem cF {α:Type}{c:Bool}{a b r:α}(h:c=false)(hb:b=r):(bif c then a else b)=r:=by rw[h,cond_f];exact hb
theorem cT {α:Type}{c:Bool}{a b r:α}(h:c=true)(ha:a=r):(bif c then a else b)=r:=by rw[h,cond_t];exact ha
def Wl {α:Type}(p:α->Bool):List α->Int->Int
 |[],_=> -1
 |x::xs,k=>bif p x then k else Wl p xs (k+1)
theorem Z0r {α:Type}(p:α->Bool)(x:α)(xs:List α)(k:Int):Wl p (x::xs) k=bif p x then k else Wl p xs (k+1):=rfl
theorem Z2C {α:Type}(p:α->Bool){xs:List α}{i:Nat}(h:i<xs.length):Wl p (xs.drop i) (i:Int)=bif p xs[i]then(i:Int)else Wl p (xs.drop (i+1)) ((i+1:Nat):Int):=by
 rw[List.drop_eq_getElem_cons h,Z0r];rfl
theorem Z2B {α:Type}(p:α->Bool)(xs:List α)(k:Int):Wl p (xs.drop xs.length) k= -1:=by
 rw[List.drop_length];rfl
theorem Z4M {α:Type}(p:α->Bool)(xs:List α):∀k:Int,0<=k->decide (Wl p xs k>=0)=xs.any p:=by
 induction xs with
 |nil=>intro k hk;rfl
 |cons x t ih=>
  intro k hk
  rw[Z0r,List.any_cons]
  cases p x with
  |true=>rw[cond_t,Bool.true_or];exact decide_eq_true hk
  |false=>rw[cond_f,Bool.false_or];exact ih _ (by omega)
theorem Z72 {α:Type}(p:α->Bool)(xs:List α):∀k:Int,Wl p xs k= -1∨k<=Wl p xs k:=by
 induction xs with
 |nil=>intro k;exact .inl rfl
 |cons x t ih=>
  intro k
  rw[Z0r]
  cases p x with
  |true=>rw[cond_t];right;omega
  |false=>rw[cond_f];rcases ih (k+1)with h|h
          ·exact .inl h
          ·right;omega
def all2 {α β:Type}(g:α->β->Bool):List α->List β->Bool
 |x::xs,y::ys=>g x y&&all2 g xs ys
 |_,_=>true
theorem Z6q {α β:Type}(g:α->β->Bool){xs:List α}{ys:List β}{i:Nat}(h:i<xs.length)(h':i<ys.length):all2 g (xs.drop i) (ys.drop i)=(g xs[i] ys[i]&&all2 g (xs.drop (i+1)) (ys.drop (i+1))):=by
 rw[List.drop_eq_getElem_cons h,List.drop_eq_getElem_cons h'];rfl
theorem Z6p {α β:Type}(g:α->β->Bool)(xs:List α)(ys:List β):all2 g (xs.drop xs.length) ys=true:=by
 rw[List.drop_length];rfl
def Qn {α:Type}(g:α->α->Bool)(xs ys:List α):Bool:=decide (xs.length=ys.length)&&all2 g xs ys
theorem Z2x {α:Type}(xs ys:List α)(d:α)(f:α->α->Option Bool)(g:α->α->Bool)(hl:xs.length<=1050000)(hf:∀i (h:i<xs.length) (h':i<ys.length),f xs[i] ys[i]=some (g xs[i] ys[i]))(l:Nat->Int->Option Bool)(u:∀n a,l (n+1) a=(bif decide (a<(xs.length:Int))then bif decide (0<=a)then bif decide (a<(xs.length:Int))then bif decide (0<=a)then bif decide (a<(ys.length:Int))then(f (xs.getD a.toNat d) (ys.getD a.toNat d)).bind λy1=>bif !y1 then some false else l n (IntKind.i64.wrap (a+(1:Int)))else none else none else none else none else some true)):(bif(xs.length:Int) !=(ys.length:Int)then some false else l KK (0:Int))=some (Qn g xs ys):=by
 unfold Qn
 by_cases hq:xs.length=ys.length
 ·have hh:∀i n,i<=xs.length->xs.length-i<n->l n (i:Int)=some (all2 g (xs.drop i) (ys.drop i)):=by
   refine idx_ind ?_ ?_
   ·intro n
    rw[u]
    simp only[lt_f (Nat.le_refl _),cond_f,Z6p]
   ·intro i n hi ih
    have hi':i<ys.length:=by omega
    rw[u]
    simp only[lt_t hi,lt_t hi',ge_t,cond_t,Int.toNat_natCast,at_n hi,at_n hi',hf i hi hi',bind_s,w64_succ (i:=i) (by omega),ih,Z6q g hi hi']
    cases g xs[i] ys[i]<;>rfl
  rw[len_eq hq,cond_f,decide_eq_true hq,Bool.true_and]
  have:=hh 0 KK (Nat.zero_le _) (KK_gt (by omega))
  rw[List.drop_zero,List.drop_zero]at this
  exact this
 ·rw[len_ne hq,cond_t,decide_eq_false hq,Bool.false_and]
theorem QX (a b c:Int):Y3 a b c=some (decide (b<=a)&&decide (a<=c)):=by
 show(bif decide (b<=a)then some (decide (a<=c))else some false)=_
 cases decide (b<=a)<;>rfl
theorem QP (a b c:Int):ZW a b c=some (decide (b<=a)&&decide (a<=c)):=by
 show(bif decide (b<=a)then some (decide (a<=c))else some false)=_
 cases decide (b<=a)<;>rfl
def ZX {α:Type}(size:α->Nat)(xs:List α):Nat:=xs.length+(xs.map size).sum
theorem Z0Q {α:Type}(size:α->Nat){xs:List α}{i:Nat}(h:i<xs.length):size xs[i]<=(xs.map size).sum:=by
 induction xs generalizing i with
 |nil=>simp at h
 |cons x t ih=>
  rw[List.map_cons,List.sum_cons]
  cases i with
  |zero=>show size x<=_;omega
  |succ i=>
   have hi:i<t.length:=by simpa using h
   have:=ih hi
   show size t[i]<=_
   omega
theorem wd {n:Int}(h:0<=n/\n<=4611686018427387904):IntKind.i64.wrap n=n:=w64 (by omega) (by omega)
def Wi (x:ByteArray):Nat:=x.size
def XE (xs:List ByteArray):Nat:=ZX Wi xs
def UI (x:Zc):Nat:=x.1.length
def ZD (x:Z5):Nat:=UI (Zg x)+(UI (Zf x)+(UI (Zi x)))
def Xp (x:Z4):Nat:=ZD (Zb x)+((WM x).length)
def X6 (xs:List Z4):Nat:=ZX Xp xs
def ZL (x:Z0):Nat:=Wi x.1+(XE x.2.2.2)
def Zo (xs:List Z0):Nat:=ZX ZL xs
def QC (x:Xw):Nat:=x.2.length
def Z03 (x:Y5):Nat:=ZL (Wz x)+(ZL (Wy x)+(QC (WT x)+(QC (WU x))))
def Xq (x:Z7):Nat:=X6 x.1+(Zo x.2)
def U1 (xs:List Z7):Nat:=ZX Xq xs
def Wv (x:Z8):Nat:=U1 x.1
def Z1d (xs:List Z8):Nat:=ZX Wv xs
def Q2 (x:Zk):Nat:=X6 (Yh x)+(ZL (XY x)+(QC (U6 x)+(Z03 (U5 x))))
theorem Z6j (n:Int)(h0:0<=n)(h1:n<68719476736):X9 [] n=some []:=by
 have e0:IntKind.i64.wrap ((0:Int)-((0:Nat):Int))=0:=w64 (by omega) (by omega)
 have e1:IntKind.i64.wrap (n-0)=n:=by rw[w64 (by omega) (by omega)];omega
 unfold X9
 simp only[X9.b,X9.l7,X9.g7,e0,e1]
 rw[decide_eq_false (by omega),cond_f]
 by_cases h:n>0
 ·rw[decide_eq_true h,cond_t,decide_eq_true (by omega),cond_t,decide_eq_true h1,cond_t,decide_eq_true (by omega),cond_t,decide_eq_true (by omega),cond_t,decide_eq_true (by omega),cond_t]
  simp
 ·rw[decide_eq_false h,cond_f]
theorem Z6e (x0:List (List Int))(hl:x0.length<1152921504606846976):∀i n,i<=x0.length->x0.length-i<n->∀acc:List Int,acc.length+(x0.drop i).flatten.length<68719476736->Zu.l22 x0 n (x0.length:Int) (i:Int) acc=some (acc++(x0.drop i).flatten):=by
 refine idx_ind ?_ ?_
 ·intro n acc ha
  rw[Zu.u22]
  simp only[Zu.g22,lt_f (Nat.le_refl _),cond_f,List.drop_length,List.flatten_nil,List.append_nil]
 ·intro i n hi ih acc ha
  rw[List.drop_eq_getElem_cons hi,List.flatten_cons]at ha⊢
  rw[List.length_append]at ha
  rw[Zu.u22]
  simp only[Zu.g22,lt_t hi,ge_t,cond_t,w64_succ (i:=i) (by omega),Int.toNat_natCast,at_n hi]
  rw[decide_eq_true (by omega),cond_t,ih _ (by rw[List.length_append];omega),List.append_assoc]
theorem Z6f (x0:List (List Int))(hl:x0.length<1152921504606846976)(hf:x0.flatten.length<68719476736):∀i n,i<=x0.length->x0.length-i<n->∀s:Int,0<=s->s+(x0.drop i).flatten.length<68719476736->Zu.l6 x0 n s (x0.length:Int) (i:Int)=some x0.flatten:=by
 refine idx_ind ?_ ?_
 ·intro n s h0 ha
  rw[Zu.u6]
  rw[List.drop_length,List.flatten_nil]at ha
  simp only[Zu.g6,lt_f (Nat.le_refl _),cond_f]
  rw[Z6j s h0 (by simpa using ha),bind_s]
  have:=Z6e x0 hl 0 KK (Nat.zero_le _) (KK_gt (by omega)) [] (by simpa using hf)
  simpa using this
 ·intro i n hi ih s h0 ha
  rw[List.drop_eq_getElem_cons hi,List.flatten_cons,List.length_append]at ha
  rw[Zu.u6]
  simp only[Zu.g6,lt_t hi,ge_t,cond_t,w64_succ (i:=i) (by omega),Int.toNat_natCast,at_n hi]
  rw[w64 (n:=s+(x0[i].length:Int)) (by omega) (by omega),decide_eq_false (by omega),cond_f,ih _ (by omega) (by omega)]
theorem Z46 (x0:List (List Int))(hl:x0.length<1152921504606846976)(hf:x0.flatten.length<68719476736):Zu x0=some x0.flatten:=by
 have:=Z6f x0 hl hf 0 KK (Nat.zero_le _) (KK_gt (by omega)) 0 (Int.le_refl 0) (by rw[List.drop_zero,Int.zero_add];omega)
 exact this
theorem Za2 (a:Int){m:Int}(h:0<m): -m<Int.tmod a m/\Int.tmod a m<m:=by
 refine⟨?_,Int.tmod_lt_of_pos a h⟩
 have h1:=Int.lt_tmod_of_pos a h
 omega
theorem Z6m (a b:Int):Qf a b=Ur a b:=by
 unfold Qf Ur
 rw[QX,QP]
def Uy (a:Int):Int:=Int.tmod (IntKind.i64.wrap (Int.tmod a 2147483647+2147483647)) 2147483647
theorem Z48 (a:Int):Ur a 2147483647=some (Uy a):=by
 unfold Ur Uy
 rw[QP,bind_s]
 rw[decide_eq_true (by omega),decide_eq_true (by omega),Bool.and_self,Bool.not_true,cond_f]
 rw[show((2147483647:Int)==0)=false from by decide,cond_f,cond_f]
def WN (h a:Int):Int:=Int.tmod (IntKind.i64.wrap ((IntKind.i64.wrap ((IntKind.i64.wrap (h*(1000003:Int)))+Uy a))+(13:Int))) (2147483647:Int)
theorem Z94 (x0:List Int)(hx:x0.length<=1152921504606846976):∀i n,i<=x0.length->x0.length-i<n->∀h:Int,ZF.l6 x0 n h (i:Int)=some ((x0.drop i).foldl WN h):=by
 refine idx_ind ?_ ?_
 ·intro n h
  rw[ZF.u6]
  simp only[ZF.g6,lt_f (Nat.le_refl _),cond_f,List.drop_length,List.foldl_nil]
 ·intro i n hi ih h
  rw[List.drop_eq_getElem_cons hi,List.foldl_cons]
  rw[ZF.u6]
  simp only[ZF.g6,lt_t hi,ge_t,cond_t,bind_s,w64_succ (i:=i) (by omega),Int.toNat_natCast,at_n hi,Z6m,Z48]
  rw[show((2147483647:Int)==0)=false from by decide,cond_f,ih]
  rfl
theorem Z7o (x0:List Int)(hx:x0.length<=1152921504606846976):∀i n,i<=x0.length->x0.length-i<n->∀h:Int,ZQ.l6 x0 n h (x0.length:Int) (i:Int)=some ((x0.drop i).foldl WN h):=by
 refine idx_ind ?_ ?_
 ·intro n h
  rw[ZQ.u6]
  simp only[ZQ.g6,lt_f (Nat.le_refl _),cond_f,List.drop_length,List.foldl_nil]
 ·intro i n hi ih h
  rw[List.drop_eq_getElem_cons hi,List.foldl_cons]
  rw[ZQ.u6]
  simp only[ZQ.g6,lt_t hi,ge_t,cond_t,bind_s,w64_succ (i:=i) (by omega),Int.toNat_natCast,at_n hi,Z48]
  rw[show((2147483647:Int)==0)=false from by decide,cond_f,ih]
  rfl
theorem Z1b (x0:List Int)(hx:x0.length<=1152921504606846976):ZF x0=some (x0.foldl WN 11):=by
 have:=Z94 x0 hx 0 KK (Nat.zero_le _) (KK_gt (by omega)) 11
 rw[List.drop_zero]at this
 exact this
theorem Z1Z (x0:List Int)(hx:x0.length<=1152921504606846976):ZQ x0=some (x0.foldl WN 11):=by
 have:=Z7o x0 hx 0 KK (Nat.zero_le _) (KK_gt (by omega)) 11
 rw[List.drop_zero]at this
 exact this
def Uw (k:Zc):List Int:=[k.2,(k.1.length:Int)]++k.1
theorem Z1t (k:Zc):(Uw k).length=k.1.length+2:=by unfold Uw;simp
theorem Z2Y (k:Zc)(h:k.1.length<=1050000):Ww k=some (Uw k):=by
 unfold Ww Uw
 rw[decide_eq_true (by simp;omega),cond_t]
theorem Z2J (k:Zc)(h:k.1.length<=1050000):Wt k=some (Uw k):=by
 unfold Wt Uw
 rw[decide_eq_true (by simp;omega),cond_t]
def QH (x0:Z5):List Int:=[(ZS x0),(Yb x0),(Y4 x0),(Zt x0),(ZZ x0),(ZH x0),(ZY x0),(Xe x0)]
def QV (x0:Z5):List Int:=[(ZJ x0)]
def hdb (x0:Z5):List Int:=[bif(Zr x0)then(1:Int)else 0]
def WH (x0:Z5):List Int:=((((QH x0++Uw (Zg x0))++Uw (Zf x0))++QV x0)++Uw (Zi x0))++hdb x0
theorem Z10 (x0:Z5):(WH x0).length=ZD x0+16:=by
 unfold WH ZD UI
 simp only[List.length_append,Z1t]
 simp[QH,QV,hdb];omega
theorem Z6u {α:Type}(a b:List α):(a++b).length=a.length+b.length:=List.length_append
theorem Z2g (x0:Z5)(h:ZD x0<=1050000):Xm x0=some (WH x0):=by
 have hs:=h
 unfold ZD UI at hs
 have e1:=Z2Y (Zg x0) (by omega)
 have e2:=Z2Y (Zf x0) (by omega)
 have e3:=Z2Y (Zi x0) (by omega)
 have l1:=Z1t (Zg x0)
 have l2:=Z1t (Zf x0)
 have l3:=Z1t (Zi x0)
 have l8:(QH x0).length=8:=rfl
 have le:(QV x0).length=1:=rfl
 show((Ww (Zg x0)).bind λy1=>bif decide ((QH x0).length+y1.length<68719476736)then(Ww (Zf x0)).bind λy2=>bif decide ((QH x0++y1).length+y2.length<68719476736)then bif decide (((QH x0++y1)++y2).length+(QV x0).length<68719476736)then(Ww (Zi x0)).bind λy3=>bif decide ((((QH x0++y1)++y2)++QV x0).length+y3.length<68719476736)then bif(Zr x0)then bif decide (((((QH x0++y1)++y2)++QV x0)++y3).length+[(1:Int)].length<68719476736)then some (((((QH x0++y1)++y2)++QV x0)++y3)++[(1:Int)])else none else bif decide (((((QH x0++y1)++y2)++QV x0)++y3).length+[(0:Int)].length<68719476736)then some (((((QH x0++y1)++y2)++QV x0)++y3)++[(0:Int)])else none else none else none else none else none)=_
 simp only[e1,e2,e3,bind_s,Z6u,l1,l2,l3,l8,le,List.length_singleton]
 rw[decide_eq_true (by omega),cond_t,decide_eq_true (by omega),cond_t,decide_eq_true (by omega),cond_t,decide_eq_true (by omega),cond_t,decide_eq_true (by omega),cond_t]
 unfold WH hdb
 cases(Zr x0)<;>rfl
theorem Z2G (x0:Z5)(h:ZD x0<=1050000):Xo x0=some (WH x0):=by
 have hs:=h
 unfold ZD UI at hs
 have e1:=Z2J (Zg x0) (by omega)
 have e2:=Z2J (Zf x0) (by omega)
 have e3:=Z2J (Zi x0) (by omega)
 have eb:UE (Zr x0)=some (bif(Zr x0)then(1:Int)else 0):=by
  unfold UE
  cases(Zr x0)<;>rfl
 have ef:[QH x0,Uw (Zg x0),Uw (Zf x0),QV x0,Uw (Zi x0),hdb x0].flatten=WH x0:=by
  simp[WH]
 have ec:=Z46 [QH x0,Uw (Zg x0),Uw (Zf x0),QV x0,Uw (Zi x0),hdb x0] (by simp) (by rw[ef,Z10];omega)
 rw[ef]at ec
 show((Wt (Zg x0)).bind λy1=>(Wt (Zf x0)).bind λy2=>(Wt (Zi x0)).bind λy3=>(UE (Zr x0)).bind λy4=>(Zu [QH x0,y1,y2,QV x0,y3,[y4]]).bind λy5=>some y5)=_
 simp only[e1,e2,e3,eb,bind_s]
 rw[show [bif(Zr x0)then(1:Int)else 0]=hdb x0 from rfl,ec,bind_s]
def Z0t (x0:Z5):Int:=([(233:Int)]++WH x0).foldl WN 11
theorem Z3R (x0:Z5)(h:ZD x0<=1050000):Xt x0=some (Z0t x0):=by
 have hl:=Z10 x0
 unfold Xt Z0t
 rw[Z2g x0 h,bind_s,decide_eq_true (by simp[hl];omega),cond_t,Z1b _ (by simp[hl];omega),bind_s]
theorem Z7p (x0:Z5)(h:ZD x0<=1050000):XM x0=some (Z0t x0):=by
 have hl:=Z10 x0
 unfold XM Z0t
 rw[Z2G x0 h,bind_s,decide_eq_true (by simp[hl];omega),cond_t,Z1Z _ (by simp[hl];omega),bind_s]
def Z24 (k:Int)(xs:List Int):Int:=(([k]++xs)++[k]).foldl WN 11
theorem Z9d (k:Int)(xs:List Int)(h:xs.length<=16777216):Qe k xs=some (Z24 k xs):=by
 unfold Qe Z24
 rw[decide_eq_true (by simp;omega),cond_t,decide_eq_true (by simp;omega),cond_t,Z1b _ (by simp;omega),bind_s]
theorem Z7x (k:Int)(xs:List Int)(h:xs.length<=16777216):UW k xs=some (Z24 k xs):=by
 have ef:[[k],xs,[k]].flatten=([k]++xs)++[k]:=by simp
 have ec:=Z46 [[k],xs,[k]] (by simp) (by rw[ef];simp;omega)
 rw[ef]at ec
 unfold UW Z24
 rw[ec,bind_s,Z1Z _ (by simp;omega),bind_s]
def Z0R (k:Int)(xs:List Int):Int:=Z24 k ([(223:Int)]++xs)
theorem Z5U (k:Int)(xs:List Int)(h:xs.length<=8388608):Uj k xs=some (Z0R k xs):=by
 unfold Uj Z0R
 rw[decide_eq_true (by simp;omega),cond_t,Z9d _ _ (by simp;omega),bind_s]
theorem Z7K (k:Int)(xs:List Int)(h:xs.length<=8388608):UZ k xs=some (Z0R k xs):=by
 unfold UZ Z0R
 rw[decide_eq_true (by simp;omega),cond_t,Z7x _ _ (by simp;omega),bind_s]
theorem Z3x (k:Int):U0 k=some (decide (1<=k)&&decide (k<=99)):=by
 unfold U0
 rw[QP,bind_s]
def Z0J (s:Z9)(xs:List Int):Bool:=(decide (1<=s.1)&&decide (s.1<=99))&&(s.2==Z0R s.1 xs)
theorem Z9b (s:Z9)(xs:List Int)(h:xs.length<=8388608):Qd s xs=some (Z0J s xs):=by
 unfold Qd Z0J
 rw[QX,bind_s,Z5U _ _ h,bind_s]
 cases(decide (1<=s.1)&&decide (s.1<=99))<;>rfl
theorem Z7u (s:Z9)(xs:List Int)(h:xs.length<=8388608):UU s xs=some (Z0J s xs):=by
 unfold UU Z0J
 rw[Z3x,bind_s,Z7K _ _ h,bind_s]
 cases(decide (1<=s.1)&&decide (s.1<=99))<;>rfl
def Z0x (k:Int)(xs:List Int)(s:Z9):Bool:=s.1==k&&Z0J s xs
theorem Z6k (x0:List Z9)(x1:Unit×(Int×List Int))(hx:x0.length<=1050000)(hm:x1.2.2.length<=8388608):∀i n,i<=x0.length->x0.length-i<n->Yl.l4 x0 x1 n (x0.length:Int) (i:Int)=some (Wl (Z0x x1.2.1 x1.2.2) (x0.drop i) (i:Int)):=by
 refine idx_ind ?_ ?_
 ·intro n
  rw[Yl.u4]
  simp only[Yl.g4,lt_f (Nat.le_refl _),cond_f,Z2B]
 ·intro i n hi ih
  rw[Yl.u4]
  simp only[Yl.g4,Qo,Z7u _ _ hm,lt_t hi,ge_t,cond_t,bind_s,w64_succ (i:=i) (by omega),Int.toNat_natCast,at_n hi,Z2C _ hi,ih]
  unfold Z0x
  cases(x0[i].1==x1.2.1)<;>cases(Z0J x0[i] x1.2.2)<;>rfl
theorem Z6g (x0:List Z9)(k:Int)(xs:List Int)(hx:x0.length<=1050000)(hm:xs.length<=8388608):Q6 x0 ((),(k,xs))=some (x0.any (Z0x k xs)):=by
 have h:=Z6k x0 ((),(k,xs)) hx hm 0 KK (Nat.zero_le _) (KK_gt (by omega))
 have e:Yl x0 ((),(k,xs))=some (Wl (Z0x k xs) x0 0):=by
  unfold Yl
  simpa [Yl.b]using h
 unfold Q6
 rw[e,bind_s,Z4M _ _ _ (Int.le_refl 0)]
def cnt (p:Int->Bool):List Int->Int->Int
 |[],c=>c
 |k::ks,c=>cnt p ks (bif p k then c+1 else c)
theorem Z4u (p:Int->Bool){ks:List Int}{i:Nat}(h:i<ks.length)(c:Int):cnt p (ks.drop i) c=cnt p (ks.drop (i+1)) (bif p ks[i]then c+1 else c):=by
 rw[List.drop_eq_getElem_cons h];rfl
theorem Z4t (p:Int->Bool)(ks:List Int)(c:Int):cnt p (ks.drop ks.length) c=c:=by
 rw[List.drop_length];rfl
def Z0s (sg:List Z9)(xs:List Int)(k:Int):Bool:=sg.any (Z0x k xs)
theorem Z7g (x0:Zc)(xs:List Int)(sg:List Z9)(hk:x0.1.length<=1050000)(hs:sg.length<=1050000)(hm:xs.length<=8388608):∀i n,i<=x0.1.length->x0.1.length-i<n->∀c:Int,0<=c->c<=i->Yv.l6 x0 xs sg n c (x0.1.length:Int) (i:Int)=some (cnt (Z0s sg xs) (x0.1.drop i) c):=by
 refine idx_ind ?_ ?_
 ·intro n c h0 h1
  rw[Yv.u6]
  simp only[Yv.g6,lt_f (Nat.le_refl _),cond_f,Z4t]
 ·intro i n hi ih c h0 h1
  rw[Yv.u6]
  simp only[Yv.g6,lt_t hi,ge_t,cond_t,bind_s,w64_succ (i:=i) (by omega),Int.toNat_natCast,at_n hi,Z6g _ _ _ hs hm,Z4u _ hi,w64 (n:=c+1) (by omega) (by omega)]
  rw[show sg.any (Z0x x0.1[i] xs)=Z0s sg xs x0.1[i]from rfl]
  cases Z0s sg xs x0.1[i]with
  |true=>rw[cond_t,cond_t];exact ih _ (by omega) (by omega)
  |false=>rw[cond_f,cond_f];exact ih _ (by omega) (by omega)
theorem Z7h (x0:Zc)(xs:List Int)(sg:List Z9)(hk:x0.1.length<=1050000)(hs:sg.length<=1050000)(hm:xs.length<=8388608):Yv x0 xs sg=some (cnt (Z0s sg xs) x0.1 0):=by
 have:=Z7g x0 xs sg hk hs hm 0 KK (Nat.zero_le _) (KK_gt (by omega)) 0 (Int.le_refl 0) (by omega)
 rw[List.drop_zero]at this
 exact this
theorem Z8Y (x0:Zc)(xs:List Int)(sg:List Z9)(hs:sg.length<=1050000)(hm:xs.length<=8388608)(c:Int)(j:Nat)(hj:j<x0.1.length)(r:Int->Int->Option Int):∀i n,i<=sg.length->sg.length-i<n->Zl.l12 x0 xs sg c (j:Int) r n (i:Int)=bif(sg.drop i).any (Z0x x0.1[j] xs)then r (IntKind.i64.wrap (c+1)) (IntKind.i64.wrap ((j:Int)+1))else r c (IntKind.i64.wrap ((j:Int)+1)):=by
 refine idx_ind ?_ ?_
 ·intro n
  rw[Zl.u12]
  simp only[Zl.g12,lt_f (Nat.le_refl _),cond_f,List.drop_length,List.any_nil]
 ·intro i n hi ih
  rw[Zl.u12]
  simp only[Zl.g12,Zl.l19,Zl.g19,lt_t hi,lt_t hj,ge_t,cond_t,cond_f,bind_s,w64_succ (i:=i) (by omega),Int.toNat_natCast,at_n hi,at_n hj,Z9b _ _ hm,ih]
  rw[List.drop_eq_getElem_cons hi,List.any_cons]
  rw[show Z0x x0.1[j] xs sg[i]=(sg[i].1==x0.1[j]&&Z0J sg[i] xs)from rfl]
  cases(sg[i].1==x0.1[j])<;>cases(Z0J sg[i] xs)<;>rfl
theorem Z8X (x0:Zc)(xs:List Int)(sg:List Z9)(hk:x0.1.length<=1050000)(hs:sg.length<=1050000)(hm:xs.length<=8388608):∀i n,i<=x0.1.length->x0.1.length-i<n->∀c:Int,0<=c->c<=i->Zl.l6 x0 xs sg n c (i:Int)=some (cnt (Z0s sg xs) (x0.1.drop i) c):=by
 refine idx_ind ?_ ?_
 ·intro n c h0 h1
  rw[Zl.u6]
  simp only[Zl.g6,lt_f (Nat.le_refl _),cond_f,Z4t]
 ·intro i n hi ih c h0 h1
  have hl:=Z8Y x0 xs sg hs hm c i hi (Zl.l6 x0 xs sg n) 0 KK (Nat.zero_le _) (KK_gt (by omega))
  rw[List.drop_zero]at hl
  rw[Zl.u6]
  simp only[Zl.g6,lt_t hi,cond_t]
  refine Eq.trans hl ?_
  rw[w64_succ (i:=i) (by omega),w64 (n:=c+1) (by omega) (by omega),Z4u _ hi]
  rw[show sg.any (Z0x x0.1[i] xs)=Z0s sg xs x0.1[i]from rfl]
  cases Z0s sg xs x0.1[i]with
  |true=>rw[cond_t,cond_t];exact ih _ (by omega) (by omega)
  |false=>rw[cond_f,cond_f];exact ih _ (by omega) (by omega)
theorem Z8Z (x0:Zc)(xs:List Int)(sg:List Z9)(hk:x0.1.length<=1050000)(hs:sg.length<=1050000)(hm:xs.length<=8388608):Zl x0 xs sg=some (cnt (Z0s sg xs) x0.1 0):=by
 have:=Z8X x0 xs sg hk hs hm 0 KK (Nat.zero_le _) (KK_gt (by omega)) 0 (Int.le_refl 0) (by omega)
 rw[List.drop_zero]at this
 exact this
def gk (x0:Zc)(j:Nat):Int:=x0.1.getD j 0
theorem Z2D (x0:Zc)(j:Nat):x0.1.getD j 0=gk x0 j:=rfl
def Z3z (x0:Zc)(i:Nat):Prop:=∀j,j<x0.1.length->i<=j->0<j->gk x0 (j-1)<gk x0 j
def Z3B (x0:Zc)(i:Nat):Prop:=∀j,j<x0.1.length->i<=j->(1<=gk x0 j/\gk x0 j<=99)/\(0<j->gk x0 (j-1)<gk x0 j)
def Z5h (x0:Zc):Prop:=(1<=(x0.1.length:Int)/\(x0.1.length:Int)<=4)/\(1<=x0.2/\x0.2<=(x0.1.length:Int))
theorem Z3S (x0:Zc)(hx:x0.1.length<=1050000):∀i n,i<=x0.1.length->x0.1.length-i<n->∃b,ZV.l4 x0 n (i:Int)=some b/\(b=true↔Z3B x0 i/\Z5h x0):=by
 refine idx_ind ?_ ?_
 ·intro n
  rw[ZV.u4]
  simp only[ZV.g4,lt_f (Nat.le_refl _),cond_f,QX,bind_s]
  refine⟨(decide ((1:Int)<=(x0.1.length:Int))&&decide ((x0.1.length:Int)<=4))&&(decide (1<=x0.2)&&decide (x0.2<=(x0.1.length:Int))),?_,?_⟩
  ·cases(decide ((1:Int)<=(x0.1.length:Int))&&decide ((x0.1.length:Int)<=4))<;>rfl
  ·unfold Z3B Z5h
   simp only[Bool.and_eq_true,decide_eq_true_eq]
   exact⟨λh=>⟨λj h1 h2=>absurd h1 (by omega),h⟩,λh=>h.2⟩
 ·intro i n hi ih
  obtain⟨b,hb,hP⟩:=ih
  rw[ZV.u4]
  simp only[ZV.g4,lt_t hi,ge_t,cond_t,QX,bind_s,w64_succ (i:=i) (by omega),Int.toNat_natCast,hb,Z2D]
  by_cases hr:1<=gk x0 i/\gk x0 i<=99
  ·rw[decide_eq_true hr.1,decide_eq_true hr.2,Bool.and_self,Bool.not_true,cond_f]
   by_cases h0:0<i
   ·have ew:IntKind.i64.wrap ((i:Int)-1)=((i-1:Nat):Int):=by rw[w64 (by omega) (by omega)];omega
    simp only[decide_eq_true (show(i:Int)>0 by omega),cond_t,ew,ge_t,lt_t (show i-1<x0.1.length by omega),Int.toNat_natCast,Z2D]
    by_cases ha:gk x0 (i-1)<gk x0 i
    ·rw[decide_eq_false (by omega),cond_f]
     refine⟨b,rfl,hP.trans ⟨λh=>⟨λj h1 h2=> ?_,h.2⟩,λh=>⟨λj h1 h2=>h.1 j h1 (by omega),h.2⟩⟩⟩
     by_cases e:j=i
     ·subst e;exact⟨hr,λ_=>ha⟩
     ·exact h.1 j h1 (by omega)
    ·rw[decide_eq_true (by omega),cond_t]
     refine⟨false,rfl,⟨λh=>Bool.noConfusion h,λh=>absurd ((h.1 i hi (Nat.le_refl _)).2 h0) ha⟩⟩
   ·rw[decide_eq_false (by omega),cond_f]
    refine⟨b,rfl,hP.trans ⟨λh=>⟨λj h1 h2=> ?_,h.2⟩,λh=>⟨λj h1 h2=>h.1 j h1 (by omega),h.2⟩⟩⟩
    by_cases e:j=i
    ·subst e;exact⟨hr,λh=>absurd h h0⟩
    ·exact h.1 j h1 (by omega)
  ·have e:(decide (1<=gk x0 i)&&decide (gk x0 i<=99))=false:=by
    cases hc:(decide (1<=gk x0 i)&&decide (gk x0 i<=99))
    ·rfl
    ·simp only[Bool.and_eq_true,decide_eq_true_eq]at hc;exact absurd hc hr
   rw[e,Bool.not_false,cond_t]
   exact⟨false,rfl,⟨λh=>Bool.noConfusion h,λh=>absurd (h.1 i hi (Nat.le_refl _)).1 hr⟩⟩
theorem Z6w (x0:Zc)(hx:x0.1.length<=1050000):∀i n,i<=x0.1.length->x0.1.length-i<n->∃b,Yx.l4 x0.1 n (x0.1.length:Int) (i:Int)=some b/\(b=true↔Z3z x0 i):=by
 refine idx_ind ?_ ?_
 ·intro n
  rw[Yx.u4]
  simp only[Yx.g4,lt_f (Nat.le_refl _),cond_f]
  exact⟨true,rfl,⟨λ_ j h1 h2=>absurd h1 (by omega),λ_=>rfl⟩⟩
 ·intro i n hi ih
  obtain⟨b,hb,hP⟩:=ih
  rw[Yx.u4]
  simp only[Yx.g4,lt_t hi,ge_t,cond_t,w64_succ (i:=i) (by omega),Int.toNat_natCast,hb,Z2D]
  by_cases h0:0<i
  ·have ew:IntKind.i64.wrap ((i:Int)-1)=((i-1:Nat):Int):=by rw[w64 (by omega) (by omega)];omega
   simp only[decide_eq_true (show(i:Int)>0 by omega),cond_t,ew,ge_t,lt_t (show i-1<x0.1.length by omega),Int.toNat_natCast,Z2D]
   by_cases ha:gk x0 (i-1)<gk x0 i
   ·rw[decide_eq_false (by omega),cond_f]
    refine⟨b,rfl,hP.trans ⟨λh j h1 h2 h3=> ?_,λh j h1 h2 h3=>h j h1 (by omega) h3⟩⟩
    by_cases e:j=i
    ·subst e;exact ha
    ·exact h j h1 (by omega) h3
   ·rw[decide_eq_true (by omega),cond_t]
    exact⟨false,rfl,⟨λh=>Bool.noConfusion h,λh=>absurd (h i hi (Nat.le_refl _) h0) ha⟩⟩
  ·rw[decide_eq_false (by omega),cond_f]
   refine⟨b,rfl,hP.trans ⟨λh j h1 h2 h3=>h j h1 (by omega) h3,λh j h1 h2 h3=>h j h1 (by omega) h3⟩⟩
theorem Z4k (x0:Zc)(h:Z3z x0 0)(a:Nat):∀b,a<=b->b<x0.1.length->gk x0 a<=gk x0 b:=by
 intro b
 induction b with
 |zero=>intro h1 _;have:a=0:=by omega
        subst this;exact Int.le_refl _
 |succ b ih=>
  intro h1 h2
  by_cases e:a=b+1
  ·subst e;exact Int.le_refl _
  ·have:=ih (by omega) (by omega)
   have h3:=h (b+1) h2 (by omega) (by omega)
   rw[show b+1-1=b from rfl]at h3
   omega
theorem Z7X (x0:Zc)(h:Z3z x0 0)(h0:1<=gk x0 0)(h1:gk x0 (x0.1.length-1)<=99):Z3B x0 0:=by
 intro j hj _
 have a:=Z4k x0 h 0 j (by omega) hj
 have b:=Z4k x0 h j (x0.1.length-1) (by omega) (by omega)
 exact⟨⟨by omega,by omega⟩,h j hj (by omega)⟩
theorem Z1N {a b:Bool}(h:a=true↔b=true):a=b:=by cases a<;>cases b<;>simp_all
theorem Z47 (x0:Zc)(hx:x0.1.length<=1050000):∃b,ZV x0=some b/\WC x0=some b:=by
 obtain⟨s,hs,hS⟩:=Z3S x0 hx 0 KK (Nat.zero_le _) (KK_gt (by omega))
 obtain⟨a,ha,hA⟩:=Z6w x0 hx 0 KK (Nat.zero_le _) (KK_gt (by omega))
 refine⟨s,hs,?_⟩
 have ea:Yx x0.1=some a:=ha
 unfold WC
 rw[QP,bind_s]
 by_cases hl:1<=(x0.1.length:Int)/\(x0.1.length:Int)<=4
 ·rw[decide_eq_true hl.1,decide_eq_true hl.2,Bool.and_self,cond_t,ea,bind_s]
  have ew:IntKind.i64.wrap ((x0.1.length:Int)-1)=((x0.1.length-1:Nat):Int):=by rw[w64 (by omega) (by omega)];omega
  cases a with
  |false=>
   rw[cond_f]
   have:s=false:=by
    cases s with
    |false=>rfl
    |true=>
     have h:=(hS.mp rfl).1
     exact(hA.mpr (λj h1 h2 h3=>(h j h1 h2).2 h3)).symm
   rw[this]
  |true=>
   have hasc:=hA.mp rfl
   rw[cond_t,decide_eq_true (Int.le_refl 0),cond_t,decide_eq_true (by omega),cond_t,Z3x,bind_s,ew,ge_t,cond_t,lt_t (by omega),cond_t,Z3x,bind_s,QP,bind_s,Int.toNat_natCast,show(0:Int).toNat=0 from rfl]
   rw[show x0.1.getD 0 0=gk x0 0 from rfl,show x0.1.getD (x0.1.length-1) 0=gk x0 (x0.1.length-1)from rfl]
   have e:s=((decide (1<=gk x0 0)&&decide (gk x0 0<=99))&&((decide (1<=gk x0 (x0.1.length-1))&&decide (gk x0 (x0.1.length-1)<=99))&&(decide (1<=x0.2)&&decide (x0.2<=(x0.1.length:Int))))):=by
    refine Z1N (hS.trans ?_)
    simp only[Bool.and_eq_true,decide_eq_true_eq]
    constructor
    ·intro h
     exact⟨(h.1 0 (by omega) (Nat.le_refl _)).1,(h.1 (x0.1.length-1) (by omega) (by omega)).1,h.2.2⟩
    ·intro h
     exact⟨Z7X x0 hasc h.1.1 h.2.1.2,hl,h.2.2⟩
   rw[e]
   cases(decide (1<=gk x0 0)&&decide (gk x0 0<=99))<;>cases(decide (1<=gk x0 (x0.1.length-1))&&decide (gk x0 (x0.1.length-1)<=99))<;>rfl
 ·have e:(decide (1<=(x0.1.length:Int))&&decide ((x0.1.length:Int)<=4))=false:=by
   cases hc:(decide (1<=(x0.1.length:Int))&&decide ((x0.1.length:Int)<=4))
   ·rfl
   ·simp only[Bool.and_eq_true,decide_eq_true_eq]at hc;exact absurd hc hl
  rw[e,cond_f]
  have:s=false:=by
   cases s with
   |false=>rfl
   |true=>exact absurd (hS.mp rfl).2.1 hl
  rw[this]
theorem Z6l (x0:Zc)(hx:x0.1.length<=1050000)(h:ZV x0=some true):1<=x0.1.length:=by
 obtain⟨s,hs,hS⟩:=Z3S x0 hx 0 KK (Nat.zero_le _) (KK_gt (by omega))
 have e:ZV x0=some s:=hs
 rw[h]at e
 injection e with e
 have:=(hS.mp e.symm).2.1
 omega
def UG (k:Zc):Bool:=(ZV k).getD false
theorem Z1B (k:Zc)(hx:k.1.length<=1050000):ZV k=some (UG k):=by
 obtain⟨b,h1,h2⟩:=Z47 k hx
 unfold UG
 rw[h1];rfl
theorem Z2I (k:Zc)(hx:k.1.length<=1050000):WC k=some (UG k):=by
 obtain⟨b,h1,h2⟩:=Z47 k hx
 unfold UG
 rw[h1,h2];rfl
def Wh (k:Zc):Bool:=k.2==(0:Int)&&((k.1.length:Int)==(0:Int))
theorem Z2Z (k:Zc):WF k=some (Wh k):=by
 unfold WF Wh
 cases(k.2==(0:Int))<;>rfl
theorem Z2K (k:Zc):Wb k=some (Wh k):=by
 unfold Wb Wh
 cases(k.2==(0:Int))<;>rfl
theorem Z7W (k:Zc)(hx:k.1.length<=1050000):(UG k&&Wh k)=false:=by
 cases h:UG k with
 |false=>rfl
 |true=>
  have:=Z6l k hx (by rw[Z1B k hx,h])
  unfold Wh
  have e:((k.1.length:Int)==(0:Int))=false:=by rw[beq_eq_false_iff_ne];omega
  rw[e,Bool.and_false];rfl
def W7 (a b c:Int):Bool:=decide (b<=a)&&decide (a<=c)
theorem Z26 (a b c:Int):Y3 a b c=some (W7 a b c):=QX a b c
theorem Z36 (a b c:Int):ZW a b c=some (W7 a b c):=QP a b c
theorem Z7P (a:Int):WD a=some (W7 a 0 2147483646):=by
 unfold WD
 rw[Z36,bind_s]
theorem Z0W {α:Type}(c:Bool)(a b:α):(bif c then some a else some b)=some (bif c then a else b):=by cases c<;>rfl
theorem Z4m (c a:Bool):(bif c then a else false)=(c&&a):=by cases c<;>rfl
theorem Z4n (c a:Bool):(bif c then false else a)=(!c&&a):=by cases c<;>rfl
theorem Z4o (c a:Bool):(bif c then true else a)=(c||a):=by cases c<;>rfl
theorem Z4p (c a:Bool):(bif c then a else true)=(!c||a):=by cases c<;>rfl
def hr4 (x:Z5):Bool:=W7 (ZS x) 0 2147483646&&(W7 (ZY x) 0 2147483646&&(W7 (Xe x) 0 2147483646&&(W7 (Yb x) 0 200&&W7 (Y4 x) 1 3)))
def Z2j (x:Z5):Bool:=decide ((Zt x)>=0)&&(decide ((Zt x)<=(ZZ x))&&(decide ((ZZ x)<=100000)&&decide (IntKind.i64.wrap ((ZZ x)-(Zt x))<=200)))
theorem Z9R (x:Z5)(r:Bool):(W7 (Zt x) 0 100000&&(W7 (ZZ x) (Zt x) 100000&&(!decide (IntKind.i64.wrap ((ZZ x)-(Zt x))>200)&&r)))=(Z2j x&&r):=by
 have:(W7 (Zt x) 0 100000&&(W7 (ZZ x) (Zt x) 100000&& !decide (IntKind.i64.wrap ((ZZ x)-(Zt x))>200)))=Z2j x:=by
  unfold W7 Z2j
  generalize IntKind.i64.wrap ((ZZ x)-(Zt x))=w
  refine Z1N ?_
  simp only[Bool.and_eq_true,decide_eq_true_eq,Bool.not_eq_true',decide_eq_false_iff_not]
  omega
 rw[←this]
 simp only[Bool.and_assoc]
def Z1s (x:Z5):Bool:=(bif Wh (Zf x)then((ZJ x)==(0:Int))else(UG (Zf x)&&W7 (ZJ x) 1 500))&&(UG (Zi x)||(Wh (Zi x)&& !(Zr x)))
def Xk (x:Z5):Bool:=hr4 x&&(Z2j x&&(W7 (ZH x) 0 12&&(UG (Zg x)&&Z1s x)))
theorem Z1z (x:Z5)(hx:ZD x<=1050000):Zm x=some (Xk x):=by
 unfold ZD UI at hx
 have k1:=Z1B (Zg x) (by omega)
 have k2:=Z1B (Zf x) (by omega)
 have k3:=Z1B (Zi x) (by omega)
 have n2:=Z2Z (Zf x)
 have n3:=Z2Z (Zi x)
 have key:(bif Wh (Zf x)then(!((ZJ x) !=(0:Int))&&(UG (Zi x)||(Wh (Zi x)&& !(Zr x))))else(UG (Zf x)&&(W7 (ZJ x) 1 500&&(UG (Zi x)||(Wh (Zi x)&& !(Zr x))))))=Z1s x:=by
  unfold Z1s
  cases Wh (Zf x)with
  |true=>simp[bne]
  |false=>simp only[cond_f,Bool.and_assoc]
 unfold Zm
 simp only[Zm.b,Zm.l7,Zm.g7,Zm.l11,Zm.g11,Zm.l21,Zm.g21,Z26,k1,k2,k3,n2,n3,bind_s,Z0W,Z4m,Z4n,Z4o,Z4p,Bool.not_not]
 rw[key,Z9R]
 unfold Xk hr4 Zg
 simp only[Bool.and_assoc]
theorem Z3r (x:Z5)(hx:ZD x<=1050000):Xy x=some (Xk x):=by
 unfold ZD UI at hx
 have k1:=Z2I (Zg x) (by omega)
 have k2:=Z2I (Zf x) (by omega)
 have k3:=Z2I (Zi x) (by omega)
 have n2:=Z2K (Zf x)
 have n3:=Z2K (Zi x)
 have q3:=Z7W (Zi x) (by omega)
 have key:((Wh (Zf x)||UG (Zf x))&&((Wh (Zi x)||UG (Zi x))&&((bif Wh (Zf x)then((ZJ x)==(0:Int))else W7 (ZJ x) 1 500)&&(!(Zr x)|| !Wh (Zi x)))))=Z1s x:=by
  unfold Z1s
  revert q3
  generalize ((ZJ x)==(0:Int))=a
  generalize W7 (ZJ x) 1 500=b
  generalize (Zr x)=c
  cases Wh (Zf x)<;>cases UG (Zf x)<;>cases Wh (Zi x)<;>cases UG (Zi x)<;>cases a<;>cases b<;>cases c<;>decide
 unfold Xy
 simp only[Q1,Qt,W1,Z7P,Z36,k1,k2,k3,n2,n3,bind_s,Z0W,Z4m,Z4n,Z4o,Z4p,Bool.not_not]
 rw[key]
 unfold Xk hr4 Z2j Zg
 simp only[Bool.and_assoc]
theorem Z6h (x0 x1:List Int)(hl:x0.length=x1.length)(hx:x0.length<=1152921504606846976):∀i n,i<=x0.length->x0.length-i<n->Ye.l8 x0 x1 n (i:Int)=some (decide (x0.drop i=x1.drop i)):=by
 refine idx_ind ?_ ?_
 ·intro n
  rw[Ye.u8]
  simp only[Ye.g8,lt_f (Nat.le_refl _),cond_f]
  rw[List.drop_length,hl,List.drop_length];simp
 ·intro i n hi ih
  have hi':i<x1.length:=by omega
  rw[Ye.u8]
  simp only[Ye.g8,lt_t hi,lt_t hi',ge_t,cond_t,w64_succ (i:=i) (by omega),Int.toNat_natCast,at_n hi,at_n hi']
  rw[dec_step (drop_eq hi hi')]
  by_cases he:x0[i]=x1[i]
  ·rw[show(x0[i] !=x1[i])=false by simp[he],cond_f,ih,decide_eq_true he,Bool.true_and]
  ·rw[show(x0[i] !=x1[i])=true by simp[he],cond_t,decide_eq_false he,Bool.false_and]
theorem Z6i (x0 x1:List Int)(hx:x0.length<=1152921504606846976):Ye x0 x1=some (decide (x0=x1)):=by
 unfold Ye
 by_cases hl:x0.length=x1.length
 ·simp only[Ye.b,len_eq hl,cond_f]
  have:=Z6h x0 x1 hl hx 0 KK (Nat.zero_le _) (KK_gt (by omega))
  simpa using this
 ·simp only[Ye.b,len_ne hl,cond_t]
  rw[decide_eq_false (λh=>hl (by rw[h]))]
theorem Z9P (x0 x1:List Int)(hl:x0.length=x1.length)(hx:x0.length<=1152921504606846976):∀i n,i<=x0.length->x0.length-i<n->ZU.l8 x0 x1 n (x0.length:Int) (i:Int)=some (decide (x0.drop i=x1.drop i)):=by
 refine idx_ind ?_ ?_
 ·intro n
  rw[ZU.u8]
  simp only[ZU.g8,lt_f (Nat.le_refl _),cond_f]
  rw[List.drop_length,hl,List.drop_length];simp
 ·intro i n hi ih
  have hi':i<x1.length:=by omega
  rw[ZU.u8]
  simp only[ZU.g8,lt_t hi,lt_t hi',ge_t,cond_t,w64_succ (i:=i) (by omega),Int.toNat_natCast,at_n hi,at_n hi']
  rw[dec_step (drop_eq hi hi')]
  by_cases he:x0[i]=x1[i]
  ·rw[show(x0[i] !=x1[i])=false by simp[he],cond_f,ih,decide_eq_true he,Bool.true_and]
  ·rw[show(x0[i] !=x1[i])=true by simp[he],cond_t,decide_eq_false he,Bool.false_and]
theorem Z3Y (x0 x1:List Int)(hx:x0.length<=1152921504606846976):ZU x0 x1=some (decide (x0=x1)):=by
 unfold ZU
 by_cases hl:x0.length=x1.length
 ·simp only[ZU.b,len_eq hl,cond_f]
  have:=Z9P x0 x1 hl hx 0 KK (Nat.zero_le _) (KK_gt (by omega))
  simpa using this
 ·simp only[ZU.b,len_ne hl,cond_t]
  rw[decide_eq_false (λh=>hl (by rw[h]))]
theorem Z9G (a b:Z9):((a.1==b.1)&&((a.2==b.2)&&true))=decide (a=b):=by
 obtain⟨a1,a2⟩:=a
 obtain⟨b1,b2⟩:=b
 by_cases h1:a1=b1<;>by_cases h2:a2=b2<;>simp[h1,h2]
theorem Z9N (x0 x1:List Z9)(hl:x0.length=x1.length)(hx:x0.length<=1152921504606846976):∀i n,i<=x0.length->x0.length-i<n->Y9.l8 x0 x1 n (x0.length:Int) (i:Int)=some (decide (x0.drop i=x1.drop i)):=by
 refine idx_ind ?_ ?_
 ·intro n
  rw[Y9.u8]
  simp only[Y9.g8,lt_f (Nat.le_refl _),cond_f]
  rw[List.drop_length,hl,List.drop_length];simp
 ·intro i n hi ih
  have hi':i<x1.length:=by omega
  rw[Y9.u8]
  simp only[Y9.g8,lt_t hi,lt_t hi',ge_t,cond_t,w64_succ (i:=i) (by omega),Int.toNat_natCast,at_n hi,at_n hi',Z9G]
  rw[dec_step (drop_eq hi hi')]
  by_cases he:x0[i]=x1[i]
  ·simp only[he,decide_true,Bool.not_true,cond_f,Bool.true_and]
   exact ih
  ·simp only[he,decide_false,Bool.not_false,cond_t,Bool.false_and]
theorem Z9O (x0 x1:List Z9)(hx:x0.length<=1152921504606846976):Y9 x0 x1=some (decide (x0=x1)):=by
 unfold Y9
 by_cases hl:x0.length=x1.length
 ·simp only[Y9.b,len_eq hl,cond_f]
  have:=Z9N x0 x1 hl hx 0 KK (Nat.zero_le _) (KK_gt (by omega))
  simpa using this
 ·simp only[Y9.b,len_ne hl,cond_t]
  rw[decide_eq_false (λh=>hl (by rw[h]))]
theorem Z0T (a b:Zc)(hx:a.1.length<=1050000):W9 a b=some (decide (a=b)):=by
 unfold W9
 rw[Z3Y _ _ (by omega),bind_s]
 obtain⟨a1,a2⟩:=a
 obtain⟨b1,b2⟩:=b
 by_cases h1:a1=b1<;>by_cases h2:a2=b2<;>simp[h1,h2]
theorem Z3C {k k':Zc}{r r':List Int}(h:Uw k++r=Uw k'++r'):k=k'/\r=r':=by
 unfold Uw at h
 simp only[List.cons_append,List.nil_append,List.append_assoc,List.cons.injEq]at h
 obtain⟨h1,h2,h3⟩:=h
 have hl:k.1.length=k'.1.length:=by omega
 obtain⟨h4,h5⟩:=List.append_inj h3 hl
 exact⟨Prod.ext h4 h1,h5⟩
theorem Z77 {a b:Z5}(h:WH a=WH b):Zg a=Zg b/\Zf a=Zf b/\Zi a=Zi b/\hdb a=hdb b:=by
 unfold WH at h
 simp only[List.append_assoc]at h
 obtain⟨_,h⟩:=List.append_inj h rfl
 obtain⟨h1,h⟩:=Z3C h
 obtain⟨h2,h⟩:=Z3C h
 obtain⟨_,h⟩:=List.append_inj h rfl
 obtain⟨h3,h⟩:=Z3C h
 exact⟨h1,h2,h3,h⟩
def Z1n (a b:Z5):Bool:=decide (WH a=WH b)
theorem Z7j (a b:Z5)(ha:ZD a<=1050000)(hb:ZD b<=1050000):XK a b=some (Z1n a b):=by
 have hs:=ha
 unfold ZD UI at hs
 show((W9 (Zg a) (Zg b)).bind λy1=>bif y1 then(W9 (Zf a) (Zf b)).bind λy2=>bif y2 then(W9 (Zi a) (Zi b)).bind λy3=>bif y3 then(Xo a).bind λy4=>(Xo b).bind λy5=>(ZU y4 y5).bind λy6=>some y6 else some false else some false else some false)=_
 rw[Z0T _ _ (by omega),bind_s,Z0T _ _ (by omega),bind_s,Z0T _ _ (by omega),bind_s,Z2G a ha,bind_s,Z2G b hb,bind_s,Z3Y _ _ (by rw[Z10];omega),bind_s]
 unfold Z1n
 by_cases h:WH a=WH b
 ·obtain⟨h1,h2,h3,_⟩:=Z77 h
  rw[decide_eq_true h1,decide_eq_true h2,decide_eq_true h3,cond_t,cond_t,cond_t]
 ·rw[decide_eq_false h]
  cases decide (Zg a=Zg b)<;>cases decide (Zf a=Zf b)<;>cases decide (Zi a=Zi b)<;>rfl
def QU (a b:Z4):Bool:=Z1n (Zb a) (Zb b)&&decide (WM a=WM b)
theorem Z7l (a b:Z4)(ha:Xp a<=1050000)(hb:Xp b<=1050000):XL a b=some (QU a b):=by
 unfold Xp at ha hb
 show((XK (Zb a) (Zb b)).bind λy1=>bif y1 then(Y9 (WM a) (WM b)).bind λy2=>some y2 else some false)=_
 rw[Z7j _ _ (by omega) (by omega),bind_s,Z9O _ _ (by omega),bind_s]
 unfold QU
 cases Z1n (Zb a) (Zb b)<;>rfl
def Z0o (a b:ByteArray):Bool:=a.toList==b.toList
theorem Z9Q (x0 x1:List ByteArray)(hx:x0.length<=1050000):YV x0 x1=some (Qn Z0o x0 x1):=
 Z2x x0 x1 (⟨#[]⟩:ByteArray) (λa b=>some (Z0o a b)) Z0o hx (λi h h'=>rfl) (λn a=>YV.l8 x0 x1 n (x0.length:Int) a) (λn a=>YV.u8 x0 x1 n (x0.length:Int) a)
def UQ (a b:Z0):Bool:=Z0o a.1 b.1&&((a.2.1==b.2.1)&&((a.2.2.1==b.2.2.1)&&Qn Z0o a.2.2.2 b.2.2.2))
theorem Z1Y (a b:Z0)(hx:ZL a<=1050000):Wd a b=some (UQ a b):=by
 unfold Wd UQ
 rw[Z9Q _ _ (by unfold ZL XE ZX at hx;omega),bind_s]
 show(bif Z0o a.1 b.1 then _ else _)=_
 cases Z0o a.1 b.1<;>cases(a.2.1==b.2.1)<;>cases(a.2.2.1==b.2.2.1)<;>rfl
theorem Z7I (x0 x1:List Z0)(hx:Zo x0<=1050000):UY x0 x1=some (Qn UQ x0 x1):=by
 have e:YS x0 x1 ((),())=some (Qn UQ x0 x1):=
  Z2x x0 x1 Zw Wd UQ (by unfold Zo ZX at hx;omega) (λi h h'=>Z1Y _ _ (by have:=Z0Q ZL h;unfold Zo ZX at hx;omega)) (λn a=>YS.l8 x0 x1 n (x0.length:Int) a) (λn a=>YS.u8 x0 x1 n (x0.length:Int) a)
 unfold UY
 rw[e,bind_s]
theorem Z5X (x0 x1:List Z4)(hx:X6 x0<=1050000)(hx':X6 x1<=1050000):Uh x0 x1=some (Qn QU x0 x1):=by
 have e:YT x0 x1 ((),())=some (Qn QU x0 x1):=
  Z2x x0 x1 Xx XL QU (by unfold X6 ZX at hx;omega) (λi h h'=>Z7l _ _ (by have:=Z0Q Xp h;unfold X6 ZX at hx;omega) (by have:=Z0Q Xp h';unfold X6 ZX at hx';omega)) (λn a=>YT.l8 x0 x1 n (x0.length:Int) a) (λn a=>YT.u8 x0 x1 n (x0.length:Int) a)
 unfold Uh
 rw[e,bind_s]
def Z0E (a b:Z7):Bool:=Qn QU a.1 b.1&&Qn UQ a.2 b.2
theorem Z51 (a b:Z7)(ha:Xq a<=1050000)(hb:Xq b<=1050000):WW a b=some (Z0E a b):=by
 unfold Xq at ha hb
 unfold WW Z0E
 rw[Z5X _ _ (by omega) (by omega),bind_s,Z7I _ _ (by omega),bind_s]
 cases Qn QU a.1 b.1<;>rfl
theorem Z29 (x:Zc)(hx:x.1.length<=1050000):Wx x=some x:=by
 unfold Wx
 rw[decide_eq_true (by simp;omega),cond_t];rfl
theorem Z6c (x:List Int)(hx:x.length<=1050000):Q4 x=some x:=by
 have e:(bif decide (([]:List Int).length+x.length<68719476736)then some ([]++x)else none)=some x:=by
  rw[decide_eq_true (by simp;omega),cond_t];rfl
 unfold Q4
 rw[e]
 cases x with
 |nil=>exact both_eq _
 |cons a t=>rfl
theorem Z3g (x:Zc)(hx:x.1.length<=1050000):Us x=some x:=by
 unfold Us
 rw[Z6c _ hx,bind_s]
theorem Z25 (x0:Z5)(hx:ZD x0<=1050000):Xj x0=some x0:=by
 unfold ZD UI at hx
 unfold Xj
 exact Za (Z29 _ (by omega)) (Za (Z29 _ (by omega)) (Za (Z29 _ (by omega)) rfl))
theorem Z4w (x0:Z5)(hx:ZD x0<=1050000):XC x0=some x0:=by
 unfold ZD UI at hx
 unfold XC
 exact Za (Z3g _ (by omega)) (Za (Z3g _ (by omega)) (Za (Z3g _ (by omega)) rfl))
theorem Z6b (x:List Z9)(hx:x.length<=1050000):Q3 x=some x:=by
 have e:(bif decide (([]:List Z9).length+x.length<68719476736)then some ([]++x)else none)=some x:=by
  rw[decide_eq_true (by simp;omega),cond_t];rfl
 unfold Q3
 rw[e]
 cases x with
 |nil=>exact both_eq _
 |cons a t=>rfl
theorem Z5j (x0:Z4)(hx:Xp x0<=1050000):Xz x0=some x0:=by
 unfold Xp at hx
 unfold Xz
 exact Za (Z25 _ (by omega)) (cT (decide_eq_true (by simp;omega)) rfl)
theorem Z6N (x0:Z4)(hx:Xp x0<=1050000):XI x0=some x0:=by
 unfold Xp at hx
 unfold XI
 exact Za (Z4w _ (by omega)) (Za (Z6b _ (by omega)) rfl)
def Z0H (xs:List Int)(k:Int):Bool:=xs.any (λa=>a==k)
theorem Z8b (x0:List Int)(k:Int)(hx:x0.length<=1152921504606846976):∀i n,i<=x0.length->x0.length-i<n->YC.l4 x0 k n (i:Int)=some (Z0H (x0.drop i) k):=by
 refine idx_ind ?_ ?_
 ·intro n
  rw[YC.u4]
  simp only[YC.g4,lt_f (Nat.le_refl _),cond_f,List.drop_length];rfl
 ·intro i n hi ih
  rw[YC.u4]
  simp only[YC.g4,lt_t hi,ge_t,cond_t,w64_succ (i:=i) (by omega),Int.toNat_natCast,at_n hi,ih]
  rw[List.drop_eq_getElem_cons hi]
  show _=some ((x0[i]==k)||Z0H (x0.drop (i+1)) k)
  cases(x0[i]==k)<;>rfl
theorem Z8c (x0:List Int)(k:Int)(hx:x0.length<=1152921504606846976):YC x0 k=some (Z0H x0 k):=by
 have:=Z8b x0 k hx 0 KK (Nat.zero_le _) (KK_gt (by omega))
 rw[List.drop_zero]at this
 exact this
def Z0b (sk:List Int)(m:List Int):List Int->List Z9->List Z9
 |[],acc=>acc
 |k::ks,acc=>Z0b sk m ks (bif Z0H sk k then acc++[(k,Z0R k m)]else acc)
theorem Z9L (sk m:List Int){ks:List Int}{i:Nat}(h:i<ks.length)(acc:List Z9):Z0b sk m (ks.drop i) acc=Z0b sk m (ks.drop (i+1)) (bif Z0H sk ks[i]then acc++[(ks[i],Z0R ks[i] m)]else acc):=by
 rw[List.drop_eq_getElem_cons h];rfl
theorem Z9K (sk m ks:List Int)(acc:List Z9):Z0b sk m (ks.drop ks.length) acc=acc:=by
 rw[List.drop_length];rfl
theorem Z3X (sk m ks:List Int):∀acc:List Z9,(Z0b sk m ks acc).length<=acc.length+ks.length:=by
 induction ks with
 |nil=>intro acc;exact Nat.le_refl _
 |cons k ks ih=>
  intro acc
  show(Z0b sk m ks (bif Z0H sk k then acc++[(k,Z0R k m)]else acc)).length<=_
  refine Nat.le_trans (ih _) ?_
  cases Z0H sk k with
  |true=>rw[cond_t,List.length_append,List.length_cons];simp;omega
  |false=>rw[cond_f,List.length_cons];omega
theorem Z9s (sk:List Int)(x1:Zc)(m:List Int)(hs:sk.length<=1050000)(hk:x1.1.length<=1050000)(hm:m.length<=8388608):∀i n,i<=x1.1.length->x1.1.length-i<n->∀acc:List Z9,acc.length<=i->Yg.l6 sk x1 m n (i:Int) acc=some (Z0b sk m (x1.1.drop i) acc):=by
 refine idx_ind ?_ ?_
 ·intro n acc ha
  rw[Yg.u6]
  simp only[Yg.g6,lt_f (Nat.le_refl _),cond_f,Z9K]
 ·intro i n hi ih acc ha
  rw[Yg.u6]
  simp only[Yg.g6,lt_t hi,ge_t,cond_t,bind_s,w64_succ (i:=i) (by omega),Int.toNat_natCast,at_n hi,Z8c _ _ (show sk.length<=1152921504606846976 by omega),Z5U _ _ hm,Z9L _ _ hi]
  cases Z0H sk x1.1[i]with
  |true=>
   rw[cond_t,cond_t,decide_eq_true (by simp;omega),cond_t]
   exact ih _ (by rw[List.length_append];simp;omega)
  |false=>rw[cond_f,cond_f];exact ih _ (by omega)
theorem Z5S (sk:List Int)(x1:Zc)(m:List Int)(hs:sk.length<=1050000)(hk:x1.1.length<=1050000)(hm:m.length<=8388608):Yg sk x1 m=some (Z0b sk m x1.1 []):=by
 have:=Z9s sk x1 m hs hk hm 0 KK (Nat.zero_le _) (KK_gt (by omega)) [] (Nat.le_refl _)
 rw[List.drop_zero]at this
 exact this
def Z2i (sk:List Int)(k:Zc)(h:Z5):Z4:=Z0U h (Z0b sk (WH h) k.1 [])
theorem Z2h (sk:List Int)(k:Zc)(h:Z5)(hs:sk.length<=1050000)(hk:k.1.length<=1050000)(hh:ZD h<=1050000):Xc sk k h=some (Z2i sk k h):=by
 unfold Xc
 rw[Z25 _ hh,bind_s,Z2g _ hh,bind_s,Z5S _ _ _ hs hk (by rw[Z10];omega),bind_s];rfl
theorem Z9H (sk:List Int)(k:Zc)(h:Z5):Xp (Z2i sk k h)<=ZD h+k.1.length:=by
 have:=Z3X sk (WH h) k.1 []
 show ZD h+(Z0b sk (WH h) k.1 []).length<=_
 rw[List.length_nil,Nat.zero_add]at this
 omega
def nhD (y:Z5)(e a b u d:Int):Z5:=((ZS y),e,a,b,u,(ZH y),(ZY y),d,(Zg y).1,(Zg y).2,(Zf y).1,(Zf y).2,(ZJ y),(Zi y).1,(Zi y).2,(Zr y))
def Z1f (h:Z5):Yi:=bif Xk h then UN h true else UN UD false
theorem Z5l (h:Z5)(hx:ZD h<=1050000):XA h=some (Z1f h):=by
 unfold XA Z1f
 rw[Z1z _ hx,bind_s]
 cases Xk h<;>rfl
def Z00 (x0:Z5)(x2 x3:Int):Bool:=Xk x0&&(W7 x2 (Zt x0) 100000&&W7 x3 0 200)
def Wo (x0:Z5)(x1 x2 x3:Int):Z5:=nhD x0 (IntKind.i64.wrap ((Yb x0)+(1:Int))) x1 x2 (IntKind.i64.wrap (x2+x3)) (Z0t x0)
def Z1w (x0:Z5)(x1 x2 x3:Int):Yi:=bif Z00 x0 x2 x3 then Z1f (Wo x0 x1 x2 x3)else UN UD false
theorem Z9i (x0:Z5)(x1 x2 x3:Int)(v:Bool)(hx:ZD x0<=1050000):Yr.l5 x0 x1 x2 x3 v=some (bif v then UN UD false else Z1f (Wo x0 x1 x2 x3)):=by
 cases v with
 |true=>rfl
 |false=>
  show((Xj x0).bind λy2=>(Xt x0).bind λy3=>(XA (nhD y2 (IntKind.i64.wrap ((Yb x0)+(1:Int))) x1 x2 (IntKind.i64.wrap (x2+x3)) y3)).bind λy4=>some y4)=_
  have hn:ZD (nhD x0 (IntKind.i64.wrap ((Yb x0)+(1:Int))) x1 x2 (IntKind.i64.wrap (x2+x3)) (Z0t x0))<=1050000:=hx
  rw[Z25 _ hx,bind_s,Z3R _ hx,bind_s,Z5l _ hn,bind_s];rfl
theorem Z9j (x0:Z5)(x1 x2 x3:Int)(hx:ZD x0<=1050000):Yr x0 x1 x2 x3=some (Z1w x0 x1 x2 x3):=by
 unfold Yr
 simp only[Yr.b,Z1z _ hx,Z26,bind_s,Z9i _ _ _ _ _ hx]
 unfold Z1w Z00
 cases Xk x0<;>cases W7 x2 (Zt x0) 100000<;>cases W7 x3 0 200<;>rfl
theorem Z3A (k:Zc)(hx:k.1.length<=1050000)(h:UG k=true):k.1.length<=4:=by
 obtain⟨s,hs,hS⟩:=Z3S k hx 0 KK (Nat.zero_le _) (KK_gt (by omega))
 have e:ZV k=some s:=hs
 rw[Z1B k hx,h]at e
 injection e with e
 have:=(hS.mp e.symm).2.1
 omega
theorem Z5C (k:Zc)(h:Wh k=true):k.1.length<=4:=by
 unfold Wh at h
 simp only[Bool.and_eq_true,beq_iff_eq]at h
 omega
theorem Z3w (x:Z5)(hx:ZD x<=1050000)(h:Xk x=true):ZD x<=12:=by
 have hs:=hx
 unfold ZD UI at hs
 unfold Xk Z1s at h
 simp only[Bool.and_eq_true]at h
 obtain⟨_,_,_,h1,h2,h3⟩:=h
 have l1:=Z3A _ (by omega) h1
 have l2:(Zf x).1.length<=4:=by
  cases hn:Wh (Zf x)with
  |true=>exact Z5C _ hn
  |false=>
   rw[hn,cond_f,Bool.and_eq_true]at h2
   exact Z3A _ (by omega) h2.1
 have l3:(Zi x).1.length<=4:=by
  rw[Bool.or_eq_true,Bool.and_eq_true]at h3
  rcases h3 with h3|h3
  ·exact Z3A _ (by omega) h3
  ·exact Z5C _ h3.1
 unfold ZD UI
 omega
theorem aB {e f:Option Bool}{b c:Bool}(h:e=some b)(hf:f=some c):(e.bind λy=>bif y then f else some false)=some (b&&c):=by
 rw[h,bind_s,hf];cases b<;>rfl
theorem aC {f:Option Bool}{c d:Bool}(hf:f=some d):(bif c then f else some false)=some (c&&d):=by
 rw[hf];cases c<;>rfl
theorem aL {α:Type}{e:Option α}{b:α}(h:e=some b):(e.bind λy=>some y)=some b:=by rw[h,bind_s]
def Z0n (a b:Xw):Bool:=a.1==b.1&&decide (a.2=b.2)
theorem Z2F (a b:Xw)(hx:QC a<=1050000):WB a b=some (Z0n a b):=by
 unfold QC at hx
 unfold WB Z0n
 exact aC (aL (Z3Y _ _ (by omega)))
def Z1m (a b:Y5):Bool:=YZ a==YZ b&&(UQ (Wz a) (Wz b)&&(UQ (Wy a) (Wy b)&&(Z0n (WT a) (WT b)&&Z0n (WU a) (WU b))))
theorem Z50 (a b:Y5)(hx:Z03 a<=1050000):XB a b=some (Z1m a b):=by
 unfold Z03 at hx
 unfold XB Z1m
 exact aC (aB (Z1Y _ _ (by omega)) (aB (Z1Y _ _ (by omega)) (aB (Z2F _ _ (by omega)) (aL (Z2F _ _ (by omega))))))
def Z2y (a b:Zk):Bool:=Qn QU (Yh a) (Yh b)&&(UM a==UM b&&(UQ (XY a) (XY b)&&(Z0n (U6 a) (U6 b)&&Z1m (U5 a) (U5 b))))
theorem Z4Z (a b:Zk)(ha:Q2 a<=1050000)(hb:Q2 b<=1050000):XH a b=some (Z2y a b):=by
 unfold Q2 at ha hb
 unfold XH Z2y
 exact aB (Z5X _ _ (by omega) (by omega)) (aC (aB (Z1Y _ _ (by omega)) (aB (Z2F _ _ (by omega)) (aL (Z50 _ _ (by omega))))))
def Z2A (a b:Z8):Bool:=a.2==b.2&&Qn Z0E a.1 b.1
theorem Z0y {xs:List Z7}{i:Nat}(h:i<xs.length){n:Nat}(hx:U1 xs<=n):Xq xs[i]<=n:=by
 have:=Z0Q Xq h
 unfold U1 ZX at hx
 omega
theorem Z7k (a b:Z8)(ha:Wv a<=1050000)(hb:Wv b<=1050000):US a b=some (Z2A a b):=by
 unfold Wv at ha hb
 have e:YU a.1 b.1 ((),())=some (Qn Z0E a.1 b.1):=
  Z2x a.1 b.1 YN WW Z0E (by unfold U1 ZX at ha;omega) (λi h h'=>Z51 _ _ (Z0y h ha) (Z0y h' hb)) (λn c=>YU.l8 a.1 b.1 n (a.1.length:Int) c) (λn c=>YU.u8 a.1 b.1 n (a.1.length:Int) c)
 unfold US Z2A
 exact aC (aL e)
theorem Z1c {xs:List Z4}{i:Nat}(h:i<xs.length){n:Nat}(hx:X6 xs<=n):Xp xs[i]<=n:=by
 have:=Z0Q Xp h
 unfold X6 ZX at hx
 omega
theorem Z0D {xs:List Z0}{i:Nat}(h:i<xs.length){n:Nat}(hx:Zo xs<=n):ZL xs[i]<=n:=by
 have:=Z0Q ZL h
 unfold Zo ZX at hx
 omega
def Z1J (k:Zc)(s:Int):Int:=([(239:Int),s]++Uw k).foldl WN 11
theorem Z5W (k:Zc)(s:Int)(hk:k.1.length<=1050000):Uk k s=some (Z1J k s):=by
 have hl:=Z1t k
 unfold Uk Z1J
 rw[Z2Y k hk,bind_s,decide_eq_true (by simp[hl];omega),cond_t,Z1b _ (by simp[hl];omega),bind_s]
theorem Z7O (k:Zc)(s:Int)(hk:k.1.length<=1050000):Q0 k s=some (Z1J k s):=by
 have hl:=Z1t k
 unfold Q0 Z1J
 rw[Z2J k hk,bind_s,decide_eq_true (by simp[hl];omega),cond_t,Z1Z _ (by simp[hl];omega),bind_s]
def Z22 (k:Zc)(m:List Int)(sg:List Z9):Bool:=UG k&&decide (cnt (Z0s sg m) k.1 0>=k.2)
theorem Z5N (k:Zc)(m:List Int)(sg:List Z9)(hk:k.1.length<=1050000)(hs:sg.length<=1050000)(hm:m.length<=8388608):Ui k m sg=some (Z22 k m sg):=by
 unfold Ui Z22
 exact aB (Z1B k hk) (Za (Z8Z k m sg hk hs hm) rfl)
theorem Z7v (k:Zc)(m:List Int)(sg:List Z9)(hk:k.1.length<=1050000)(hs:sg.length<=1050000)(hm:m.length<=8388608):UV k m sg=some (Z22 k m sg):=by
 unfold UV Z22
 exact aB (Z2I k hk) (Za (Z7h k m sg hk hs hm) rfl)
def QN (s:Z4)(k:Zc):Bool:=Z22 k (WH (Zb s)) (WM s)
theorem Z3o (x:Z5)(hx:ZD x<=1050000):(WH x).length<=8388608:=by rw[Z10];omega
theorem Z2N (s:Z4)(k:Zc)(hs:Xp s<=1050000)(hk:k.1.length<=1050000):Xn s k=some (QN s k):=by
 unfold Xp at hs
 unfold Xn QN
 exact Za (Z2G _ (by omega)) (aL (Z7v _ _ _ hk (by omega) (Z3o _ (by omega))))
def Z0v (s:Z4):Bool:=Xk (Zb s)&&(Yb (Zb s)==(0:Int)&&(Y4 (Zb s)==(1:Int)&&(!(Zr (Zb s))&&(ZS (Zb s)==Z1J (Zg (Zb s)) (Xe (Zb s))&&QN s (Zg (Zb s))))))
theorem Z98 (s:Z4)(hs:Xp s<=1050000):XT s=some (Z0v s):=by
 unfold Xp at hs
 have hk:(Zg (Zb s)).1.length<=1050000:=by unfold ZD UI at hs;omega
 unfold XT Z0v
 exact aB (Z1z _ (by omega)) (aC (aC (aC (Za (Z5W _ _ hk) (aC (Za (Z2g _ (by omega)) (aL (Z5N _ _ _ hk (by omega) (Z3o _ (by omega))))))))))
theorem Z7r (s:Z4)(hs:Xp s<=1050000):XN s=some (Z0v s):=by
 have hs':=hs
 unfold Xp at hs'
 have hk:(Zg (Zb s)).1.length<=1050000:=by unfold ZD UI at hs';omega
 unfold XN Z0v
 exact aB (Z3r _ (by omega)) (aC (aC (aC (Za (Z7O _ _ hk) (aC (aL (Z2N _ _ hs hk)))))))
theorem Z2W (a b:Zc)(hx:a.1.length<=1050000):WS a b=some (decide (a=b)):=by
 unfold WS
 refine(aC (aL (Z6i _ _ (by omega)))).trans ?_
 obtain⟨a1,a2⟩:=a
 obtain⟨b1,b2⟩:=b
 by_cases h1:a1=b1<;>by_cases h2:a2=b2<;>simp[h1,h2]
def Z0N (a b:Z5):Bool:=ZH a==ZH b&&ZY a==ZY b
theorem Z5Q (a b:Z5):XF a b=some (Z0N a b):=aC rfl
theorem Z5a (a b:Z5):XD a b=some (Z0N a b):=aC rfl
def Z2f (p h:Z5):Int:=bif Zr p then 4 else bif Zr h then 6 else 1
def Z3K (p h:Z5):Bool:=Wh (Zf p)||decide ((Zt h)<(IntKind.i64.wrap ((ZZ p)+(ZJ p))))
def Z1U (p h:Z5):Int:=bif Zr p then 4 else bif Z3K p h then 5 else bif Zr h||(!decide (Zg h=Zf p)|| !Z0N h p)then 6 else 1
def Z23 (p h:Z5):Int:=bif Wh (Zi p)then 5 else bif(Zr h==Zr p)|| !(Z0N h p&&(decide (Zi h=Zi p)&&(decide (Zf h=Zf p)&&(ZJ h==ZJ p))))then 6 else bif Zr h&& !decide (Zg h=Zg p)then 6 else 1
theorem Z9l (p h:Z5):XX p h=some (Z2f p h):=by
 unfold XX Z2f
 cases Zr p<;>cases Zr h<;>rfl
theorem Z0u (h:Z5)(hx:ZD h<=1050000):(Zg h).1.length<=1050000/\(Zf h).1.length<=1050000/\(Zi h).1.length<=1050000:=by
 unfold ZD UI at hx;omega
theorem Z95 (p h:Z5)(hh:ZD h<=1050000):Yn p h=some (Z1U p h):=by
 have hk:=(Z0u h hh).1
 unfold Yn Z1U Z3K
 simp only[Yn.b,Yn.l9,Yn.g9,Z2Z,Z2W _ _ hk,Z5Q,bind_s]
 generalize decide ((Zt h)<(IntKind.i64.wrap ((ZZ p)+(ZJ p))))=a
 generalize decide (Zg h=Zf p)=b
 cases Zr p<;>cases Wh (Zf p)<;>cases a<;>cases Zr h<;>cases b<;>cases Z0N h p<;>rfl
theorem Z9c (p h:Z5)(hh:ZD h<=1050000):Yo p h=some (Z23 p h):=by
 have hk:=Z0u h hh
 unfold Yo Z23
 simp only[Yo.b,Yo.l9,Yo.g9,Z2Z,Z2W _ _ hk.1,Z2W _ _ hk.2.1,Z2W _ _ hk.2.2,Z5Q,bind_s,bne]
 generalize (ZJ h==ZJ p)=w
 generalize (Zr h==Zr p)=q
 generalize decide (Zi h=Zi p)=a
 generalize decide (Zf h=Zf p)=b
 generalize decide (Zg h=Zg p)=d
 cases Wh (Zi p)<;>cases q<;>cases Z0N h p<;>cases a<;>cases b<;>cases w<;>cases Zr h<;>cases d<;>rfl
def Z0q (code:Int)(b:Bool):Int:=bif code==(1:Int)then(bif b then code else 7)else code
def Z13 (p h:Z5):Bool:=ZS h==ZS p&&(Yb h==IntKind.i64.wrap ((Yb p)+(1:Int))&&(Xe h==Z0t p&&decide (Zt h>=Zt p)))
theorem Z7T (p h:Z5)(hp:ZD p<=1050000):XP p h=some (Z13 p h):=by
 unfold XP Z13
 exact aC (aC (Za (Z7p p hp) (aC rfl)))
def Z2P (p:Z5)(s:Z4):Int:=
 bif Y4 (Zb s)==(2:Int)then Z0q (Z1U p (Zb s)) (QN s (Zf p))else bif Y4 (Zb s)==(3:Int)then Z0q (Z23 p (Zb s)) (QN s (Zi p))else Z0q (Z2f p (Zb s)) (QN s (Zg p))
def QL (p:Z5)(s:Z4):Int:=
 bif !(Xk p&&Xk (Zb s))then 2 else bif !Z13 p (Zb s)then 3 else Z2P p s
theorem Z6Y (c:Int)(b:Bool):(bif c==(1:Int)then(bif !b then some (7:Int)else some c)else some c)=some (Z0q c b):=by
 unfold Z0q
 cases(c==(1:Int))<;>cases b<;>rfl
theorem Z3T (s:Z4)(c:Int)(k:Zc)(hs:Xp s<=1050000)(hk:k.1.length<=1050000):Zn.l31 s c k.1 k.2=some (Z0q c (QN s k)):=by
 unfold Xp at hs
 unfold Zn.l31
 simp only[Zn.g31,Z2g _ (show ZD (Zb s)<=1050000 by omega),Z5N k _ _ hk (show(WM s).length<=1050000 by omega) (Z3o (Zb s) (by omega)),bind_s]
 exact Z6Y c _
theorem Z5P (p:Z5)(s:Z4)(hp:ZD p<=1050000)(hs:Xp s<=1050000):Zn p s=some (QL p s):=by
 have hs':=hs
 unfold Xp at hs'
 have hk:=Z0u p hp
 unfold Zn QL Z13
 simp only[Zn.b,Zn.l9,Zn.g9,Zn.l13,Zn.g13,Z1z p hp,Z1z (Zb s) (show _<=1050000 by omega),Z3R p hp,Z9l,Z95 p (Zb s) (by omega),Z9c p (Zb s) (by omega),Z3T s _ _ hs hk.1,Z3T s _ _ hs hk.2.1,Z3T s _ _ hs hk.2.2,bind_s,Z0W,bne]
 show some _=some _
 unfold Z2P
 congr 1
 generalize (ZS (Zb s)==ZS p)=a
 generalize (Yb (Zb s)==IntKind.i64.wrap ((Yb p)+(1:Int)))=b
 generalize (Xe (Zb s)==Z0t p)=c
 have e:decide ((Zt (Zb s))<(Zt p))= !decide (Zt (Zb s)>=Zt p):=by
  by_cases h:Zt (Zb s)<Zt p
  ·rw[decide_eq_true h,decide_eq_false (by omega)];rfl
  ·rw[decide_eq_false h,decide_eq_true (by omega)];rfl
 rw[e]
 generalize decide (Zt (Zb s)>=Zt p)=d
 cases Xk p<;>cases Xk (Zb s)<;>cases a<;>cases b<;>cases c<;>cases d<;>rfl
theorem Z7C (p:Z5)(s:Z4)(hp:ZD p<=1050000)(hs:Xp s<=1050000):XR p s=some (Z0q (Z2f p (Zb s)) (QN s (Zg p))):=by
 have hk:=Z0u p hp
 unfold XR Z2f
 rw[Z2N s _ hs hk.1,bind_s]
 cases Zr p<;>cases Zr (Zb s)<;>cases QN s (Zg p)<;>rfl
theorem Z7q (p:Z5)(s:Z4)(hp:ZD p<=1050000)(hs:Xp s<=1050000):Zz p s=some (Z0q (Z1U p (Zb s)) (QN s (Zf p))):=by
 have hk:=Z0u p hp
 have hs':=hs
 unfold Xp at hs'
 have hq:=Z0u (Zb s) (by omega)
 unfold Zz Z1U Z3K
 simp only[Zz.b,Zz.l11,Zz.g11,Zz.l15,Zz.g15,Z2K,Z0T _ _ hq.1,Z5a,Z2N s _ hs hk.2.1,bind_s]
 generalize decide ((Zt (Zb s))<(IntKind.i64.wrap ((ZZ p)+(ZJ p))))=a
 generalize decide (Zg (Zb s)=Zf p)=b
 generalize QN s (Zf p)=c
 cases Zr p<;>cases Wh (Zf p)<;>cases a<;>cases Zr (Zb s)<;>cases b<;>cases Z0N (Zb s) p<;>cases c<;>rfl
theorem Z7w (p:Z5)(s:Z4)(hp:ZD p<=1050000)(hs:Xp s<=1050000):ZA p s=some (Z0q (Z23 p (Zb s)) (QN s (Zi p))):=by
 have hk:=Z0u p hp
 have hs':=hs
 unfold Xp at hs'
 have hq:=Z0u (Zb s) (by omega)
 unfold ZA Z23
 simp only[ZA.b,ZA.l7,ZA.g7,ZA.l13,ZA.g13,Z2K,Z0T _ _ hq.1,Z0T _ _ hq.2.1,Z0T _ _ hq.2.2,Z5a,Z2N s _ hs hk.2.2,bind_s]
 generalize (ZJ (Zb s)==ZJ p)=w
 generalize (Zr (Zb s)==Zr p)=q
 generalize decide (Zi (Zb s)=Zi p)=a
 generalize decide (Zf (Zb s)=Zf p)=b
 generalize decide (Zg (Zb s)=Zg p)=d
 generalize QN s (Zi p)=c
 cases Wh (Zi p)<;>cases q<;>cases Z0N (Zb s) p<;>cases a<;>cases b<;>cases w<;>cases Zr (Zb s)<;>cases d<;>cases c<;>rfl
theorem Z7S (x:Z5)(h:Xk x=true):Y4 x=1∨Y4 x=2∨Y4 x=3:=by
 unfold Xk hr4 at h
 simp only[Bool.and_eq_true]at h
 have h1:=h.1.2.2.2.2
 unfold W7 at h1
 simp only[Bool.and_eq_true,decide_eq_true_eq]at h1
 omega
theorem Z7B (p:Z5)(s:Z4)(hp:ZD p<=1050000)(hs:Xp s<=1050000):Yj p s=some (QL p s):=by
 have hs':=hs
 unfold Xp at hs'
 unfold Yj QL
 simp only[Yj.b,Yj.l5,Yj.g5,Z3r p hp,Z3r (Zb s) (show _<=1050000 by omega),Z7T p _ hp,Z7C p s hp hs,Z7q p s hp hs,Z7w p s hp hs,bind_s]
 cases h1:Xk p with
 |false=>rfl
 |true=>
  cases h2:Xk (Zb s)with
  |false=>rfl
  |true=>
   cases Z13 p (Zb s)with
   |false=>rfl
   |true=>
    show _=some (Z2P p s)
    unfold Z2P
    rcases Z7S _ h2 with h|h|h<;>rw[h]<;>rfl
def Z0w (p:Z5)(s:Z4):Bool:=QL p s==(1:Int)
theorem Z9g (p:Z5)(s:Z4)(hp:ZD p<=1050000)(hs:Xp s<=1050000):XU p s=some (Z0w p s):=Za (Z5P p s hp hs) rfl
theorem Z7A (p:Z5)(s:Z4)(hp:ZD p<=1050000)(hs:Xp s<=1050000):XO p s=some (Z0w p s):=Za (Z7B p s hp hs) rfl
def fw :Option Z5->List Z4->Int->Int
 |_,[],_=> -1
 |none,s::t,k=>bif !Z0v s then k else fw (some (Zb s)) t (k+1)
 |some p,s::t,k=>bif !Z0w p s then k else fw (some (Zb s)) t (k+1)
def Z1a (xs:List Z4):Nat->Option Z5
 |0=>none
 |j+1=>some (Zb (xs.getD j Xx))
theorem Z4R (o:Option Z5)(xs:List Z4)(k:Int):fw o (xs.drop xs.length) k= -1:=by
 rw[List.drop_length]
 cases o<;>rfl
theorem Z4T {xs:List Z4}(h:0<xs.length):fw none (xs.drop 0) 0=bif !Z0v xs[0]then 0 else fw (Z1a xs 1) (xs.drop 1) 1:=by
 rw[List.drop_eq_getElem_cons h]
 show _=bif !Z0v xs[0]then 0 else fw (some (Zb (xs.getD 0 Xx))) (xs.drop 1) 1
 rw[at_n h];rfl
theorem Z4S {xs:List Z4}{j:Nat}(h:j+1<xs.length):fw (Z1a xs (j+1)) (xs.drop (j+1)) ((j+1:Nat):Int)=bif !Z0w (Zb xs[j]) xs[j+1]then((j+1:Nat):Int)else fw (Z1a xs (j+2)) (xs.drop (j+2)) ((j+2:Nat):Int):=by
 rw[List.drop_eq_getElem_cons h]
 show fw (some (Zb (xs.getD j Xx))) _ _=bif !Z0w (Zb xs[j]) xs[j+1]then((j+1:Nat):Int)else fw (some (Zb (xs.getD (j+1) Xx))) (xs.drop (j+2)) ((j+2:Nat):Int)
 rw[at_n h,at_n (show j<xs.length by omega)];rfl
theorem Z3n {xs:List Z4}{i:Nat}(h:i<xs.length){n:Nat}(hx:X6 xs<=n):ZD (Zb xs[i])<=n:=by
 have:=Z1c h hx
 unfold Xp at this
 omega
theorem Z92 (x0:List Z4)(hx:X6 x0<=1050000):∀i n,i<=x0.length->x0.length-i<n->Yq.l4 x0 n (i:Int)=some (fw (Z1a x0 i) (x0.drop i) (i:Int)):=by
 have hl:x0.length<=1050000:=by unfold X6 ZX at hx;omega
 refine idx_ind ?_ ?_
 ·intro n
  rw[Yq.u4]
  simp only[Yq.g4,lt_f (Nat.le_refl _),cond_f,Z4R]
 ·intro i n hi ih
  rw[Yq.u4]
  match i,hi,ih with
  |0,hi,ih=>
   have e:=Z4T hi
   have hg:x0.getD ((0:Int).toNat) Xx=x0[0]:=at_n hi _
   simp only[Yq.g4,lt_t hi,cond_t,Int.natCast_zero,beq_self_eq_true,decide_eq_true (Int.le_refl 0),hg,Z98 _ (Z1c hi hx),bind_s]
   rw[decide_eq_true (show(0:Int)<(x0.length:Int) by omega),cond_t,cond_t,wd (n:=(0:Int)+1) (by omega),decide_eq_false (by omega),cond_f,show(0:Int)+1=((0+1:Nat):Int)from rfl,ih]
   rw[show Z1a x0 0=none from rfl,e,Z0W];rfl
  |j+1,hi,ih=>
   have e:=Z4S hi
   have hj:j<x0.length:=by omega
   have ew:IntKind.i64.wrap (((j+1:Nat):Int)-1)=(j:Int):=by rw[wd (by omega)];omega
   simp only[Yq.g4,lt_t hi,cond_t,ew,ge_t,lt_t hj,Int.toNat_natCast,at_n hi,at_n hj,Z9g _ _ (Z3n hj hx) (Z1c hi hx),bind_s]
   rw[show(((j+1:Nat):Int)==(0:Int))=false by rw[beq_eq_false_iff_ne];omega,cond_f,decide_eq_true (by omega),cond_t,w64_succ (by omega),ih,e,Z0W]
theorem Z7m (x0:List Z4)(hx:X6 x0<=1050000):∀i n,i<=x0.length->x0.length-i<n->Yp.l4 x0 n (x0.length:Int) (i:Int)=some (fw (Z1a x0 i) (x0.drop i) (i:Int)):=by
 have hl:x0.length<=1050000:=by unfold X6 ZX at hx;omega
 refine idx_ind ?_ ?_
 ·intro n
  rw[Yp.u4]
  simp only[Yp.g4,lt_f (Nat.le_refl _),cond_f,Z4R]
 ·intro i n hi ih
  rw[Yp.u4]
  match i,hi,ih with
  |0,hi,ih=>
   have e:=Z4T hi
   have hg:x0.getD ((0:Int).toNat) Xx=x0[0]:=at_n hi _
   simp only[Yp.g4,lt_t hi,cond_t,Int.natCast_zero,beq_self_eq_true,decide_eq_true (Int.le_refl 0),hg,Z7r _ (Z1c hi hx),bind_s]
   rw[decide_eq_true (show(0:Int)<(x0.length:Int) by omega),cond_t,cond_t,wd (n:=(0:Int)+1) (by omega),decide_eq_false (by omega),cond_f,show(0:Int)+1=((0+1:Nat):Int)from rfl,ih]
   rw[show Z1a x0 0=none from rfl,e,Z0W];rfl
  |j+1,hi,ih=>
   have e:=Z4S hi
   have hj:j<x0.length:=by omega
   have ew:IntKind.i64.wrap (((j+1:Nat):Int)-1)=(j:Int):=by rw[wd (by omega)];omega
   simp only[Yp.g4,lt_t hi,cond_t,ew,ge_t,lt_t hj,Int.toNat_natCast,at_n hi,at_n hj,Z7A _ _ (Z3n hj hx) (Z1c hi hx),bind_s]
   rw[show(((j+1:Nat):Int)==(0:Int))=false by rw[beq_eq_false_iff_ne];omega,cond_f,decide_eq_true (by omega),cond_t,w64_succ (by omega),ih,e,Z0W]
def W5 (xs:List Z4):Bool:=W7 (xs.length:Int) 1 12&&decide (fw none xs 0<0)
theorem Z93 (x0:List Z4)(hx:X6 x0<=1050000):Yq x0=some (fw none x0 0):=
 Z92 x0 hx 0 KK (Nat.zero_le _) (KK_gt (by unfold X6 ZX at hx;omega))
theorem Z7n (x0:List Z4)(hx:X6 x0<=1050000):Yp x0=some (fw none x0 0):=
 Z7m x0 hx 0 KK (Nat.zero_le _) (KK_gt (by unfold X6 ZX at hx;omega))
theorem Z96 (x0:List Z4)(hx:X6 x0<=1050000):Qb x0=some (W5 x0):=by
 unfold Qb W5
 exact aB (Z26 _ _ _) (Za (Z93 x0 hx) rfl)
theorem Z53 (x0:List Z4)(hx:X6 x0<=1050000):Uc x0=some (W5 x0):=by
 unfold Uc W5
 exact aB (Z36 _ _ _) (Za (Z7n x0 hx) rfl)
theorem Z21 (xs:List Z4)(h:W5 xs=true):1<=xs.length/\xs.length<=12:=by
 unfold W5 W7 at h
 simp only[Bool.and_eq_true,decide_eq_true_eq]at h
 omega
theorem Z7Y (xs:List Z4)(i:Nat)(n:Nat)(hx:X6 xs<=n):ZD (Zb (xs.getD i Xx))<=n:=by
 by_cases h:i<xs.length
 ·rw[at_n h];exact Z3n h hx
 ·have e:xs.getD i Xx=Xx:=by simp[List.getD,show xs.length<=i by omega]
  rw[e];exact Nat.zero_le _
theorem Z5q (x:List ByteArray)(hx:x.length<=1050000):Um x=some x:=by
 unfold Um
 rw[decide_eq_true (by simp;omega),cond_t];rfl
theorem Z6d (x:List ByteArray)(hx:x.length<=1050000):Q5 x=some x:=by
 have e:(bif decide (([]:List ByteArray).length+x.length<68719476736)then some ([]++x)else none)=some x:=by
  rw[decide_eq_true (by simp;omega),cond_t];rfl
 unfold Q5
 rw[e]
 cases x with
 |nil=>exact both_eq _
 |cons a t=>rfl
theorem Z4D (e:Z0)(hx:ZL e<=1050000):e.2.2.2.length<=1050000:=by
 unfold ZL XE ZX at hx;omega
theorem Z15 (e:Z0)(hx:ZL e<=1050000):W8 e=some e:=by
 unfold W8
 exact Za (Z5q _ (Z4D e hx)) rfl
theorem Z2t (e:Z0)(hx:ZL e<=1050000):Wn e=some e:=by
 unfold Wn
 exact Za (Z6d _ (Z4D e hx)) rfl
theorem Z4a (c:Bool)(h:Z5):QK (bif c then UN h true else Qz)=c/\(c=true->Z6 (bif c then UN h true else Qz)=h):=by
 cases c
 ·exact⟨rfl,λh=>Bool.noConfusion h⟩
 ·exact⟨rfl,λ_=>rfl⟩
theorem Z8D (x0:Z5)(x1 x2 x3:Int):QK (Z1w x0 x1 x2 x3)=(Z00 x0 x2 x3&&Xk (Wo x0 x1 x2 x3)):=by
 unfold Z1w Z1f
 cases Z00 x0 x2 x3<;>cases Xk (Wo x0 x1 x2 x3)<;>rfl
theorem Z8C (x0:Z5)(x1 x2 x3:Int)(h:(Z00 x0 x2 x3&&Xk (Wo x0 x1 x2 x3))=true):Z6 (Z1w x0 x1 x2 x3)=Wo x0 x1 x2 x3:=by
 rw[Bool.and_eq_true]at h
 unfold Z1w Z1f
 rw[h.1,h.2,cond_t,cond_t]
 exact(Z38 _ _).1
theorem Z8B (x0:Z5)(x1 x2 x3:Int):ZD (Wo x0 x1 x2 x3)=ZD x0:=by unfold Wo nhD;rfl
theorem Z2M {α:Type}(xs:List α)(d:α)(f:α->Option Bool)(p:α->Bool)(hl:xs.length<=1050000)(hf:∀i (h:i<xs.length),f xs[i]=some (p xs[i]))(l:Nat->Int->Int->Option Int)(u:∀n L a,l (n+1) L a=(bif decide (a<L)then bif decide (0<=a)then bif decide (a<(xs.length:Int))then(f (xs.getD a.toNat d)).bind λy1=>bif y1 then some a else l n L (IntKind.i64.wrap (a+(1:Int)))else none else none else some (-1:Int))):l KK (xs.length:Int) (0:Int)=some (Wl p xs 0):=by
 have hh:∀i n,i<=xs.length->xs.length-i<n->l n (xs.length:Int) (i:Int)=some (Wl p (xs.drop i) (i:Int)):=by
  refine idx_ind ?_ ?_
  ·intro n
   rw[u]
   simp only[lt_f (Nat.le_refl _),cond_f,Z2B]
  ·intro i n hi ih
   rw[u]
   simp only[lt_t hi,ge_t,cond_t,Int.toNat_natCast,at_n hi,hf i hi,bind_s,w64_succ (i:=i) (by omega),ih,Z2C p hi]
   cases p xs[i]<;>rfl
 have:=hh 0 KK (Nat.zero_le _) (KK_gt (by omega))
 rw[List.drop_zero]at this
 exact this
theorem Z4s {α:Type}(xs:List α)(p:α->Bool){e:Option Int}(h:e=some (Wl p xs 0)):(e.bind λy1=>some (decide (y1>=(0:Int))))=some (xs.any p):=by
 rw[h,bind_s,Z4M _ _ _ (Int.le_refl 0)]
theorem Z2u {α:Type}(xs:List α)(d:α)(f:α->Option α)(hl:xs.length<=1050000)(hf:∀i (h:i<xs.length),f xs[i]=some xs[i])(l:Nat->List α->Int->Option (List α))(u:∀n ys a,l (n+1) ys a=(bif decide (a<(xs.length:Int))then bif decide (0<=a)then bif decide (a<(xs.length:Int))then(f (xs.getD a.toNat d)).bind λy1=>bif decide (ys.length+[y1].length<68719476736)then l n (ys++[y1]) (IntKind.i64.wrap (a+(1:Int)))else none else none else none else some ys)):l KK [] (0:Int)=some xs:=by
 have hh:∀i n,i<=xs.length->xs.length-i<n->l n (xs.take i) (i:Int)=some xs:=by
  refine idx_ind ?_ ?_
  ·intro n
   rw[u]
   simp only[lt_f (Nat.le_refl _),cond_f,List.take_length]
  ·intro i n hi ih
   rw[u]
   have hg:(xs.take i).length+[xs[i]].length<68719476736:=by rw[List.length_take];show _+1<_;omega
   simp only[lt_t hi,ge_t,cond_t,Int.toNat_natCast,at_n hi,hf i hi,bind_s,w64_succ (i:=i) (by omega),List.take_append_getElem hi]
   rw[decide_eq_true hg,cond_t]
   exact ih
 have:=hh 0 KK (Nat.zero_le _) (KK_gt (by omega))
 rw[List.take_zero]at this
 exact this
def Ux (xs:List Z4):Z4:=xs.getD (IntKind.i64.wrap ((xs.length:Int)-(1:Int))).toNat Xx
def Z08 (xs:List Z4):Yi:=bif W5 xs then UN (Zb (Ux xs)) true else Qz
theorem wl {n:Nat}(h:1<=n/\n<=12):IntKind.i64.wrap ((n:Int)-(1:Int))=(n:Int)-1:=wd (by omega)
theorem Z2b (xs:List Z4)(hx:X6 xs<=1050000):ZD (Zb (Ux xs))<=1050000:=Z7Y xs _ _ hx
theorem Z1C (xs:List Z4)(hx:X6 xs<=1050000):W6 xs=some (Z08 xs):=by
 unfold W6 Z08
 refine Za (Z96 xs hx) ?_
 cases hc:W5 xs with
 |false=>rfl
 |true=>
  have hl:=Z21 xs hc
  exact cF rfl (cT (decide_eq_true (by rw[wl hl];omega)) (cT (decide_eq_true (by rw[wl hl];omega)) (Za (Z25 _ (Z2b xs hx)) rfl)))
theorem Z3J (xs:List Z4)(hc:W5 xs=true):WJ xs=some (Zb (Ux xs)):=by
 have hl:=Z21 xs hc
 unfold WJ
 exact cT (decide_eq_true (by rw[wl hl];omega)) (cT (decide_eq_true (by rw[wl hl];omega)) rfl)
theorem Z7y (xs:List Z4)(hx:X6 xs<=1050000):UX xs=some (Z08 xs):=by
 unfold UX Z08
 refine Za (Z53 xs hx) ?_
 cases hc:W5 xs with
 |false=>rfl
 |true=>exact Za (Z3J xs hc) (Za (Z4w _ (Z2b xs hx)) rfl)
theorem Z1u (xs:List Z4)(hx:X6 xs<=1050000):Y8 xs=some xs:=
 Z2u xs Xx Xz (by unfold X6 ZX at hx;omega) (λi h=>Z5j _ (Z1c h hx)) (λn ys a=>Y8.l6 xs n a ys) (λn ys a=>Y8.u6 xs n a ys)
theorem Z4v (xs:List Z4)(hx:X6 xs<=1050000):Yy xs=some xs:=
 Z2u xs Xx XI (by unfold X6 ZX at hx;omega) (λi h=>Z6N _ (Z1c h hx)) (λn ys a=>Yy.l6 xs n (xs.length:Int) a ys) (λn ys a=>Yy.u6 xs n (xs.length:Int) a ys)
def Z1T (xs:List Z4)(s:Z4)(v:Bool):List Z4×Int:=bif v then(xs,2)else bif QL (Zb (Ux xs)) s !=(1:Int)then(xs,QL (Zb (Ux xs)) s)else(xs++[s],1)
def ext (xs:List Z4)(s:Z4):List Z4×Int:=Z1T xs s (!W5 xs||decide ((xs.length:Int)>=(12:Int)))
theorem Z0K (xs:List Z4):QK (Z08 xs)=W5 xs/\(W5 xs=true->Z6 (Z08 xs)=Zb (Ux xs)):=Z4a (W5 xs) (Zb (Ux xs))
theorem Z6v (xs:List Z4)(s:Z4)(hx:X6 xs<=1050000):decide (xs.length+[s].length<68719476736)=true:=by
 refine decide_eq_true ?_
 show xs.length+1<_
 unfold X6 ZX at hx
 omega
theorem Z91 (xs:List Z4)(s:Z4)(hx:X6 xs<=1050000)(hs:Xp s<=1050000)(hc:W5 xs=true)(v:Bool):Ym.l7 xs s (Z08 xs) v=some (Z1T xs s v):=by
 unfold Z1T
 cases v with
 |true=>exact Za (Z1u xs hx) rfl
 |false=>
  show((Zn (Z6 (Z08 xs)) s).bind _)=_
  rw[(Z0K xs).2 hc]
  refine Za (Z5P _ s (Z2b xs hx) hs) ?_
  cases QL (Zb (Ux xs)) s !=(1:Int)with
  |true=>exact Za (Z1u xs hx) rfl
  |false=>exact Za (Z1u xs hx) (Za (Z5j s hs) (cT (Z6v xs s hx) rfl))
theorem Z5J (xs:List Z4)(s:Z4)(hx:X6 xs<=1050000)(hs:Xp s<=1050000):Ym xs s=some (ext xs s):=by
 unfold ext
 refine Za (Z1C xs hx) ?_
 rw[(Z0K xs).1]
 cases hc:W5 xs with
 |false=>exact Za (Z1u xs hx) rfl
 |true=>exact Z91 xs s hx hs hc _
def hq (s t:Z4):Bool:=Z1n (Zb s) (Zb t)
theorem Z3f :∀a b:List UInt8,Lib.compareBytes a b=bif Op.bytesLess a b then(-1:Int)else bif a==b then 0 else 1
 |[],[]=>rfl
 |[],_::_=>rfl
 |_::_,[]=>rfl
 |a::x,b::y=>by
  have ih:=Z3f x y
  unfold Lib.compareBytes Op.bytesLess
  by_cases h:a<b
  ·rw[if_pos h,decide_eq_true h,Bool.true_or];rfl
  ·rw[if_neg h,decide_eq_false h,Bool.false_or]
   by_cases g:b<a
   ·rw[if_pos g]
    have ne:(a==b)=false:=by rw[beq_eq_false_iff_ne];rintro rfl;exact h g
    have ne2:(a::x==b::y)=false:=by rw[List.cons_beq_cons,ne,Bool.false_and]
    rw[ne,ne2,Bool.false_and];rfl
   ·have e:a=b:=UInt8.le_antisymm (UInt8.not_lt.1 g) (UInt8.not_lt.1 h)
    subst e
    rw[if_neg g,ih,beq_self_eq_true,Bool.true_and,List.cons_beq_cons,beq_self_eq_true,Bool.true_and]
theorem Z4q :∀a b:List UInt8,Lib.compareBytes b a= -Lib.compareBytes a b
 |[],[]=>rfl
 |[],_::_=>rfl
 |_::_,[]=>rfl
 |a::x,b::y=>by
  have ih:=Z4q x y
  unfold Lib.compareBytes
  by_cases h:a<b
  ·have g:¬b<a:=λg=>UInt8.lt_irrefl _ (UInt8.lt_trans h g)
   rw[if_pos h,if_neg g,if_pos h];rfl
  ·by_cases g:b<a
   ·rw[if_pos g,if_neg h,if_pos g]
   ·rw[if_neg h,if_neg g,if_neg g,if_neg h,ih]
theorem Z6K (a b:List UInt8):Lib.compareBytes a b= -1∨Lib.compareBytes a b=0∨Lib.compareBytes a b=1:=by
 rw[Z3f]
 cases Op.bytesLess a b<;>cases a==b<;>simp
def W0 (a b:ByteArray):Int:=Lib.compareBytes a.data.toList b.data.toList
theorem Z6H (a b:ByteArray):W0 b a= -W0 a b:=Z4q _ _
theorem Z3e (a b:ByteArray):W0 a b= -1∨W0 a b=0∨W0 a b=1:=Z6K _ _
theorem Z6I (a b:ByteArray):decide (W0 b a<=0)=(W0 a b != -1):=by
 rw[Z6H a b]
 rcases Z3e a b with h|h|h<;>rw[h]<;>rfl
def Z0c (p:Nat->Bool)(n:Nat):Bool:=decide (∀i,i<n->p i=true)
theorem Z1l (p:Nat->Bool)(n:Nat):Z0c p n=true↔∀i,i<n->p i=true:=by unfold Z0c;exact decide_eq_true_iff
theorem Z1k {len:Nat}(hl:len<=1152921504606846976)(p:Nat->Bool)(z:Bool)(l:Nat->Int->Option Bool)(u0:∀n,l (n+1) (len:Int)=some z)(u:∀n i,i<len->l (n+1) (i:Int)=bif p i then l n ((i+1:Nat):Int)else some false):l KK (0:Int)=some (Z0c p len&&z):=by
 have hh:∀i n,i<=len->len-i<n->l n (i:Int)=some (decide (∀j,j<len->i<=j->p j=true)&&z):=by
  refine idx_ind ?_ ?_
  ·intro n
   have e:decide (∀j,j<len->len<=j->p j=true)=true:=decide_eq_true (λj h1 h2=>absurd h1 (by omega))
   rw[u0,e,Bool.true_and]
  ·intro i n hi ih
   rw[u n i hi,ih]
   cases hp:p i with
   |false=>
    have e:decide (∀j,j<len->i<=j->p j=true)=false:=decide_eq_false (λh=>by have:=h i hi (Nat.le_refl _);rw[hp]at this;cases this)
    rw[cond_f,e,Bool.false_and]
   |true=>
    rw[cond_t]
    have e:decide (∀j,j<len->i<=j->p j=true)=decide (∀j,j<len->i+1<=j->p j=true):=by
     refine decide_eq_decide.2 ⟨λh j h1 h2=>h j h1 (by omega),λh j h1 h2=> ?_⟩
     by_cases e:j=i
     ·subst e;exact hp
     ·exact h j h1 (by omega)
    rw[e]
 have:=hh 0 KK (Nat.zero_le _) (KK_gt (by omega))
 have e:decide (∀j,j<len->0<=j->p j=true)=Z0c p len:=decide_eq_decide.2 ⟨λh j h1=>h j h1 (Nat.zero_le _),λh j h1 _=>h j h1⟩
 rw[e]at this
 exact this
def lcS (c:Int):Bool:=(!(decide (c<97)||decide (c>122)))||(!(decide (c<48)||decide (c>57)))
def Wg (s:ByteArray)(i:Nat):Int:=V.bt s (i:Int)
theorem Z99 (s:ByteArray)(hs:s.size<=1050000):Zv.l7 s=some (Z0c (λi=>lcS (Wg s i)|| !(Wg s i !=(45:Int))) s.size&&true):=by
 refine Z1k (by omega) _ _ (Zv.l8 s) (λn=> ?_) (λn i hi=> ?_)
 ·rw[Zv.u8]
  simp only[Zv.g8,lt_f (Nat.le_refl _),cond_f]
 ·rw[Zv.u8]
  simp only[Zv.g8,lt_t hi,ge_t,cond_t,w64_succ (i:=i) (by omega)]
  rw[show V.bt s (i:Int)=Wg s i from rfl]
  generalize Wg s i=c
  unfold lcS
  cases decide (c<97)<;>cases decide (c>122)<;>cases decide (c<48)<;>cases decide (c>57)<;>cases(c !=(45:Int))<;>rfl
theorem Z7s (s:ByteArray)(hs:s.size<=1050000):ZM.l4 s KK (s.size:Int) (0:Int)=some (Z0c (λi=>lcS (Wg s i)||((Wg s i==(45:Int))&&(decide ((i:Int)>0)&&decide ((i:Int)<IntKind.i64.wrap ((s.size:Int)-(1:Int)))))) s.size&&(decide ((1:Int)<=(s.size:Int))&&decide ((s.size:Int)<=8))):=by
 refine Z1k (by omega) _ _ (λn v=>ZM.l4 s n (s.size:Int) v) (λn=> ?_) (λn i hi=> ?_)
 ·rw[ZM.u4]
  simp only[ZM.g4,lt_f (Nat.le_refl _),cond_f]
  exact Za (QP _ _ _) rfl
 ·rw[ZM.u4]
  simp only[ZM.g4,lt_t hi,ge_t,cond_t,w64_succ (i:=i) (by omega)]
  rw[show V.bt s (i:Int)=Wg s i from rfl]
  generalize Wg s i=c
  unfold lcS
  rw[show decide (c>=97)= !decide (c<97) by by_cases h:c<97<;>simp[h]<;>omega,show decide (c<=122)= !decide (c>122) by by_cases h:c>122<;>simp[h]<;>omega,show decide (c>=48)= !decide (c<48) by by_cases h:c<48<;>simp[h]<;>omega,show decide (c<=57)= !decide (c>57) by by_cases h:c>57<;>simp[h]<;>omega]
  generalize decide ((i:Int)<IntKind.i64.wrap ((s.size:Int)-(1:Int)))=g
  cases decide (c<97)<;>cases decide (c>122)<;>cases decide (c<48)<;>cases decide (c>57)<;>cases(c==(45:Int))<;>cases decide ((i:Int)>0)<;>cases g<;>rfl
def XS (s:ByteArray):Bool:=(decide (1<=s.size)&&decide (s.size<=8))&&(Z0c (λi=>lcS (Wg s i)||((Wg s i==(45:Int))&&(decide (0<i)&&decide (i+1<s.size)))) s.size)
theorem Z5e (s:ByteArray)(h:XS s=true):1<=s.size/\s.size<=8:=by
 unfold XS at h
 simp only[Bool.and_eq_true,decide_eq_true_eq]at h
 exact h.1
theorem Z20 (s:ByteArray)(hs:s.size<=1050000):ZM s=some (XS s):=by
 refine(Z7s s hs).trans (congrArg some (Z1N ?_))
 unfold XS
 simp only[Bool.and_eq_true,decide_eq_true_eq,Z1l,Bool.or_eq_true]
 constructor
 ·intro h
  have hw:IntKind.i64.wrap ((s.size:Int)-(1:Int))=(s.size:Int)-1:=wd (by omega)
  refine⟨by omega,λi hi=>(h.1 i hi).imp_right λg=>⟨g.1,by omega,?_⟩⟩
  have:=g.2.2;rw[hw]at this;omega
 ·intro h
  have hw:IntKind.i64.wrap ((s.size:Int)-(1:Int))=(s.size:Int)-1:=wd (by omega)
  refine⟨λi hi=>(h.2 i hi).imp_right λg=>⟨g.1,by omega,?_⟩,by omega⟩
  rw[hw];omega
theorem Z5v :lcS 45=false:=by decide
theorem Z2X (s:ByteArray)(hs:s.size<=1050000):Zv s=some (XS s):=by
 unfold Zv
 rw[Z99 s hs]
 refine Za (QX _ _ _) ?_
 by_cases hl:1<=s.size/\s.size<=8
 ·have hw:IntKind.i64.wrap ((s.size:Int)-(1:Int))=((s.size-1:Nat):Int):=by rw[wd (by omega)];omega
  refine cF (by rw[decide_eq_true (by omega),decide_eq_true (by omega)];rfl) (cT rfl (cT (decide_eq_true (by omega)) ?_))
  rw[hw]
  rw[show V.bt s (0:Int)=Wg s 0 from rfl,show V.bt s ((s.size-1:Nat):Int)=Wg s (s.size-1)from rfl]
  have key:(bif Wg s 0==(45:Int)then false else bif Wg s (s.size-1)==(45:Int)then false else(Z0c (λi=>lcS (Wg s i)|| !(Wg s i !=(45:Int))) s.size&&true))=XS s:=by
   unfold XS
   rw[decide_eq_true hl.1,decide_eq_true hl.2,Bool.and_self,Bool.true_and,Bool.and_true]
   refine Z1N ?_
   rw[Z1l]
   constructor
   ·intro h i hi
    cases h0:(Wg s 0==(45:Int))with
    |true=>rw[h0]at h;cases h
    |false=>
     rw[h0,cond_f]at h
     cases h1:(Wg s (s.size-1)==(45:Int))with
     |true=>rw[h1]at h;cases h
     |false=>
      rw[h1,cond_f,Z1l]at h
      have:=h i hi
      simp only[Bool.or_eq_true,Bool.and_eq_true,decide_eq_true_eq,Bool.not_eq_true',bne_eq_false_iff_eq]at this⊢
      refine this.imp_right λg=>⟨by rw[g];rfl,?_,?_⟩
      ·refine Nat.pos_of_ne_zero λe=> ?_
       subst e
       rw[g]at h0;cases h0
      ·refine Nat.lt_of_not_le λe=> ?_
       have e2:i=s.size-1:=by omega
       subst e2
       rw[g]at h1;cases h1
   ·intro h
    have h0:(Wg s 0==(45:Int))=false:=by
     cases hc:(Wg s 0==(45:Int))with
     |false=>rfl
     |true=>
      have e:Wg s 0=45:=eq_of_beq hc
      have:=h 0 (by omega)
      rw[e,Z5v]at this
      simp at this
    have h1:(Wg s (s.size-1)==(45:Int))=false:=by
     cases hc:(Wg s (s.size-1)==(45:Int))with
     |false=>rfl
     |true=>
      have e:Wg s (s.size-1)=45:=eq_of_beq hc
      have:=h (s.size-1) (by omega)
      rw[e,Z5v]at this
      simp only[Bool.false_or,Bool.and_eq_true,decide_eq_true_eq]at this
      omega
    rw[h0,h1,cond_f,cond_f,Z1l]
    intro i hi
    have:=h i hi
    simp only[Bool.or_eq_true,Bool.and_eq_true]at this
    rw[Bool.or_eq_true]
    refine this.imp_right λg=> ?_
    have e:Wg s i=45:=eq_of_beq g.1
    rw[e];rfl
  rw[←key]
  cases(Wg s 0==(45:Int))with
  |true=>rfl
  |false=>
   refine cF rfl (cT ge_t (cT (lt_t (by omega)) ?_))
   cases(Wg s (s.size-1)==(45:Int))<;>rfl
 ·have e:XS s=false:=by
   unfold XS
   have:(decide (1<=s.size)&&decide (s.size<=8))=false:=by
    rw[←Bool.decide_and]
    exact decide_eq_false hl
   rw[this,Bool.false_and]
  rw[e]
  refine cT ?_ rfl
  by_cases h1:1<=s.size
  ·rw[decide_eq_true (show(1:Int)<=(s.size:Int) by omega),decide_eq_false (show¬(s.size:Int)<=8 by omega)];rfl
  ·rw[decide_eq_false (show¬(1:Int)<=(s.size:Int) by omega)];rfl
theorem Z2w (e:Z0){n:Nat}(hx:ZL e<=n):e.1.size<=n:=by
 unfold ZL Wi at hx;omega
theorem Z3i (e:Z0){n:Nat}(hx:ZL e<=n):XE e.2.2.2<=n:=by
 unfold ZL at hx;omega
theorem Z3Z {xs:List ByteArray}{i:Nat}(h:i<xs.length){n:Nat}(hx:XE xs<=n):xs[i].size<=n:=by
 have:=Z0Q Wi h
 unfold XE ZX at hx
 unfold Wi at this hx
 omega
theorem Z4e {α:Type}(xs:List α)(p:α->Bool):(!(xs.any λx=> !p x))=xs.all p:=by
 induction xs with
 |nil=>rfl
 |cons x t ih=>rw[List.any_cons,List.all_cons,Bool.not_or,ih,Bool.not_not]
def Z14 (p:List ByteArray):Bool:=(decide ((1:Int)<=(p.length:Int))&&decide ((p.length:Int)<=4))&&p.all XS
theorem Z4d {α:Type}(xs:List α)(p:α->Bool)(q:Nat->Bool)(h:∀i (hi:i<xs.length),q i=p xs[i]):Z0c q xs.length=xs.all p:=by
 refine Z1N ?_
 rw[Z1l,List.all_eq_true]
 constructor
 ·intro g x hx
  obtain⟨i,hi,rfl⟩:=List.getElem_of_mem hx
  rw[←h i hi]
  exact g i hi
 ·intro g i hi
  rw[h i hi]
  exact g _ (List.getElem_mem _)
theorem Z9a (p:List ByteArray)(hp:XE p<=1050000):Yz p=some (Z14 p):=by
 have hl:p.length<=1050000:=by unfold XE ZX at hp;omega
 refine(Z1k (len:=p.length) (by omega) (λi=>XS (p.getD i (⟨#[]⟩:ByteArray))) (decide ((1:Int)<=(p.length:Int))&&decide ((p.length:Int)<=4)) (Yz.l4 p) (λn=> ?_) (λn i hi=> ?_)).trans ?_
 ·rw[Yz.u4]
  simp only[Yz.g4,lt_f (Nat.le_refl _),cond_f]
  exact Za (QX _ _ _) rfl
 ·rw[Yz.u4]
  simp only[Yz.g4,lt_t hi,ge_t,cond_t,w64_succ (i:=i) (by omega),Int.toNat_natCast,at_n hi]
  rw[Z2X _ (Z3Z hi hp),bind_s]
  cases XS p[i]<;>rfl
 ·unfold Z14
  rw[Z4d p XS _ (λi hi=>by rw[at_n hi]),Bool.and_comm]
theorem Z6s (p:List ByteArray)(hp:XE p<=1050000):Q8 p ((),())=some (p.any λs=> !XS s):=by
 unfold Q8
 refine Z4s p _ ?_
 exact Z2M p (⟨#[]⟩:ByteArray) (λs=>Qq s) (λs=> !XS s) (by unfold XE ZX at hp;omega) (λi h=>Za (Z20 _ (Z3Z h hp)) rfl) (X4.l4 p) (λn L a=>X4.u4 p n L a)
theorem Z7t (p:List ByteArray)(hp:XE p<=1050000):UT p=some (Z14 p):=by
 unfold UT Z14
 refine Za (QP _ _ _) ?_
 cases(decide ((1:Int)<=(p.length:Int))&&decide ((p.length:Int)<=4))with
 |false=>rfl
 |true=>exact cT rfl (Za (Z6s p hp) (by rw[Z4e,Bool.true_and]))
def Xf (a b c:Int):Bool:=decide (b<=a)&&decide (a<=c)
def QI (e:Z0):Bool:=XS e.1&&(bif e.2.1==(1:Int)then Xf e.2.2.1 0 999999&&((e.2.2.2.length:Int)==(0:Int))else bif e.2.1==(2:Int)then Xf e.2.2.1 0 2147483646&&((e.2.2.2.length:Int)==(0:Int))else bif e.2.1==(3:Int)then Xf e.2.2.1 0 2147483646&&Z14 e.2.2.2 else false)
theorem Z97 (e:Z0)(hx:ZL e<=1050000):Qc e=some (QI e):=by
 have h1:=Z2X e.1 (Z2w e hx)
 have h2:=Z9a e.2.2.2 (Z3i e hx)
 unfold Qc QI
 cases e.2.1==(1:Int)with
 |true=>
  refine cT rfl (Za h1 ?_)
  cases XS e.1 with
  |false=>rfl
  |true=>
   refine cT rfl (Za (QX _ _ _) ?_)
   show _=some (true&&(Xf e.2.2.1 0 999999&&_))
   unfold Xf
   cases(decide (0<=e.2.2.1)&&decide (e.2.2.1<=999999))<;>rfl
 |false=>
  refine cF rfl ?_
  cases e.2.1==(2:Int)with
  |true=>
   refine cT rfl (Za h1 ?_)
   cases XS e.1 with
   |false=>rfl
   |true=>
    refine cT rfl (Za (QX _ _ _) ?_)
    show _=some (true&&(Xf e.2.2.1 0 2147483646&&_))
    unfold Xf
    cases(decide (0<=e.2.2.1)&&decide (e.2.2.1<=2147483646))<;>rfl
  |false=>
   refine cF rfl ?_
   cases e.2.1==(3:Int)with
   |true=>
    refine cT rfl (Za h1 ?_)
    cases XS e.1 with
    |false=>rfl
    |true=>
     refine cT rfl (Za (QX _ _ _) ?_)
     show _=some (true&&(Xf e.2.2.1 0 2147483646&&_))
     unfold Xf
     cases(decide (0<=e.2.2.1)&&decide (e.2.2.1<=2147483646))with
     |false=>rfl
     |true=>exact cT rfl (Za h2 (by rw[Bool.true_and,Bool.true_and]))
   |false=>exact cF rfl (by rw[cond_f,cond_f,cond_f,Bool.and_false])
theorem Z5c (a:Int):WD a=some (Xf a 0 2147483646):=Za (QP _ _ _) rfl
theorem Z54 (e:Z0)(hx:ZL e<=1050000):Ud e=some (QI e):=by
 have h1:=Z20 e.1 (Z2w e hx)
 have h2:=Z7t e.2.2.2 (Z3i e hx)
 unfold Ud QI
 refine Za h1 ?_
 cases XS e.1 with
 |false=>rfl
 |true=>
  refine cF rfl ?_
  rw[Bool.true_and]
  cases e.2.1==(1:Int)with
  |true=>
   refine cT rfl (Za (QP _ _ _) ?_)
   show _=some (Xf e.2.2.1 0 999999&&_)
   unfold Xf
   cases(decide (0<=e.2.2.1)&&decide (e.2.2.1<=999999))<;>rfl
  |false=>
   refine cF rfl ?_
   cases e.2.1==(2:Int)with
   |true=>
    refine cT rfl (Za (Z5c _) ?_)
    show _=some (Xf e.2.2.1 0 2147483646&&_)
    cases Xf e.2.2.1 0 2147483646<;>rfl
   |false=>
    refine cF rfl ?_
    cases e.2.1==(3:Int)with
    |true=>
     refine cT rfl (Za (Z5c _) ?_)
     show _=some (Xf e.2.2.1 0 2147483646&&_)
     cases Xf e.2.2.1 0 2147483646 with
     |false=>rfl
     |true=>exact cT rfl (Za h2 (by rw[Bool.true_and]))
    |false=>rfl
theorem Z3O (a b:ByteArray):WE a b=some (W0 a b):=by
 unfold WE W0
 rw[Z3f,ByteArray.toList_eq,ByteArray.toList_eq]
 cases Op.bytesLess a.data.toList b.data.toList with
 |true=>rfl
 |false=>cases a.data.toList==b.data.toList<;>rfl
theorem Z1X (a b:ByteArray):Ws a b=some (W0 a b):=rfl
def WA (xs:List Z0):Bool:=Z0c (λi=>QI (xs.getD i Zw)&&(decide (i=0)||W0 (xs.getD (i-1) Zw).1 (xs.getD i Zw).1== -1)) xs.length&&decide ((xs.length:Int)<=(12:Int))
theorem Z2p (xs:List Z0)(h:WA xs=true):xs.length<=12:=by
 unfold WA at h
 rw[Bool.and_eq_true]at h
 have:=of_decide_eq_true h.2
 omega
theorem Z1y (xs:List Z0)(hx:Zo xs<=1050000):ZO xs=some (WA xs):=by
 have hl:xs.length<=1050000:=by unfold Zo ZX at hx;omega
 refine Z1k (len:=xs.length) (by omega) _ _ (ZO.l4 xs) (λn=> ?_) (λn i hi=> ?_)
 ·rw[ZO.u4]
  simp only[ZO.g4,lt_f (Nat.le_refl _),cond_f]
 ·rw[ZO.u4]
  simp only[ZO.g4,lt_t hi,ge_t,cond_t,w64_succ (i:=i) (by omega),Int.toNat_natCast,at_n hi]
  rw[Z97 _ (Z0D hi hx),bind_s]
  cases QI xs[i]with
  |false=>rfl
  |true=>
   by_cases h0:i=0
   ·subst h0;rfl
   ·have ew:IntKind.i64.wrap ((i:Int)-1)=((i-1:Nat):Int):=by rw[w64 (by omega) (by omega)];omega
    rw[decide_eq_true (show(i:Int)>0 by omega),decide_eq_false h0,ew]
    refine cF rfl (cT rfl (cT ge_t (cT (lt_t (by omega)) (Za (Z3O _ _) ?_))))
    rw[Int.toNat_natCast,Bool.true_and,Bool.false_or]
    show _=bif(W0 (xs.getD (i-1) Zw).1 xs[i].1== -1)then _ else _
    show(bif !(W0 (xs.getD (i-1) Zw).1 xs[i].1== -1)then _ else _)=_
    cases(W0 (xs.getD (i-1) Zw).1 xs[i].1== -1)<;>rfl
theorem Z4W (xs:List Z0)(hx:Zo xs<=1050000):Yd xs=some (WA xs):=by
 have hl:xs.length<=1050000:=by unfold Zo ZX at hx;omega
 refine Z1k (len:=xs.length) (by omega) _ _ (λn v=>Yd.l4 xs n (xs.length:Int) v) (λn=> ?_) (λn i hi=> ?_)
 ·rw[Yd.u4]
  simp only[Yd.g4,lt_f (Nat.le_refl _),cond_f]
 ·rw[Yd.u4]
  simp only[Yd.g4,lt_t hi,ge_t,cond_t,w64_succ (i:=i) (by omega),Int.toNat_natCast,at_n hi]
  rw[Z54 _ (Z0D hi hx),bind_s]
  cases QI xs[i]with
  |false=>rfl
  |true=>
   by_cases h0:i=0
   ·subst h0;rfl
   ·have ew:IntKind.i64.wrap ((i:Int)-1)=((i-1:Nat):Int):=by rw[w64 (by omega) (by omega)];omega
    rw[decide_eq_true (show(i:Int)>0 by omega),decide_eq_false h0,ew]
    refine cF rfl (cT rfl (cT ge_t (cT (lt_t (by omega)) (Za (Z1X _ _) ?_))))
    rw[Int.toNat_natCast,Bool.true_and,Bool.false_or,Z6I (xs.getD (i-1) Zw).1 xs[i].1]
    show(bif !(W0 (xs.getD (i-1) Zw).1 xs[i].1== -1)then _ else _)=bif(W0 (xs.getD (i-1) Zw).1 xs[i].1== -1)then _ else _
    cases(W0 (xs.getD (i-1) Zw).1 xs[i].1== -1)<;>rfl
theorem Z2d {α β:Type}(xs:List α)(d:α)(f:α->Option β)(g:α->β)(pre:List β)(hl:xs.length<=1050000)(hp:pre.length<=1050000)(hf:∀i (h:i<xs.length),f xs[i]=some (g xs[i]))(l:Nat->List β->Int->Option (List β))(u:∀n ys a,l (n+1) ys a=(bif decide (a<(xs.length:Int))then bif decide (0<=a)then bif decide (a<(xs.length:Int))then(f (xs.getD a.toNat d)).bind λy1=>bif decide (ys.length+[y1].length<68719476736)then l n (ys++[y1]) (IntKind.i64.wrap (a+(1:Int)))else none else none else none else some ys)):l KK pre (0:Int)=some (pre++xs.map g):=by
 have hh:∀i n,i<=xs.length->xs.length-i<n->l n (pre++(xs.take i).map g) (i:Int)=some (pre++xs.map g):=by
  refine idx_ind ?_ ?_
  ·intro n
   rw[u]
   simp only[lt_f (Nat.le_refl _),cond_f,List.take_length]
  ·intro i n hi ih
   rw[u]
   have hg:(pre++(xs.take i).map g).length+[g xs[i]].length<68719476736:=by rw[List.length_append,List.length_map,List.length_take];show _+1<_;omega
   simp only[lt_t hi,ge_t,cond_t,Int.toNat_natCast,at_n hi,hf i hi,bind_s,w64_succ (i:=i) (by omega)]
   rw[decide_eq_true hg,cond_t]
   have e:pre++(xs.take i).map g++[g xs[i]]=pre++(xs.take (i+1)).map g:=by
    rw[List.append_assoc,←List.take_append_getElem hi,List.map_append];rfl
   rw[e]
   exact ih
 have:=hh 0 KK (Nat.zero_le _) (KK_gt (by omega))
 rw[List.take_zero,List.map_nil,List.append_nil]at this
 exact this
theorem Z6D {α β:Type}(xs:List α)(d:α)(f:α->Option (List β))(g:α->List β)(pre:List β)(B:Nat)(hB:pre.length+(xs.flatMap g).length<=B)(hB2:B<=1073741824)(hl:xs.length<=1050000)(hf:∀i (h:i<xs.length),f xs[i]=some (g xs[i]))(l:Nat->List β->Int->Option (List β))(u:∀n ys a,l (n+1) ys a=(bif decide (a<(xs.length:Int))then bif decide (0<=a)then bif decide (a<(xs.length:Int))then(f (xs.getD a.toNat d)).bind λy1=>bif decide (ys.length+y1.length<68719476736)then l n (ys++y1) (IntKind.i64.wrap (a+(1:Int)))else none else none else none else some ys)):l KK pre (0:Int)=some (pre++xs.flatMap g):=by
 have hh:∀i n,i<=xs.length->xs.length-i<n->l n (pre++(xs.take i).flatMap g) (i:Int)=some (pre++xs.flatMap g):=by
  refine idx_ind ?_ ?_
  ·intro n
   rw[u]
   simp only[lt_f (Nat.le_refl _),cond_f,List.take_length]
  ·intro i n hi ih
   rw[u]
   have e:pre++(xs.take i).flatMap g++g xs[i]=pre++(xs.take (i+1)).flatMap g:=by
    rw[List.append_assoc,←List.take_append_getElem hi,List.flatMap_append,List.flatMap_singleton]
   have hle:(pre++(xs.take (i+1)).flatMap g).length<=B:=by
    have:(xs.flatMap g).length=((xs.take (i+1)).flatMap g).length+((xs.drop (i+1)).flatMap g).length:=by
     rw[←List.length_append,←List.flatMap_append,List.take_append_drop]
    rw[List.length_append];omega
   have hg:(pre++(xs.take i).flatMap g).length+(g xs[i]).length<68719476736:=by
    rw[←List.length_append,e];omega
   simp only[lt_t hi,ge_t,cond_t,Int.toNat_natCast,at_n hi,hf i hi,bind_s,w64_succ (i:=i) (by omega)]
   rw[decide_eq_true hg,cond_t,e]
   exact ih
 have:=hh 0 KK (Nat.zero_le _) (KK_gt (by omega))
 rw[List.take_zero,List.flatMap_nil,List.append_nil]at this
 exact this
theorem Z3c (s:ByteArray):(V.bytesOf s).length=s.size:=by
 unfold V.bytesOf
 rw[List.length_map,Array.length_toList];rfl
def bti (xs:List Int):List Int:=(xs.length:Int)::xs.map IntKind.i64.wrap
theorem Z6z (xs:List Int):(bti xs).length=xs.length+1:=by unfold bti;rw[List.length_cons,List.length_map]
theorem Z8U (xs:List Int)(hx:xs.length<=1050000):YW xs=some (bti xs):=
 Z2d xs 0 (λa=>some (IntKind.i64.wrap a)) IntKind.i64.wrap [(xs.length:Int)] hx (by simp) (λi h=>rfl) (λn ys a=>YW.l6 xs n a ys) (λn ys a=>YW.u6 xs n a ys)
theorem Z7d (xs:List Int)(hx:xs.length<=1050000):YO xs=some (bti xs):=
 Z2d xs 0 (λa=>some (IntKind.i64.wrap a)) IntKind.i64.wrap [(xs.length:Int)] hx (by simp) (λi h=>rfl) (λn ys a=>YO.l6 xs n (xs.length:Int) a ys) (λn ys a=>YO.u6 xs n (xs.length:Int) a ys)
theorem Z5Z {s:ByteArray}(hs:s.size<=1050000):V.smallS s=true:=by
 rw[V.smallS_eq]
 exact decide_eq_true (by show(s.size:Int)<68719476736;omega)
def Z09 (s:ByteArray):List Int:=bti (V.bytesOf s)
theorem Z2T (s:ByteArray):(Z09 s).length=s.size+1:=by unfold Z09;rw[Z6z,Z3c]
theorem Z9f (s:ByteArray)(hs:s.size<=1050000):UB s=some (Z09 s):=by
 unfold UB
 exact cT (Z5Z hs) (Za (Z8U _ (by rw[Z3c];exact hs)) rfl)
theorem Z7z (s:ByteArray)(hs:s.size<=1050000):Uq s=some (Z09 s):=by
 unfold Uq
 exact cT (Z5Z hs) (Za (Z7d _ (by rw[Z3c];exact hs)) rfl)
def Z0m (e:Z0):List Int:=(Z09 e.1++[e.2.1,e.2.2.1,(e.2.2.2.length:Int)])++e.2.2.2.flatMap Z09
theorem Z4K (p:List ByteArray):(p.flatMap Z09).length=XE p:=by
 unfold XE ZX
 induction p with
 |nil=>rfl
 |cons x t ih=>
  rw[List.flatMap_cons,List.length_append,ih,Z2T,List.length_cons,List.map_cons,List.sum_cons]
  unfold Wi
  omega
theorem Z4C (e:Z0):(Z0m e).length=ZL e+4:=by
 unfold Z0m ZL Wi
 rw[List.length_append,List.length_append,Z2T,Z4K]
 show e.1.size+1+3+_=_
 omega
theorem eL (e:Z0)(hx:ZL e<=1050000)(f:ByteArray->Option (List Int))(hf:∀s,s.size<=1050000->f s=some (Z09 s))(l:Nat->List Int->Int->Option (List Int))(u:∀n ys a,l (n+1) ys a=(bif decide (a<(e.2.2.2.length:Int))then bif decide (0<=a)then bif decide (a<(e.2.2.2.length:Int))then(f (e.2.2.2.getD a.toNat (⟨#[]⟩:ByteArray))).bind λy1=>bif decide (ys.length+y1.length<68719476736)then l n (ys++y1) (IntKind.i64.wrap (a+(1:Int)))else none else none else none else some ys)):((f e.1).bind λy1=>bif decide (y1.length+[e.2.1,e.2.2.1,(e.2.2.2.length:Int)].length<68719476736)then l KK (y1++[e.2.1,e.2.2.1,(e.2.2.2.length:Int)]) (0:Int)else none)=some (Z0m e):=by
 have h1:=Z2w e hx
 have h2:=Z3i e hx
 refine Za (hf _ h1) (cT (decide_eq_true (by rw[Z2T];show _+3<_;omega)) ?_)
 exact Z6D e.2.2.2 (⟨#[]⟩:ByteArray) f Z09 _ 2200000 (by rw[List.length_append,Z2T,Z4K];show _+3+_<=_;omega) (by omega) (by unfold XE ZX at h2;omega) (λi h=>hf _ (Z3Z h h2)) l u
theorem Z90 (e:Z0)(hx:ZL e<=1050000):YX e=some (Z0m e):=
 eL e hx UB Z9f (λn ys a=>YX.l6 e n a ys) (λn ys a=>YX.u6 e n a ys)
theorem Z7i (e:Z0)(hx:ZL e<=1050000):YP e=some (Z0m e):=
 eL e hx Uq Z7z (λn ys a=>YP.l6 e n (e.2.2.2.length:Int) a ys) (λn ys a=>YP.u6 e n (e.2.2.2.length:Int) a ys)
def hs (xs:List Int):Int:=xs.foldl WN 11
def WR (e:Z0):Int:=hs (227::Z0m e)
theorem Z9e (e:Z0)(hx:ZL e<=1050000):UJ e=some (WR e):=by
 unfold UJ
 have hl:=Z4C e
 exact Za (Z90 e hx) (cT (decide_eq_true (by show 1+_<_;omega)) (Za (Z1b _ (show([(227:Int)]++Z0m e).length<=_ by rw[List.length_append];show 1+_<=_;omega)) rfl))
theorem Z56 (e:Z0)(hx:ZL e<=1050000):WX e=some (WR e):=by
 unfold WX
 have hl:=Z4C e
 exact Za (Z7i e hx) (cT (decide_eq_true (by show 1+_<_;omega)) (Za (Z1Z _ (show([(227:Int)]++Z0m e).length<=_ by rw[List.length_append];show 1+_<=_;omega)) rfl))
def leaves (xs:List Z0):List Int:=xs.map WR
theorem Z1v (xs:List Z0):(leaves xs).length=xs.length:=List.length_map ..
theorem Z5O (xs:List Z0)(hx:Zo xs<=1050000):YA xs=some (leaves xs):=
 Z2d xs Zw UJ WR [] (by unfold Zo ZX at hx;omega) (by simp) (λi h=>Z9e _ (Z0D h hx)) (λn ys a=>YA.l6 xs n a ys) (λn ys a=>YA.u6 xs n a ys)
theorem Z57 (xs:List Z0)(hx:Zo xs<=1050000):Yw xs=some (leaves xs):=
 Z2d xs Zw WX WR [] (by unfold Zo ZX at hx;omega) (by simp) (λi h=>Z56 _ (Z0D h hx)) (λn ys a=>Yw.l6 xs n (xs.length:Int) a ys) (λn ys a=>Yw.u6 xs n (xs.length:Int) a ys)
def Qu (a b:Int):Int:=hs [229,a,b]
theorem Z9k (a b:Int):Qg a b=some (Qu a b):=Za (Z1b _ (by show 3<=_;omega)) rfl
theorem Z3v (xs:List Int)(hx:xs.length<=1050000):WP xs=some (hs xs):=Za (Z1Z _ (by omega)) rfl
theorem Z3s (a b:Int):WY a b=some (Qu a b):=Za (Z3v _ (by show 3<=_;omega)) rfl
def up :List Int->List Int
 |a::b::t=>Qu a b::up t
 |[a]=>[a]
 |[]=>[]
theorem Z1H :∀xs:List Int,(up xs).length=(xs.length+1)/2
 |[]=>by rw[up];rfl
 |[a]=>by simp[up]
 |a::b::t=>by
  show(up t).length+1=(t.length+1+1+1)/2
  rw[Z1H t];omega
theorem upL (f:Int->Int->Option Int)(hf:∀a b,f a b=some (Qu a b))(xs:List Int)(hx:xs.length<=1050000)(l:Nat->Int->List Int->Option (List Int))(u:∀n a ys,l (n+1) a ys=(bif decide (a<(xs.length:Int))then bif decide ((IntKind.i64.wrap (a+(1:Int)))<(xs.length:Int))then bif decide (0<=a)then bif decide (a<(xs.length:Int))then bif decide (0<=(IntKind.i64.wrap (a+(1:Int))))then bif decide ((IntKind.i64.wrap (a+(1:Int)))<(xs.length:Int))then(f (xs.getD a.toNat (0:Int)) (xs.getD ((IntKind.i64.wrap (a+(1:Int))).toNat) (0:Int))).bind λy1=>bif decide (ys.length+[y1].length<68719476736)then l n (IntKind.i64.wrap (a+(2:Int))) (ys++[y1])else none else none else none else none else none else bif decide (0<=a)then bif decide (a<(xs.length:Int))then bif decide (ys.length+[xs.getD a.toNat (0:Int)].length<68719476736)then l n (IntKind.i64.wrap (a+(2:Int))) (ys++[xs.getD a.toNat (0:Int)])else none else none else none else some ys)):l KK (0:Int) []=some (up xs):=by
 have hh:∀(suf:List Int) (i n:Nat) (ys:List Int),suf=xs.drop i->suf.length<n->ys.length<=i->i<=xs.length+1->l n (i:Int) ys=some (ys++up suf):=by
  intro suf
  induction suf using up.induct with
  |case1 a b t ih=>
   intro i n ys hs hn hy hi0
   have hlen:(xs.drop i).length=t.length+2:=by rw[←hs];rfl
   rw[List.length_drop]at hlen
   have hi:i<xs.length:=by omega
   have hi':i+1<xs.length:=by omega
   have e1:=List.drop_eq_getElem_cons hi
   have e2:=List.drop_eq_getElem_cons hi'
   rw[e1,e2]at hs
   injection hs with ha hs
   injection hs with hb ht
   cases n with
   |zero=>simp at hn
   |succ n=>
    have ew:IntKind.i64.wrap ((i:Int)+2)=((i+2:Nat):Int):=by rw[w64 (by omega) (by omega)];omega
    have hg:ys.length+[Qu xs[i] xs[i+1]].length<68719476736:=by show _+1<_;omega
    rw[u]
    simp only[w64_succ (i:=i) (by omega),lt_t hi,lt_t hi',ge_t,cond_t,Int.toNat_natCast,at_n hi,at_n hi',hf,bind_s,ew]
    rw[decide_eq_true hg,cond_t]
    rw[ih (i+2) n _ ht (by simp at hn;omega) (by rw[List.length_append];show _+1<=_;omega) (by omega)]
    rw[List.append_assoc,ha,hb];rfl
  |case2 a=>
   intro i n ys hs hn hy hi0
   have hlen:(xs.drop i).length=1:=by rw[←hs];rfl
   rw[List.length_drop]at hlen
   have hi:i<xs.length:=by omega
   have e1:=List.drop_eq_getElem_cons hi
   rw[e1]at hs
   injection hs with ha hs
   match n,hn with
   |n+2,_=>
    have ew:IntKind.i64.wrap ((i:Int)+2)=((i+2:Nat):Int):=by rw[w64 (by omega) (by omega)];omega
    have hg:ys.length+[xs[i]].length<68719476736:=by show _+1<_;omega
    rw[u]
    simp only[w64_succ (i:=i) (by omega),lt_t hi,lt_f (show xs.length<=i+1 by omega),ge_t,cond_t,cond_f,Int.toNat_natCast,at_n hi,ew]
    rw[decide_eq_true hg,cond_t,u]
    simp only[lt_f (show xs.length<=i+2 by omega),cond_f]
    rw[ha];rfl
  |case3=>
   intro i n ys hs hn hy hi0
   have hlen:(xs.drop i).length=0:=by rw[←hs];rfl
   rw[List.length_drop]at hlen
   cases n with
   |zero=>simp at hn
   |succ n=>
    rw[u]
    simp only[lt_f (show xs.length<=i by omega),cond_f]
    rw[up,List.append_nil]
 have:=hh xs 0 KK [] (by rw[List.drop_zero]) (KK_gt (by omega)) (Nat.le_refl _) (Nat.zero_le _)
 exact this
theorem Z5V (xs:List Int)(hx:xs.length<=1050000):Ys xs=some (up xs):=upL Qg Z9k xs hx (Ys.l6 xs) (λn a ys=>Ys.u6 xs n a ys)
theorem Z3u (xs:List Int)(hx:xs.length<=1050000):Yk xs=some (up xs):=upL WY Z3s xs hx (Yk.l6 xs) (λn a ys=>Yk.u6 xs n a ys)
def Z1G :Nat->List Int->Int
 |0,_=>0
 |n+1,xs=>bif decide ((xs.length:Int)>(1:Int))then Z1G n (up xs)else xs.getD 0 0
def Z0S (xs:List Int):Int:=bif(xs.length:Int)==(0:Int)then hs [229]else Z1G KK xs
theorem Z63 (f:List Int->Option (List Int))(hf:∀xs:List Int,xs.length<=1050000->f xs=some (up xs))(l:Nat->List Int->Option Int)(u:∀n xs,l (n+1) xs=(bif decide ((xs.length:Int)>(1:Int))then(f xs).bind λy2=>l n y2 else bif decide (0<=(0:Int))then bif decide ((0:Int)<(xs.length:Int))then some (xs.getD ((0:Int).toNat) (0:Int))else none else none)):∀(n:Nat) (xs:List Int),0<xs.length->xs.length<n->xs.length<=1050000->l n xs=some (Z1G n xs):=by
 intro n
 induction n with
 |zero=>intro xs h0 h1;omega
 |succ n ih=>
  intro xs h0 h1 h2
  rw[u]
  show _=some (bif decide ((xs.length:Int)>(1:Int))then Z1G n (up xs)else xs.getD 0 0)
  by_cases h:1<xs.length
  ·rw[decide_eq_true (show(xs.length:Int)>1 by omega),cond_t,cond_t,hf xs h2,bind_s]
   have:=Z1H xs
   exact ih _ (by omega) (by omega) (by omega)
  ·rw[decide_eq_false (show¬(xs.length:Int)>1 by omega),cond_f,cond_f]
   exact cT rfl (cT (decide_eq_true (by omega)) rfl)
theorem Z9u (xs:List Int)(hx:xs.length<=1050000):YJ xs=some (Z0S xs):=by
 unfold YJ Z0S
 cases h:((xs.length:Int)==(0:Int))with
 |true=>exact cT h (Za (Z1b _ (by show 1<=_;omega)) rfl)
 |false=>
  have h0:(xs.length:Int)≠0:=by simpa using h
  exact cF h (Z63 Ys Z5V YJ.l8 (λn xs=>YJ.u8 n xs) KK xs (by omega) (KK_gt (by omega)) hx)
theorem Z7N (xs:List Int)(hx:xs.length<=1050000):YG xs=some (Z0S xs):=by
 unfold YG Z0S
 cases h:((xs.length:Int)==(0:Int))with
 |true=>exact cT h (Za (Z3v _ (by show 1<=_;omega)) rfl)
 |false=>
  have h0:(xs.length:Int)≠0:=by simpa using h
  exact cF h (Z63 Yk Z3u YG.l6 (λn xs=>YG.u6 n xs) KK xs (by omega) (KK_gt (by omega)) hx)
def Z1x (n t:Int):Int:=hs [231,n,t]
def Z02 (xs:List Z0):Int:=Z1x (xs.length:Int) (Z0S (leaves xs))
theorem Z9r (n t:Int):Qw n t=some (Z1x n t):=Za (Z1b _ (by show 3<=_;omega)) rfl
theorem Z58 (n t:Int):Uv n t=some (Z1x n t):=Za (Z3v _ (by show 3<=_;omega)) rfl
theorem Z30 (xs:List Z0)(hx:Zo xs<=1050000):Wp xs=some (Z02 xs):=by
 unfold Wp
 have hl:xs.length<=1050000:=by unfold Zo ZX at hx;omega
 exact Za (Z5O xs hx) (Za (Z9u _ (by rw[Z1v];exact hl)) (Za (Z9r _ _) rfl))
theorem Z59 (xs:List Z0)(hx:Zo xs<=1050000):Uf xs=some (Z02 xs):=by
 unfold Uf
 have hl:xs.length<=1050000:=by unfold Zo ZX at hx;omega
 exact Za (Z57 xs hx) (Za (Z7N _ (by rw[Z1v];exact hl)) (Za (Z58 _ _) rfl))
def setC (h:Z5)(n r:Int):Z5:=Wc (ZS h) (Yb h) (Y4 h) (Zt h) (ZZ h) n r (Xe h) (Zg h) (Zf h) (ZJ h) (Zi h) (Zr h)
theorem setC_size (h:Z5)(n r:Int):ZD (setC h n r)=ZD h:=rfl
def Z0a (xs:List Z0)(h:Z5):Z5:=setC h (xs.length:Int) (Z02 xs)
theorem Z9C (x0:Z5)(xs:List Z0)(h:Z5)(hh:ZD h=ZD x0)(hx:ZD x0<=1050000):ZD (Z0a xs h)<=1050000:=by
 unfold Z0a
 rw[setC_size,hh];exact hx
def Z2s (x0:Z5)(xs:List Z0)(x2 x3:Int):Yi:=bif WA xs&&(Z00 x0 x2 x3&&(Xk (Wo x0 1 x2 x3)&&Xk (Z0a xs (Wo x0 1 x2 x3))))then UN (Z0a xs (Wo x0 1 x2 x3)) true else Qz
theorem Z8V (x0:Z5)(xs:List Z0)(x2 x3:Int)(hx:ZD x0<=1050000)(he:Zo xs<=1050000):ZT x0 xs x2 x3=some (Z2s x0 xs x2 x3):=by
 unfold ZT Z2s
 refine Za (Z9j x0 1 x2 x3 hx) ?_
 rw[Z8D]
 cases hg:(Z00 x0 x2 x3&&Xk (Wo x0 1 x2 x3))with
 |false=>
  have e:(WA xs&&(Z00 x0 x2 x3&&(Xk (Wo x0 1 x2 x3)&&Xk (Z0a xs (Wo x0 1 x2 x3)))))=false:=by
   rw[←Bool.and_assoc (Z00 x0 x2 x3),hg,Bool.false_and,Bool.and_false]
  rw[e];rfl
 |true=>
  have e:(WA xs&&(Z00 x0 x2 x3&&(Xk (Wo x0 1 x2 x3)&&Xk (Z0a xs (Wo x0 1 x2 x3)))))=(WA xs&&Xk (Z0a xs (Wo x0 1 x2 x3))):=by
   rw[←Bool.and_assoc (Z00 x0 x2 x3),hg,Bool.true_and]
  rw[e]
  refine cF rfl (Za (Z1y xs he) ?_)
  cases WA xs with
  |false=>rfl
  |true=>
   have hs:ZD (Z0a xs (Wo x0 1 x2 x3))<=1050000:=Z9C x0 xs _ (Z8B ..) hx
   refine Za (Z30 xs he) ?_
   rw[Z8C _ _ _ _ hg,Bool.true_and]
   refine Za (Z5l (Z0a xs (Wo x0 1 x2 x3)) hs) ?_
   unfold Z1f;rfl
theorem QJ (z:Z7){n:Nat}(hx:Xq z<=n):X6 z.1<=n:=by unfold Xq at hx;omega
theorem Z1g (z:Z7){n:Nat}(hx:Xq z<=n):Zo z.2<=n:=by unfold Xq at hx;omega
def Z0X (r:Int)(xs:List Z0):Bool:=WA xs&&(Z02 xs==r)
theorem Z8W (r:Int)(xs:List Z0)(hx:Zo xs<=1050000):Q9 r xs=some (Z0X r xs):=by
 unfold Q9 Z0X
 refine Za (Z1y xs hx) ?_
 cases WA xs with
 |false=>rfl
 |true=>exact cT rfl (Za (Z30 xs hx) (by rw[Bool.true_and]))
theorem Z7e (r:Int)(xs:List Z0)(hx:Zo xs<=1050000):UR r xs=some (Z0X r xs):=by
 unfold UR Z0X
 refine Za (Z4W xs hx) ?_
 cases WA xs with
 |false=>rfl
 |true=>exact cT rfl (Za (Z59 xs hx) (by rw[Bool.true_and]))
def Xv (z:Z7):Z5:=Zb (Ux z.1)
def Xg (z:Z7):Bool:=W5 z.1&&((ZH (Xv z)==(z.2.length:Int))&&Z0X (ZY (Xv z)) z.2)
theorem Z2O (z:Z7)(h:Xg z=true):W5 z.1=true:=by unfold Xg at h;rw[Bool.and_eq_true]at h;exact h.1
theorem Z1A (z:Z7)(hx:Xq z<=1050000):Wa z=some (Xg z):=by
 unfold Wa Xg
 refine Za (Z1C z.1 (QJ z hx)) ?_
 rw[(Z0K z.1).1]
 cases hc:W5 z.1 with
 |false=>rfl
 |true=>
  rw[(Z0K z.1).2 hc,cond_t,Bool.true_and]
  show(bif(ZH (Xv z)==(z.2.length:Int))then _ else _)=_
  cases(ZH (Xv z)==(z.2.length:Int))with
  |false=>rfl
  |true=>exact cT rfl (Za (Z8W _ z.2 (Z1g z hx)) (by rw[Bool.true_and];rfl))
theorem Z2H (z:Z7)(hx:Xq z<=1050000):Wm z=some (Xg z):=by
 unfold Wm Xg
 refine Za (Z53 z.1 (QJ z hx)) ?_
 cases hc:W5 z.1 with
 |false=>rfl
 |true=>
  refine cF rfl (Za (Z3J z.1 hc) ?_)
  rw[Bool.true_and]
  show(bif(ZH (Xv z)==(z.2.length:Int))then _ else _)=_
  cases(ZH (Xv z)==(z.2.length:Int))with
  |false=>rfl
  |true=>exact cT rfl (Za (Z7e _ z.2 (Z1g z hx)) (by rw[Bool.true_and];rfl))
def Xr (z:Z7):Int:=bif Xg z then ZS (Xv z)else-1
theorem Z31 (z:Z7)(hx:Xq z<=1050000):Wq z=some (Xr z):=by
 unfold Wq Xr
 refine Za (Z1C z.1 (QJ z hx)) (Za (Z1A z hx) ?_)
 cases hz:Xg z with
 |false=>rfl
 |true=>
  rw[(Z0K z.1).2 (Z2O z hz)]
  rfl
theorem Z5b (z:Z7)(hx:Xq z<=1050000):Ug z=some (Xr z):=by
 unfold Ug Xr
 refine Za (Z2H z hx) ?_
 cases hz:Xg z with
 |false=>rfl
 |true=>exact cF rfl (Za (Z3J z.1 (Z2O z hz)) rfl)
def QW (s:Z8):Bool:=s.1.all Xg&&(decide ((s.1.length:Int)<=(8:Int))&&(decide ((0:Int)<=s.2)&&decide (s.2<=4)))
theorem Z0P (s:Z8){n:Nat}(hx:Wv s<=n):U1 s.1<=n:=hx
theorem Z5M (s:Z8)(hx:Wv s<=1050000):Yf s=some (QW s):=by
 have hz:=Z0P s hx
 have hl:s.1.length<=1050000:=by unfold U1 ZX at hz;omega
 refine(Z1k (len:=s.1.length) (by omega) (λi=>Xg (s.1.getD i YN)) (decide ((s.1.length:Int)<=(8:Int))&&(decide ((0:Int)<=s.2)&&decide (s.2<=4))) (Yf.l4 s) (λn=> ?_) (λn i hi=> ?_)).trans ?_
 ·rw[Yf.u4]
  simp only[Yf.g4,lt_f (Nat.le_refl _),cond_f]
  cases decide ((s.1.length:Int)<=(8:Int))with
  |false=>rfl
  |true=>exact cT rfl (Za (QX _ _ _) (by rw[Bool.true_and]))
 ·rw[Yf.u4]
  simp only[Yf.g4,lt_t hi,ge_t,cond_t,w64_succ (i:=i) (by omega),Int.toNat_natCast,at_n hi]
  rw[Z1A _ (Z0y hi hz),bind_s]
  cases Xg s.1[i]<;>rfl
 ·unfold QW
  rw[Z4d s.1 Xg _ (λi hi=>by rw[at_n hi])]
theorem Z6t (xs:List Z7)(hz:U1 xs<=1050000):Q7 xs ((),())=some (xs.any λs=> !Xg s):=by
 unfold Q7
 refine Z4s xs _ ?_
 exact Z2M xs YN (λs=>Qr s) (λs=> !Xg s) (by unfold U1 ZX at hz;omega) (λi h=>Za (Z2H _ (Z0y h hz)) rfl) (X2.l4 xs) (λn L a=>X2.u4 xs n L a)
theorem Z55 (s:Z8)(hx:Wv s<=1050000):Ue s=some (QW s):=by
 unfold Ue QW
 cases decide ((s.1.length:Int)<=(8:Int))with
 |false=>rw[Bool.false_and,Bool.and_false];rfl
 |true=>
  refine cT rfl (Za (Z6t s.1 hx) ?_)
  rw[Z4e,Bool.true_and]
  cases s.1.all Xg with
  |false=>rfl
  |true=>exact cT rfl (Za (QP _ _ _) (by rw[Bool.true_and]))
def Xs (s:Z8)(z:Int):Int:=bif decide (z<0)then-1 else Wl (λt=>Xr t==z) s.1 0
theorem Z73 {α:Type}(p:α->Bool)(xs:List α)(h:∀x,p x=false):∀k:Int,Wl p xs k= -1:=by
 induction xs with
 |nil=>intro k;rfl
 |cons x t ih=>intro k;rw[Z0r,h,cond_f];exact ih _
theorem Z5R (s:Z8)(z:Int)(hx:Wv s<=1050000):Ya s z=some (Xs s z):=by
 have hz:=Z0P s hx
 have hl:s.1.length<=1050000:=by unfold U1 ZX at hz;omega
 have hh:∀i n,i<=s.1.length->s.1.length-i<n->Ya.l4 s z n (i:Int)=some (Wl (λt=>Xr t==z&&decide (z>=(0:Int))) (s.1.drop i) (i:Int)):=by
  refine idx_ind ?_ ?_
  ·intro n
   rw[Ya.u4]
   simp only[Ya.g4,lt_f (Nat.le_refl _),cond_f,Z2B]
  ·intro i n hi ih
   rw[Ya.u4]
   simp only[Ya.g4,lt_t hi,ge_t,cond_t,w64_succ (i:=i) (by omega),Int.toNat_natCast,at_n hi,Z2C _ hi,ih]
   rw[Z31 _ (Z0y hi hz),bind_s]
   cases(Xr s.1[i]==z)<;>cases decide (z>=(0:Int))<;>rfl
 have h:=hh 0 KK (Nat.zero_le _) (KK_gt (by omega))
 rw[List.drop_zero]at h
 refine Eq.trans h (congrArg some ?_)
 unfold Xs
 by_cases h0:z<0
 ·rw[decide_eq_true h0,cond_t]
  exact Z73 _ _ (λx=>by rw[decide_eq_false (show¬z>=(0:Int) by omega),Bool.and_false]) _
 ·rw[decide_eq_false h0,cond_f]
  have e:(λt=>Xr t==z&&decide (z>=(0:Int)))=(λt=>Xr t==z):=by
   funext t
   rw[decide_eq_true (show z>=(0:Int) by omega),Bool.and_true]
  rw[e];rfl
theorem Z2L (s:Z8)(z:Int)(hx:Wv s<=1050000):Wu s z=some (Xs s z):=by
 have hz:=Z0P s hx
 unfold Wu Xs
 cases decide (z<(0:Int))with
 |true=>rfl
 |false=>exact cF rfl (Za (Z2M s.1 YN (λt=>Qs t z) (λt=>Xr t==z) (by unfold U1 ZX at hz;omega) (λi h=>Za (Z5b _ (Z0y h hz)) rfl) (X3.l4 s.1 ((),z)) (λn L a=>X3.u4 s.1 ((),z) n L a)) rfl)
theorem Z2Q (xs:List Z0)(hx:Zo xs<=1050000):Y7 xs=some xs:=
 Z2u xs Zw W8 (by unfold Zo ZX at hx;omega) (λi h=>Z15 _ (Z0D h hx)) (λn ys a=>Y7.l6 xs n a ys) (λn ys a=>Y7.u6 xs n a ys)
theorem Z6L (xs:List Z0)(hx:Zo xs<=1050000):YR xs=some xs:=
 Z2u xs Zw Wn (by unfold Zo ZX at hx;omega) (λi h=>Z2t _ (Z0D h hx)) (λn ys a=>YR.l6 xs n (xs.length:Int) a ys) (λn ys a=>YR.u6 xs n (xs.length:Int) a ys)
def Z0p (k:Zc)(s:Int)(xs:List Z0)(now u:Int):Z5:=Wc (Z1J k s) 0 1 now u (xs.length:Int) (Z02 xs) s k Z0l 0 Z0l false
theorem Z4I (k:Zc)(s:Int)(xs:List Z0)(now u:Int):ZD (Z0p k s xs now u)=k.1.length:=by
 show k.1.length+(([]:List Int).length+([]:List Int).length)=_
 rfl
def Z0F (k:Zc)(s:Int)(xs:List Z0)(now term:Int):Bool:=WA xs&&((W7 now 0 100000&&W7 term 0 200)&&Xk (Z0p k s xs now (IntKind.i64.wrap (now+term))))
def Z1o (k:Zc)(s:Int)(xs:List Z0)(now term:Int):Yi:=bif Z0F k s xs now term then UN (Z0p k s xs now (IntKind.i64.wrap (now+term))) true else Qz
theorem Z3Q (k:Zc)(s:Int)(xs:List Z0)(now term:Int)(v:Bool)(hk:k.1.length<=1050000)(hx:Zo xs<=1050000):YI.l5 k s xs now term v=some (bif !v&&Xk (Z0p k s xs now (IntKind.i64.wrap (now+term)))then UN (Z0p k s xs now (IntKind.i64.wrap (now+term))) true else Qz):=by
 cases v with
 |true=>rfl
 |false=>
  refine Za (Z5W k s hk) (Za (Z30 xs hx) (Za (Z29 k hk) (Za (Z1z (Z0p k s xs now (IntKind.i64.wrap (now+term))) (by rw[Z4I];exact hk)) ?_)))
  cases Xk (Z0p k s xs now (IntKind.i64.wrap (now+term)))<;>rfl
theorem Z5K (k:Zc)(s:Int)(xs:List Z0)(now term:Int)(hk:k.1.length<=1050000)(hx:Zo xs<=1050000):YI k s xs now term=some (Z1o k s xs now term):=by
 unfold YI Z1o Z0F
 refine Za (Z1y xs hx) ?_
 cases WA xs with
 |false=>exact Z3Q k s xs now term true hk hx
 |true=>
  refine cF rfl (Za (Z26 _ _ _) ?_)
  cases W7 now 0 100000 with
  |false=>exact Z3Q k s xs now term true hk hx
  |true=>
   refine cF rfl (Za (Z26 _ _ _) ?_)
   rw[Z3Q k s xs now term _ hk hx]
   cases W7 term 0 200<;>rfl
def Z2U (k:Zc)(s:Int)(xs:List Z0)(now term:Int):Z0V:=bif Z0F k s xs now term then Z1M ([Z2i k.1 k (Z0p k s xs now (IntKind.i64.wrap (now+term)))],xs) true else Z2v
theorem Z4J (k:Zc)(s:Int)(xs:List Z0)(now term:Int):QK (Z1o k s xs now term)=Z0F k s xs now term/\(Z0F k s xs now term=true->Z6 (Z1o k s xs now term)=Z0p k s xs now (IntKind.i64.wrap (now+term))):=Z4a _ _
theorem Z9h (k:Zc)(s:Int)(xs:List Z0)(now term:Int)(hk:k.1.length<=1050000)(hx:Zo xs<=1050000):Xl k s xs now term=some (Z2U k s xs now term):=by
 unfold Xl Z2U
 refine Za (Z5K k s xs now term hk hx) ?_
 rw[(Z4J k s xs now term).1]
 cases hg:Z0F k s xs now term with
 |false=>rfl
 |true=>
  rw[(Z4J k s xs now term).2 hg]
  exact cF rfl (Za (Z2h k.1 k _ hk hk (by rw[Z4I];exact hk)) (Za (Z2Q xs hx) rfl))
theorem Z85 (a b c:Int):Y3 a b c=some (Xf a b c):=QX a b c
theorem Z1K (a b c:Int):ZW a b c=some (Xf a b c):=QP a b c
theorem Z5y (p:Z5)(s:Z4)(h:Z0w p s=true):Xk p=true/\Xk (Zb s)=true/\ZS (Zb s)=ZS p/\Yb (Zb s)=IntKind.i64.wrap ((Yb p)+(1:Int)):=by
 unfold Z0w QL at h
 cases h1:(Xk p&&Xk (Zb s))with
 |false=>rw[h1]at h;cases h
 |true=>
  cases h2:Z13 p (Zb s)with
  |false=>rw[h1,h2]at h;cases h
  |true=>
   rw[Bool.and_eq_true]at h1
   unfold Z13 at h2
   simp only[Bool.and_eq_true]at h2
   exact⟨h1.1,h1.2,eq_of_beq h2.1,eq_of_beq h2.2.1⟩
theorem Z5u (xs:List Z4)(h:W5 xs=true):∃hi:xs.length-1<xs.length,Ux xs=xs[xs.length-1]:=by
 have hl:=Z21 xs h
 refine⟨by omega,?_⟩
 unfold Ux
 rw[wl hl,show((xs.length:Int)-1).toNat=xs.length-1 by omega,at_n (by omega)]
theorem Z74 (xs:List Z4):∀(p:Z5) (k:Int),0<=k->fw (some p) xs k<0->∀i (hi:i<xs.length),Xk (Zb xs[i])=true:=by
 induction xs with
 |nil=>intro p k _ _ i hi;simp at hi
 |cons s t ih=>
  intro p k hk h i hi
  unfold fw at h
  cases hf:Z0w p s with
  |false=>rw[hf]at h;exact absurd h (by show¬k<0;omega)
  |true=>
   rw[hf]at h
   have hm:=Z5y p s hf
   cases i with
   |zero=>exact hm.2.1
   |succ i=>
    have hi2:i<t.length:=by simpa using hi
    exact ih (Zb s) (k+1) (by omega) h i hi2
theorem Z3d (xs:List Z4)(h:W5 xs=true):∀i (hi:i<xs.length),Xk (Zb xs[i])=true:=by
 unfold W5 at h
 rw[Bool.and_eq_true]at h
 have h:=of_decide_eq_true h.2
 cases xs with
 |nil=>intro i hi;simp at hi
 |cons s t=>
  unfold fw at h
  cases hf:Z0v s with
  |false=>rw[hf]at h;exact absurd h (by show¬(0:Int)<0;omega)
  |true=>
   rw[hf]at h
   intro i hi
   cases i with
   |zero=>
    unfold Z0v at hf
    simp only[Bool.and_eq_true]at hf
    exact hf.1
   |succ i=>
    have hi2:i<t.length:=by simpa using hi
    exact Z74 t (Zb s) _ (by omega) h i hi2
def Z1D (p h:Z5):Zc:=bif Y4 h==(2:Int)then Zf p else bif Y4 h==(3:Int)then Zi p else Zg p
theorem Z9I (p h:Z5):(Z1D p h).1.length<=ZD p:=by
 unfold Z1D ZD UI
 cases(Y4 h==(2:Int))<;>cases(Y4 h==(3:Int))<;>simp only[cond_t,cond_f]<;>omega
def QM (p h:Z5)(held:List Int):Z4:=Z2i held (Z1D p h) h
theorem Z5Y (p h:Z5)(held:List Int):Xp (QM p h held)<=ZD h+ZD p:=by
 have h1:=Z9H held (Z1D p h) h
 have h2:=Z9I p h
 unfold QM
 omega
theorem Z9t (p h:Z5)(held:List Int)(h0:ZD p<=1050000)(h1:ZD h<=1050000)(h2:held.length<=1050000):XW p h held=some (QM p h held):=by
 have hk:=Z0u p h0
 unfold XW QM Z1D
 cases(Y4 h==(2:Int))with
 |true=>exact cT rfl (Za (Z2h _ _ _ h2 hk.2.1 h1) rfl)
 |false=>
  refine cF rfl ?_
  cases(Y4 h==(3:Int))with
  |true=>exact cT rfl (Za (Z2h _ _ _ h2 hk.2.2 h1) rfl)
  |false=>exact cF rfl (Za (Z2h _ _ _ h2 hk.1 h1) rfl)
theorem Z27 (z:Z7)(hx:Xq z<=1050000):We z=some z:=by
 unfold We
 exact Za (Z1u _ (QJ z hx)) (Za (Z2Q _ (Z1g z hx)) rfl)
theorem Z4y (z:Z7)(hx:Xq z<=1050000):WI z=some z:=by
 unfold WI
 exact Za (Z4v _ (QJ z hx)) (Za (Z6L _ (Z1g z hx)) rfl)
def Uz (z:Z7)(held:List Int)(h:Z5):List Z4×Int:=ext z.1 (QM (Xv z) h held)
def Z2V (z:Z7)(held:List Int)(h:Z5)(xs:List Z0):Z0A:=
 bif Xg z then bif(Uz z held h).2 !=(1:Int)then Z07 z (Uz z held h).2 else bif Xg ((Uz z held h).1,xs)then Z07 ((Uz z held h).1,xs) 1 else Z07 z 2 else Z07 z 2
theorem Z8v (p:Z5)(s:Z4)(hs:ZD (Zb s)<=1050000)(h:QL p s=1):Xk p=true/\ZD (Zb s)<=12:=by
 have hm:=Z5y p s (by unfold Z0w;rw[h];rfl)
 exact⟨hm.1,Z3w _ hs hm.2.1⟩
theorem Z9M (xs:List Z4)(s:Z4):X6 (xs++[s])=X6 xs+1+Xp s:=by
 unfold X6 ZX
 simp only[List.length_append,List.map_append,List.sum_append,List.map_cons,List.map_nil,List.sum_cons,List.sum_nil,List.length_cons,List.length_nil]
 omega
theorem Z8L (z:Z7)(held:List Int)(h:Z5)(hz:Xq z<=1049500)(hh:ZD h<=1049500):X6 (Uz z held h).1<=X6 z.1+64:=by
 unfold Uz ext Z1T
 cases(!W5 z.1||decide ((z.1.length:Int)>=(12:Int)))with
 |true=>show X6 z.1<=_;omega
 |false=>
  cases hn:(QL (Zb (Ux z.1)) (QM (Xv z) h held) !=(1:Int))with
  |true=>rw[cond_f,cond_t];show X6 z.1<=_;omega
  |false=>
   rw[cond_f,cond_f]
   show X6 (z.1++[QM (Xv z) h held])<=_
   rw[Z9M]
   have h1:QL (Zb (Ux z.1)) (QM (Xv z) h held)=1:=by simpa using hn
   have e:Zb (QM (Xv z) h held)=h:=rfl
   have h2:=Z8v _ _ (by rw[e];omega) h1
   rw[e]at h2
   have h3:=Z3w _ (Z2b z.1 (by have:=QJ z hz;omega)) h2.1
   have h4:=Z5Y (Xv z) h held
   have h5:ZD (Xv z)<=12:=h3
   omega
theorem Z8M (z:Z7)(held:List Int)(h:Z5)(xs:List Z0)(hz:Xq z+Zo xs<=1049500)(hh:ZD h<=1049500):Xq ((Uz z held h).1,xs)<=1050000:=by
 have h1:=Z8L z held h (by omega) hh
 unfold Xq at hz⊢
 show X6 (Uz z held h).1+Zo xs<=_
 omega
theorem Z8N (z:Z7)(held:List Int)(h:Z5)(xs:List Z0)(hs:Xq z+(ZD h+Zo xs)<=1049500)(hl:held.length<=1050000)(hc:Xg z=true):ZD (Xv z)<=1050000/\Xp (QM (Xv z) h held)<=1050000:=by
 have hz:=QJ z (n:=1049500) (by omega)
 have h1:ZD (Xv z)<=1050000:=Z2b z.1 (by omega)
 refine⟨h1,?_⟩
 have hb:Xk (Xv z)=true:=by
  have hch:=Z2O z hc
  obtain⟨hlt,hle⟩:=Z5u z.1 hch
  unfold Xv
  rw[hle]
  exact Z3d z.1 hch _ hlt
 have h3:=Z3w _ h1 hb
 have h4:=Z5Y (Xv z) h held
 omega
theorem Z9p (z:Z7)(held:List Int)(h:Z5)(xs:List Z0)(hs:Xq z+(ZD h+Zo xs)<=1049500)(hl:held.length<=1050000):XV z held h xs=some (Z2V z held h xs):=by
 have hz:Xq z<=1050000:=by omega
 unfold XV Z2V
 refine Za (Z1C z.1 (QJ z hz)) (Za (Z1A z hz) ?_)
 cases hc:Xg z with
 |false=>exact cT rfl (Za (Z27 z hz) rfl)
 |true=>
  obtain⟨p1,p2⟩:=Z8N z held h xs hs hl hc
  rw[(Z0K z.1).2 (Z2O z hc),cond_t]
  refine cF rfl (Za (Z9t _ h held p1 (by omega) (by omega)) (Za (Z5J z.1 _ (QJ z hz) p2) ?_))
  show(bif(Uz z held h).2 !=(1:Int)then _ else _)=_
  cases(Uz z held h).2 !=(1:Int)with
  |true=>exact cT rfl (Za (Z27 z hz) rfl)
  |false=>
   refine cF rfl (Za (Z2Q xs (by omega)) (Za (Z1A ((Uz z held h).1,xs) (Z8M z held h xs (by omega) (by omega))) ?_))
   cases Xg ((Uz z held h).1,xs)with
   |true=>rfl
   |false=>exact cT rfl (Za (Z27 z hz) rfl)
def tf :Nat->Int->Nat->Nat->List Int->Int×Bool
 |0,_,_,_,_=>(0,false)
 |k+1,leaf,i,n,path=>
  bif decide (n<=1)then bif decide (path.length=0)then(leaf,true)else(0,false)
  else bif decide (i%2=0)&&decide (n<=i+1)then tf k leaf (i/2) ((n+1)/2) path
  else match path with
   |[]=>(0,false)
   |p::t=>tf k (bif decide (i%2=0)then Qu leaf p else Qu p leaf) (i/2) ((n+1)/2) t
theorem Z33 (i:Nat)(h:i<=1000):IntKind.i64.wrap (Int.tdiv (i:Int) 2)=((i/2:Nat):Int):=by
 have e:Int.tdiv (i:Int) 2=((i/2:Nat):Int):=rfl
 rw[e,w64 (by omega) (by omega)]
theorem Z41 (i:Nat):Int.tmod (i:Int) 2=((i%2:Nat):Int):=rfl
theorem Z68 :∀i:Nat,i<12->IntKind.i64.wrap ((BitVec.ofInt IntKind.i64.bits (i:Int)^^^BitVec.ofInt IntKind.i64.bits (1:Int)).toNat:Int)=bif decide (i%2=0)then(i:Int)+1 else(i:Int)-1:=by
 intro i hi
 have h:i=0∨i=1∨i=2∨i=3∨i=4∨i=5∨i=6∨i=7∨i=8∨i=9∨i=10∨i=11:=by omega
 rcases h with rfl|rfl|rfl|rfl|rfl|rfl|rfl|rfl|rfl|rfl|rfl|rfl<;>(rw[w64 (by decide) (by decide)];decide)
theorem Z42 :((2:Int)==(0:Int))=false:=rfl
theorem Z7L :∀(m:Nat) (leaf:Int) (i n:Nat) (path:List Int),1<=n->n<m->n<=12->i<n->path.length<=1050000->Zp.l6 m leaf (i:Int) (n:Int) path=some (tf m leaf i n path):=by
 intro m
 induction m with
 |zero=>intro leaf i n path h0 h1;omega
 |succ m ih=>
  intro leaf i n path h0 h1 h2 h3 h4
  have hn:IntKind.i64.wrap ((n:Int)+1)=((n+1:Nat):Int):=w64_succ (by omega)
  rw[Zp.u6]
  unfold tf
  by_cases h:1<n
  ·refine cT (decide_eq_true (by omega)) ?_
   rw[decide_eq_false (show¬n<=1 by omega),cond_f,Z68 i (by omega)]
   have next:∀(l:Int) (p:List Int),p.length<=1050000->Zp.l9 (i:Int) (n:Int) (Zp.l6 m) l p=some (tf m l (i/2) ((n+1)/2) p):=by
    intro l p hp
    show Zp.l6 m l (IntKind.i64.wrap (Int.tdiv (i:Int) (2:Int))) (IntKind.i64.wrap (Int.tdiv (IntKind.i64.wrap ((n:Int)+(1:Int))) (2:Int))) p=_
    rw[Z33 i (by omega),hn,Z33 (n+1) (by omega)]
    exact ih l (i/2) ((n+1)/2) p (by omega) (by omega) (by omega) (by omega) hp
   by_cases he:i%2=0
   ·rw[decide_eq_true he,cond_t,Bool.true_and]
    by_cases hs:n<=i+1
    ·rw[decide_eq_true hs]
     exact cT (decide_eq_true (by omega)) (next leaf path h4)
    ·rw[decide_eq_false hs,cond_f]
     refine cF (decide_eq_false (by omega)) ?_
     cases path with
     |nil=>exact cT rfl rfl
     |cons p t=>
      refine cF (by rw[beq_eq_false_iff_ne,List.length_cons];omega) (cF Z42 (cT (by rw[Z41,he];rfl) (cT rfl (cT (decide_eq_true (by rw[List.length_cons];omega)) (Za (Z3s _ _) (cT rfl (cT (decide_eq_true (by rw[List.length_cons];omega)) (cT (decide_eq_true (Int.le_refl _)) ?_))))))))
      exact next _ t (by rw[List.length_cons]at h4;omega)
   ·rw[decide_eq_false he,cond_f,Bool.false_and,cond_f]
    refine cF (decide_eq_false (by omega)) ?_
    cases path with
    |nil=>exact cT rfl rfl
    |cons p t=>
     refine cF (by rw[beq_eq_false_iff_ne,List.length_cons];omega) (cF Z42 (cF (by rw[Z41,beq_eq_false_iff_ne];omega) (cT rfl (cT (decide_eq_true (by rw[List.length_cons];omega)) (Za (Z3s _ _) (cT rfl (cT (decide_eq_true (by rw[List.length_cons];omega)) (cT (decide_eq_true (Int.le_refl _)) ?_))))))))
     exact next _ t (by rw[List.length_cons]at h4;omega)
  ·refine cF (decide_eq_false (by omega)) ?_
   rw[decide_eq_true (show n<=1 by omega),cond_t]
   cases path with
   |nil=>rfl
   |cons p t=>
    rw[decide_eq_false (show¬(p::t).length=0 by simp),cond_f]
    exact cT (decide_eq_true (show((p::t).length:Int)>0 by rw[List.length_cons];omega)) rfl
def Z0g (leaf i n:Int)(path:List Int):Int×Bool:=bif Xf n 1 12&&Xf i 0 (n-1)then tf KK leaf i.toNat n.toNat path else(0,false)
theorem WQ (a b c:Int):Xf a b c=true↔b<=a/\a<=c:=by unfold Xf;rw[Bool.and_eq_true,decide_eq_true_eq,decide_eq_true_eq]
theorem Z7M (leaf i n:Int)(path:List Int)(hp:path.length<=1050000):Zp leaf i n path=some (Z0g leaf i n path):=by
 unfold Zp Z0g
 cases hn:Xf n 1 12 with
 |false=>
  by_cases h:n<1
  ·exact cT (decide_eq_true h) rfl
  ·refine cF (decide_eq_false h) (cT (decide_eq_true ?_) rfl)
   rcases Int.lt_or_le 12 n with g|g
   ·exact g
   ·have:Xf n 1 12=true:=(WQ _ _ _).2 ⟨by omega,g⟩
    rw[hn]at this;cases this
 |true=>
  have h1:=(WQ _ _ _).1 hn
  refine cF (decide_eq_false (by omega)) (cF (decide_eq_false (by omega)) (Za (Z1K _ _ _) ?_))
  rw[wd (n:=n-1) (by omega),Bool.true_and]
  cases hi:Xf i 0 (n-1)with
  |false=>rfl
  |true=>
   have h2:=(WQ _ _ _).1 hi
   refine cF rfl ?_
   have:=Z7L KK leaf i.toNat n.toNat path (by omega) (KK_gt (by omega)) (by omega) (by omega) hp
   rw[Int.toNat_of_nonneg h2.1,Int.toNat_of_nonneg (by omega)]at this
   exact this
def Qy (root count:Int)(e:Z0)(p:Xw):Bool:=QI e&&((Z0g (WR e) p.1 count p.2).2&&(Z1x count (Z0g (WR e) p.1 count p.2).1==root))
theorem Z4Y (root count:Int)(e:Z0)(p:Xw)(he:ZL e<=1050000)(hp:QC p<=1050000):Ub root count e p=some (Qy root count e p):=by
 unfold Ub Qy
 refine Za (Z56 e he) (Za (Z7M _ _ _ _ hp) ?_)
 generalize Z0g (WR e) p.1 count p.2=y
 cases hy:y.2 with
 |false=>rw[Bool.false_and,Bool.and_false];rfl
 |true=>
  refine cT rfl (Za (Z54 e he) ?_)
  cases QI e with
  |false=>rfl
  |true=>exact cT rfl (Za (Z58 _ _) rfl)
def eZ :Z0:=((⟨#[]⟩:ByteArray),(0:Int),(0:Int),[])
def pZ :Xw:=((0:Int),[])
def Z04 (e:Z0)(p:Xw):Bool:=UQ e eZ&&Z0n p pZ
theorem Z5f (e:Z0)(he:ZL e<=1050000):Ut e=some (UQ e eZ):=Za (Z1Y e eZ he) rfl
theorem Z5g (p:Xw)(hp:QC p<=1050000):Uu p=some (Z0n p pZ):=Za (Z2F p pZ hp) rfl
def Z17 (root count:Int)(e:Z0)(p:Xw)(at_:Int):Bool:=bif Xf at_ 0 (IntKind.i64.wrap (count-1))then Qy root count e p&&(p.1==at_)else Z04 e p
theorem Z5z (root count:Int)(e:Z0)(p:Xw)(at_:Int)(he:ZL e<=1050000)(hp:QC p<=1050000):UF root count e p at_=some (Z17 root count e p at_):=by
 unfold UF Z17
 refine Za (Z1K _ _ _) ?_
 cases Xf at_ 0 (IntKind.i64.wrap (count-1))with
 |false=>
  refine cT rfl (Za (Z5f e he) ?_)
  unfold Z04
  cases UQ e eZ with
  |false=>rfl
  |true=>exact cT rfl (Za (Z5g p hp) rfl)
 |true=>
  refine cF rfl (Za (Z4Y root count e p he hp) ?_)
  cases Qy root count e p<;>rfl
def Z2m (root count:Int)(label:ByteArray)(g:Y5):Bool:=bif YZ g==(0:Int)then Z04 (Wz g) (WT g)else Qy root count (Wz g) (WT g)&&(((WT g).1==YZ g-1)&&(W0 (Wz g).1 label== -1))
def Z2n (root count:Int)(label:ByteArray)(g:Y5):Bool:=bif YZ g==count then Z04 (Wy g) (WU g)else Qy root count (Wy g) (WU g)&&(((WU g).1==YZ g)&&(W0 (Wy g).1 label==1))
def Z2o (root count:Int)(label:ByteArray)(g:Y5):Bool:=XS label&&(Xf (YZ g) 0 count&&(!((count==(0:Int))&&(root !=Z02 []))&&(Z2m root count label g&&Z2n root count label g)))
theorem Z75 (g:Y5)(hx:Z03 g<=1050000):ZL (Wz g)<=1050000/\ZL (Wy g)<=1050000/\QC (WT g)<=1050000/\QC (WU g)<=1050000:=by
 unfold Z03 at hx
 exact⟨by omega,by omega,by omega,by omega⟩
theorem Z6T :Zo []<=1050000:=by show 0<=_;omega
theorem Z6J (a b:ByteArray):decide (W0 a b<0)=(W0 a b== -1):=by
 rcases Z3e a b with h|h|h<;>rw[h]<;>rfl
theorem Z4r (a b:ByteArray):decide (W0 a b>0)=(W0 a b==1):=by
 rcases Z3e a b with h|h|h<;>rw[h]<;>rfl
def Z2l (count:Int)(label:ByteArray)(g:Y5):Bool:=((YZ g==(0:Int))||(W0 (Wz g).1 label== -1))&&((YZ g==count)||(W0 (Wy g).1 label==1))
theorem Z78 (count:Int)(label:ByteArray)(g:Y5):ZB.l11 count label g=some (Z2l count label g):=by
 unfold ZB.l11 Z2l
 show(bif(YZ g==(0:Int))then _ else _)=_
 cases(YZ g==(0:Int))with
 |true=>
  refine cT rfl ?_
  cases(YZ g==count)with
  |true=>rfl
  |false=>exact cF rfl (Za (Z1X _ _) (by rw[Z4r];rfl))
 |false=>
  refine cF rfl (Za (Z1X _ _) ?_)
  rw[Z6J]
  cases(W0 (Wz g).1 label== -1)with
  |false=>rfl
  |true=>
   refine cT rfl ?_
   cases(YZ g==count)with
   |true=>rfl
   |false=>exact cF rfl (Za (Z1X _ _) (by rw[Z4r];rfl))
theorem Z79 (root count:Int)(label:ByteArray)(g:Y5)(hl:label.size<=1050000)(hx:Z03 g<=1050000)(hc:0<=count/\count<=12):ZB root count label g=some (Z2o root count label g):=by
 obtain⟨h1,h2,h3,h4⟩:=Z75 g hx
 unfold ZB Z2o
 refine Za (Z20 label hl) ?_
 cases XS label with
 |false=>rfl
 |true=>
  refine cF rfl (Za (Z1K _ _ _) ?_)
  cases ha:Xf (YZ g) 0 count with
  |false=>rfl
  |true=>
   have hr:=(WQ _ _ _).1 ha
   have ew:IntKind.i64.wrap (YZ g-(1:Int))=YZ g-1:=w64 (by omega) (by omega)
   have ec:IntKind.i64.wrap (count-(1:Int))=count-1:=w64 (by omega) (by omega)
   have h7:ZB.l7 root count label g=some (Z2m root count label g&&Z2n root count label g):=by
    unfold ZB.l7
    refine Za (Z5z root count _ _ _ h1 h3) ?_
    rw[ew]
    have key:(bif !Z17 root count (Wz g) (WT g) (YZ g-1)then some false else bif !Z17 root count (Wy g) (WU g) (YZ g)then some false else some (Z2l count label g))=some (Z2m root count label g&&Z2n root count label g):=by
     unfold Z17 Z2m Z2n Z2l
     rw[ec]
     by_cases e0:YZ g=0
     ·have i1:Xf (YZ g-1) 0 (count-1)=false:=by
       cases hb:Xf (YZ g-1) 0 (count-1)with
       |false=>rfl
       |true=>have:=(WQ _ _ _).1 hb;omega
      have b0:(YZ g==(0:Int))=true:=by rw[e0];rfl
      rw[i1,b0,cond_f,cond_t,Bool.true_or,Bool.true_and]
      by_cases e1:YZ g=count
      ·have i2:Xf (YZ g) 0 (count-1)=false:=by
        cases hb:Xf (YZ g) 0 (count-1)with
        |false=>rfl
        |true=>have:=(WQ _ _ _).1 hb;omega
       have b1:(YZ g==count)=true:=by rw[e1];exact beq_self_eq_true _
       rw[i2,b1,cond_f,cond_t,Bool.true_or]
       cases Z04 (Wz g) (WT g)<;>cases Z04 (Wy g) (WU g)<;>rfl
      ·have i2:Xf (YZ g) 0 (count-1)=true:=(WQ _ _ _).2 (by omega)
       have b1:(YZ g==count)=false:=by rw[beq_eq_false_iff_ne];exact e1
       rw[i2,b1,cond_t,cond_f,Bool.false_or]
       cases Z04 (Wz g) (WT g)<;>cases Qy root count (Wy g) (WU g)<;>cases((WU g).1==YZ g)<;>cases(W0 (Wy g).1 label==1)<;>rfl
     ·have i1:Xf (YZ g-1) 0 (count-1)=true:=(WQ _ _ _).2 (by omega)
      have b0:(YZ g==(0:Int))=false:=by rw[beq_eq_false_iff_ne];exact e0
      rw[i1,b0,cond_t,cond_f,Bool.false_or]
      by_cases e1:YZ g=count
      ·have i2:Xf (YZ g) 0 (count-1)=false:=by
        cases hb:Xf (YZ g) 0 (count-1)with
        |false=>rfl
        |true=>have:=(WQ _ _ _).1 hb;omega
       have b1:(YZ g==count)=true:=by rw[e1];exact beq_self_eq_true _
       rw[i2,b1,cond_f,cond_t,Bool.true_or,Bool.and_true]
       cases Qy root count (Wz g) (WT g)<;>cases((WT g).1==YZ g-1)<;>cases(W0 (Wz g).1 label== -1)<;>cases Z04 (Wy g) (WU g)<;>rfl
      ·have i2:Xf (YZ g) 0 (count-1)=true:=(WQ _ _ _).2 (by omega)
       have b1:(YZ g==count)=false:=by rw[beq_eq_false_iff_ne];exact e1
       rw[i2,b1,cond_t,cond_f,Bool.false_or]
       cases Qy root count (Wz g) (WT g)<;>cases((WT g).1==YZ g-1)<;>cases(W0 (Wz g).1 label== -1)<;>cases Qy root count (Wy g) (WU g)<;>cases((WU g).1==YZ g)<;>cases(W0 (Wy g).1 label==1)<;>rfl
    refine Eq.trans ?_ key
    cases Z17 root count (Wz g) (WT g) (YZ g-1)with
    |false=>rfl
    |true=>
     refine cF rfl (Za (Z5z root count _ _ _ h2 h4) ?_)
     cases Z17 root count (Wy g) (WU g) (YZ g)with
     |false=>rfl
     |true=>exact Z78 count label g
   refine cF rfl ?_
   cases(count==(0:Int))with
   |false=>exact cF rfl h7
   |true=>
    refine cT rfl (Za (Z59 [] Z6T) ?_)
    cases(root !=Z02 [])with
    |true=>rfl
    |false=>exact cF rfl h7
theorem Z4h (a:Zk){n:Nat}(hx:Q2 a<=n):X6 (Yh a)<=n/\ZL (XY a)<=n/\QC (U6 a)<=n/\Z03 (U5 a)<=n:=by
 unfold Q2 at hx
 exact⟨by omega,by omega,by omega,by omega⟩
def proved (h:Z5)(label:ByteArray)(a:Zk):Bool:=bif UM a then((XY a).1.toList==label.toList)&&(Qy (ZY h) (ZH h) (XY a) (U6 a)&&Z1m (U5 a) Up)else Z2o (ZY h) (ZH h) label (U5 a)&&Z04 (XY a) (U6 a)
theorem Z7G (h:Z5)(label:ByteArray)(a:Zk)(hl:label.size<=1050000)(hx:Q2 a<=1050000)(hc:0<=ZH h/\ZH h<=12):XQ h label a=some (proved h label a):=by
 obtain⟨h1,h2,h3,h4⟩:=Z4h a hx
 unfold XQ proved
 cases UM a with
 |true=>
  refine cT rfl ?_
  rw[cond_t]
  cases((XY a).1.toList==label.toList)with
  |false=>rfl
  |true=>
   refine cT rfl (Za (Z4Y _ _ _ _ h2 h3) ?_)
   cases Qy (ZY h) (ZH h) (XY a) (U6 a)with
   |false=>rfl
   |true=>exact cT rfl (Za (Z50 _ _ h4) rfl)
 |false=>
  refine cF rfl (Za (Z79 _ _ label _ hl h4 hc) ?_)
  rw[cond_f]
  unfold Z04
  cases Z2o (ZY h) (ZH h) label (U5 a)with
  |false=>rfl
  |true=>
   refine cT rfl (Za (Z5f _ h2) ?_)
   cases UQ (XY a) eZ with
   |false=>rfl
   |true=>exact cT rfl (Za (Z5g _ h3) rfl)
def Z0j (a:Zk):Z5:=Zb (Ux (Yh a))
def Z0Y (zone:Int)(label:ByteArray)(a:Zk)(now:Int):Int:=bif !W5 (Yh a)then 3 else bif ZS (Z0j a) !=zone then 2 else bif !Xf now (Zt (Z0j a)) (ZZ (Z0j a))then 4 else bif Zr (Z0j a)then 5 else bif !proved (Z0j a) label a then 6 else 1
theorem Z7R (x:Z5)(h:Xk x=true):0<=ZH x/\ZH x<=12:=by
 unfold Xk at h
 simp only[Bool.and_eq_true]at h
 have h1:=h.2.2.1
 unfold W7 at h1
 simp only[Bool.and_eq_true,decide_eq_true_eq]at h1
 exact h1
theorem Z8p (xs:List Z4)(h:W5 xs=true):0<=ZH (Zb (Ux xs))/\ZH (Zb (Ux xs))<=12:=by
 obtain⟨hlt,hle⟩:=Z5u xs h
 rw[hle]
 exact Z7R _ (Z3d xs h _ hlt)
theorem caL (f:Option Bool)(zone now:Int)(h:Z5)(v:Bool)(hf:f=some v)(fr:Option Bool)(hr:fr=some (Xf now (Zt h) (ZZ h))):(bif ZS h !=zone then some (2:Int)else fr.bind λy2=>bif !y2 then some (4:Int)else bif Zr h then some (5:Int)else f.bind λy3=>bif !y3 then some (6:Int)else some (1:Int))=some (bif ZS h !=zone then 2 else bif !Xf now (Zt h) (ZZ h)then 4 else bif Zr h then 5 else bif !v then 6 else 1):=by
 subst hf hr
 rw[bind_s,bind_s]
 cases(ZS h !=zone)<;>cases Xf now (Zt h) (ZZ h)<;>cases Zr h<;>cases v<;>rfl
theorem Z7f (zone:Int)(label:ByteArray)(a:Zk)(now:Int)(hl:label.size<=1050000)(hx:Q2 a<=1050000):XJ zone label a now=some (Z0Y zone label a now):=by
 obtain⟨h1,h2,h3,h4⟩:=Z4h a hx
 unfold XJ Z0Y
 refine Za (Z7y _ h1) ?_
 rw[(Z0K (Yh a)).1]
 cases hc:W5 (Yh a)with
 |false=>rfl
 |true=>
  rw[(Z0K (Yh a)).2 hc]
  exact caL _ zone now (Z0j a) _ (Z7G (Z0j a) label a hl hx (Z8p _ hc)) _ (Za (Z1K _ _ _) rfl)
theorem Z4x {α β:Type}(xs:List α)(d:α)(f:α->Option α)(out:List α->β)(hl:xs.length<=1050000)(hf:∀i (h:i<xs.length),f xs[i]=some xs[i])(l:Nat->List α->Int->Option β)(u:∀n ys a,l (n+1) ys a=(bif decide (a<(xs.length:Int))then bif decide (0<=a)then bif decide (a<(xs.length:Int))then(f (xs.getD a.toNat d)).bind λy1=>bif decide (ys.length+[y1].length<68719476736)then l n (ys++[y1]) (IntKind.i64.wrap (a+(1:Int)))else none else none else none else some (out ys))):l KK [] (0:Int)=some (out xs):=by
 have hh:∀i n,i<=xs.length->xs.length-i<n->l n (xs.take i) (i:Int)=some (out xs):=by
  refine idx_ind ?_ ?_
  ·intro n
   rw[u]
   simp only[lt_f (Nat.le_refl _),cond_f,List.take_length]
  ·intro i n hi ih
   rw[u]
   have hg:(xs.take i).length+[xs[i]].length<68719476736:=by rw[List.length_take];show _+1<_;omega
   simp only[lt_t hi,ge_t,cond_t,Int.toNat_natCast,at_n hi,hf i hi,bind_s,w64_succ (i:=i) (by omega),List.take_append_getElem hi]
   rw[decide_eq_true hg,cond_t]
   exact ih
 have:=hh 0 KK (Nat.zero_le _) (KK_gt (by omega))
 rw[List.take_zero]at this
 exact this
theorem Z5o (s:Z8)(hx:Wv s<=1050000):Yt s=some s:=by
 have hz:=Z0P s hx
 refine Z4x s.1 YN We (λys=>((ys,s.2):Z8)) (by unfold U1 ZX at hz;omega) (λi h=>Z27 _ (Z0y h hz)) (λn ys a=>Yt.l6 s n a ys) (λn ys a=> ?_)
 rw[Yt.u6]
 simp only[Yt.g6,both_eq]
theorem Z6M (s:Z8)(hx:Wv s<=1050000):YH s=some s:=by
 have hz:=Z0P s hx
 refine Z4x s.1 YN WI (λys=>((ys,s.2):Z8)) (by unfold U1 ZX at hz;omega) (λi h=>Z4y _ (Z0y h hz)) (λn ys a=>YH.l6 s n (s.1.length:Int) a ys) (λn ys a=> ?_)
 rw[YH.u6]
 simp only[YH.g6,both_eq]
theorem Z4N {α:Type}(p:α->Bool)(xs:List α):∀k:Int,Wl p xs k= -1∨Wl p xs k<k+xs.length:=by
 induction xs with
 |nil=>intro k;exact .inl rfl
 |cons x t ih=>
  intro k
  rw[Z0r,List.length_cons]
  cases p x with
  |true=>rw[cond_t];right;omega
  |false=>rw[cond_f];rcases ih (k+1)with h|h
          ·exact .inl h
          ·right;omega
theorem Z0O (s:Z8)(z:Int)(h:0<=Xs s z):Xs s z<(s.1.length:Int):=by
 unfold Xs at h⊢
 revert h
 cases decide (z<0)with
 |true=>rw[cond_t];intro h;omega
 |false=>
  rw[cond_f]
  intro h
  rcases Z4N (λt=>Xr t==z) s.1 0 with e|e
  ·omega
  ·omega
def Z1e (s:Z8)(z:Z7):Wf:=bif decide (Xs s (Xr z)>=0)then UC (s.1.set (Xs s (Xr z)).toNat z,s.2) true else bif decide ((s.1.length:Int)>=(8:Int))then UC s false else UC (s.1++[z],s.2) true
def store (s:Z8)(z:Z7):Wf:=bif QW s&&Xg z then Z1e s z else UC s false
theorem stL (s:Z8)(z:Z7)(hx:Wv s<=1050000)(cz:Option Z7)(hc:cz=some z)(e1:Option Int)(h1:e1=some (Xr z))(e2:Int->Option Int)(h2:e2 (Xr z)=some (Xs s (Xr z))):(e1.bind λy3=>(e2 y3).bind λy4=>bif decide (y4>=(0:Int))then cz.bind λy5=>bif decide (0<=y4)then bif decide (y4<(s.1.length:Int))then some (UC (s.1.set y4.toNat y5,s.2) true)else none else none else bif decide ((s.1.length:Int)>=(8:Int))then some (UC s false)else cz.bind λy6=>bif decide (s.1.length+[y6].length<68719476736)then some (UC (s.1++[y6],s.2) true)else none)=some (Z1e s z):=by
 have hz:=Z0P s hx
 have hl:s.1.length<=1050000:=by unfold U1 ZX at hz;omega
 subst h1 hc
 rw[bind_s,h2,bind_s,bind_s,bind_s]
 unfold Z1e
 by_cases h:Xs s (Xr z)>=0
 ·rw[decide_eq_true h,cond_t,cond_t]
  first|exact cT (decide_eq_true h) (cT (decide_eq_true (Z0O s _ h)) rfl)|exact cT (decide_eq_true (Z0O s _ h)) rfl
 ·rw[decide_eq_false h,cond_f,cond_f]
  cases decide ((s.1.length:Int)>=(8:Int))with
  |true=>rfl
  |false=>exact cF rfl (cT (decide_eq_true (by show _+1<_;omega)) rfl)
theorem Z5T (s:Z8)(z:Z7)(hx:Wv s<=1050000)(hz:Xq z<=1050000):X5 s z=some (store s z):=by
 unfold X5 store
 refine Za (Z5o s hx) (Za (Z5M s hx) ?_)
 cases QW s with
 |false=>rfl
 |true=>
  refine cF rfl (Za (Z1A z hz) ?_)
  cases Xg z with
  |false=>rfl
  |true=>
   unfold X5.l7
   simp only[X5.g7,both_eq]
   exact cF rfl (stL s z hx (We z) (Z27 z hz) _ (Z31 z hz) (λy=>Ya s y) (Z5R s _ hx))
theorem Z7J (s:Z8)(z:Z7)(hx:Wv s<=1050000)(hz:Xq z<=1050000):Xb s z=some (store s z):=by
 unfold Xb store
 refine Za (Z6M s hx) (Za (Z55 s hx) ?_)
 cases QW s with
 |false=>rfl
 |true=>
  refine cF rfl (Za (Z2H z hz) ?_)
  cases Xg z with
  |false=>rfl
  |true=>
   unfold Xb.l7
   simp only[Xb.g7,both_eq]
   exact cF rfl (stL s z hx (WI z) (Z4y z hz) _ (Z5b z hz) (λy=>Wu s y) (Z2L s _ hx))
theorem Z9D (xs:List Z7)(z:Z7):∀i,((xs.set i z).map Xq).sum<=(xs.map Xq).sum+Xq z:=by
 induction xs with
 |nil=>intro i;simp
 |cons x t ih=>
  intro i
  cases i with
  |zero=>simp only[List.set_cons_zero,List.map_cons,List.sum_cons];omega
  |succ i=>have:=ih i;simp only[List.set_cons_succ,List.map_cons,List.sum_cons];omega
theorem Z40 {α:Type}(f:α->Nat)(B:Nat)(xs:List α)(h:∀x∈xs,f x<=B):(xs.map f).sum<=xs.length*B:=by
 induction xs with
 |nil=>simp
 |cons x t ih=>
  have h1:=h x (List.mem_cons_self)
  have h2:=ih (λy hy=>h y (List.mem_cons_of_mem _ hy))
  rw[List.map_cons,List.sum_cons,List.length_cons,Nat.add_mul]
  omega
theorem Z7U (p:List ByteArray)(h:Z14 p=true):XE p<=36:=by
 unfold Z14 at h
 simp only[Bool.and_eq_true,decide_eq_true_eq,List.all_eq_true]at h
 have:=Z40 Wi 8 p (λx hx=>(Z5e x (h.2 x hx)).2)
 unfold XE ZX
 omega
theorem Z7Q (e:Z0)(h:QI e=true):ZL e<=44:=by
 unfold QI at h
 rw[Bool.and_eq_true]at h
 have h1:=(Z5e e.1 h.1).2
 have h0:∀p:List ByteArray,((p.length:Int)==(0:Int))=true->XE p<=36:=by
  intro p hp
  have:p=[]:=List.eq_nil_of_length_eq_zero (by have:=eq_of_beq hp;omega)
  subst this
  exact Nat.zero_le _
 have h2:XE e.2.2.2<=36:=by
  have h:=h.2
  revert h
  cases e.2.1==(1:Int)with
  |true=>rw[cond_t,Bool.and_eq_true];exact λh=>h0 _ h.2
  |false=>
   cases e.2.1==(2:Int)with
   |true=>rw[cond_f,cond_t,Bool.and_eq_true];exact λh=>h0 _ h.2
   |false=>
    cases e.2.1==(3:Int)with
    |true=>rw[cond_f,cond_f,cond_t,Bool.and_eq_true];exact λh=>Z7U _ h.2
    |false=>rw[cond_f,cond_f,cond_f];exact λh=>nomatch h
 unfold ZL Wi
 omega
theorem Z4j (xs:List Z0)(h:WA xs=true):∀x∈xs,QI x=true:=by
 unfold WA at h
 rw[Bool.and_eq_true,Z1l]at h
 intro x hx
 obtain⟨i,hi,rfl⟩:=List.getElem_of_mem hx
 have:=h.1 i hi
 rw[at_n hi,Bool.and_eq_true]at this
 exact this.1
theorem Z3y (z:Z7)(h:Xg z=true):WA z.2=true:=by
 unfold Xg Z0X at h
 simp only[Bool.and_eq_true]at h
 exact h.2.2.1
def W3 (xs:List Z0)(l:ByteArray):Int:=Wl (λe=>e.1.toList==l.toList) xs 0
def UA (i:Nat):Nat:=bif decide (i%2=0)then i+1 else i-1
def pf :Nat->List Int->Nat->List Int
 |0,_,_=>[]
 |k+1,l,i=>bif decide ((l.length:Int)>(1:Int))then(bif decide (UA i<l.length)then [l.getD (UA i) 0]else [])++pf k (up l) (i/2)else []
def UH (l:List Int)(i:Int):List Int:=bif Xf i 0 ((l.length:Int)-1)then pf KK l i.toNat else []
theorem Z5D :∀(k:Nat) (l:List Int) (i:Nat),(pf k l i).length<=l.length
 |0,l,i=>Nat.zero_le _
 |k+1,l,i=>by
  unfold pf
  by_cases h:(l.length:Int)>1
  ·rw[decide_eq_true h,cond_t,List.length_append]
   have h1:=Z5D k (up l) (i/2)
   have h2:=Z1H l
   have h3:(bif decide (UA i<l.length)then [l.getD (UA i) 0]else []).length<=1:=by cases decide (UA i<l.length)<;>simp
   omega
  ·rw[decide_eq_false h,cond_f];exact Nat.zero_le _
theorem Z8H (l:List Int)(i:Int):(UH l i).length<=l.length:=by
 unfold UH
 cases Xf i 0 ((l.length:Int)-1)with
 |false=>exact Nat.zero_le _
 |true=>exact Z5D _ _ _
theorem Z9F (i:Nat)(h:i<12):(bif decide (i%2=0)then(i:Int)+1 else(i:Int)-1)=((UA i:Nat):Int):=by
 unfold UA
 by_cases e:i%2=0
 ·rw[decide_eq_true e,cond_t,cond_t];omega
 ·rw[decide_eq_false e,cond_f,cond_f];omega
theorem Z9E (i:Nat)(h:i<12):IntKind.i64.wrap ((IntKind.i64.wrap ((i:Int)+(1:Int)))-(IntKind.i64.wrap ((2:Int)*(Int.tmod (i:Int) (2:Int)))))=((UA i:Nat):Int):=by
 rw[Z41,w64 (n:=(i:Int)+1) (by omega) (by omega),w64 (n:=(2:Int)*((i%2:Nat):Int)) (by omega) (by omega),w64 (by omega) (by omega)]
 unfold UA
 by_cases e:i%2=0
 ·rw[decide_eq_true e,cond_t];omega
 ·rw[decide_eq_false e,cond_f];omega
theorem Z7E :∀(m:Nat) (l:List Int) (i:Nat) (out:List Int),l.length<m->l.length<=12->i<12->out.length+l.length<=1000->YD.l8 m l (i:Int) out=some (out++pf m l i):=by
 intro m
 induction m with
 |zero=>intro l i out h0;omega
 |succ m ih=>
  intro l i out h0 h1 h2 h3
  have hu:=Z1H l
  rw[YD.u8]
  unfold pf
  by_cases h:(l.length:Int)>1
  ·refine cT (decide_eq_true h) ?_
   rw[decide_eq_true h,cond_t,Z68 i h2,Z9F i h2]
   have next:∀o:List Int,o.length<=out.length+1->YD.l8 m (up l) (IntKind.i64.wrap (Int.tdiv (i:Int) (2:Int))) o=some (o++pf m (up l) (i/2)):=by
    intro o ho
    rw[Z33 i (by omega)]
    exact ih (up l) (i/2) o (by omega) (by omega) (by omega) (by omega)
   by_cases hs:UA i<l.length
   ·rw[decide_eq_true hs]
    refine cT (lt_t hs) (cT ge_t (cT (lt_t hs) (cT (decide_eq_true (by show _+1<_;omega)) (Za (Z3u l (by omega)) ?_))))
    rw[Int.toNat_natCast]
    refine(next (out++[l.getD (UA i) 0]) (by rw[List.length_append];show _+1<=_;omega)).trans ?_
    rw[List.append_assoc];rfl
   ·rw[decide_eq_false hs]
    refine cF (lt_f (by omega)) (Za (Z3u l (by omega)) ?_)
    exact next out (by omega)
  ·refine cF (decide_eq_false h) ?_
   rw[decide_eq_false h,cond_f,List.append_nil]
theorem Z9n :∀(m:Nat) (l:List Int) (i:Nat) (out:List Int),l.length<m->l.length<=12->i<12->out.length+l.length<=1000->Zy.l10 m (i:Int) l out=some (out++pf m l i):=by
 intro m
 induction m with
 |zero=>intro l i out h0;omega
 |succ m ih=>
  intro l i out h0 h1 h2 h3
  have hu:=Z1H l
  rw[Zy.u10]
  unfold pf
  by_cases h:(l.length:Int)>1
  ·refine cT (decide_eq_true h) ?_
   rw[decide_eq_true h,cond_t,Z9E i h2]
   have next:∀o:List Int,o.length<=out.length+1->Zy.l19 (i:Int) l (Zy.l10 m) o=some (o++pf m (up l) (i/2)):=by
    intro o ho
    refine Za (Z5V l (by omega)) ?_
    show Zy.l10 m (IntKind.i64.wrap (Int.tdiv (i:Int) (2:Int))) (up l) o=_
    rw[Z33 i (by omega)]
    exact ih (up l) (i/2) o (by omega) (by omega) (by omega) (by omega)
   refine cF Z42 ?_
   by_cases hs:UA i<l.length
   ·rw[decide_eq_true hs]
    refine cT (lt_t hs) (cT ge_t (cT (lt_t hs) (cT (decide_eq_true (by show _+1<_;omega)) ?_)))
    rw[Int.toNat_natCast]
    refine(next (out++[l.getD (UA i) 0]) (by rw[List.length_append];show _+1<=_;omega)).trans ?_
    rw[List.append_assoc];rfl
   ·rw[decide_eq_false hs]
    refine cF (lt_f (by omega)) ?_
    exact next out (by omega)
  ·refine cF (decide_eq_false h) ?_
   rw[decide_eq_false h,cond_f,List.append_nil]
theorem Z9m (l:List Int)(i:Int)(hl:l.length<=12):Zy l i=some (UH l i):=by
 unfold Zy UH
 refine Za (Z85 _ _ _) ?_
 rw[w64 (n:=(l.length:Int)-1) (by omega) (by omega)]
 cases hi:Xf i 0 ((l.length:Int)-1)with
 |false=>rfl
 |true=>
  have h2:=(WQ _ _ _).1 hi
  refine cF rfl ?_
  have:=Z9n KK l i.toNat [] (KK_gt (by omega)) hl (by omega) (by show 0+_<=_;omega)
  rw[Int.toNat_of_nonneg h2.1]at this
  exact this
theorem Z7D (l:List Int)(i:Int)(hl:l.length<=12):YD l i=some (UH l i):=by
 unfold YD UH
 refine Za (Z1K _ _ _) ?_
 rw[w64 (n:=(l.length:Int)-1) (by omega) (by omega)]
 cases hi:Xf i 0 ((l.length:Int)-1)with
 |false=>rfl
 |true=>
  have h2:=(WQ _ _ _).1 hi
  refine cF rfl ?_
  have:=Z7E KK l i.toNat [] (KK_gt (by omega)) hl (by omega) (by show 0+_<=_;omega)
  rw[Int.toNat_of_nonneg h2.1]at this
  exact this
theorem Z3P (xs:List Z0)(l:ByteArray)(hx:xs.length<=1050000):Y6 xs l=some (W3 xs l):=by
 have hh:∀i n,i<=xs.length->xs.length-i<n->Y6.l4 xs l n (i:Int)=some (Wl (λe=>e.1.toList==l.toList) (xs.drop i) (i:Int)):=by
  refine idx_ind ?_ ?_
  ·intro n
   rw[Y6.u4]
   simp only[Y6.g4,lt_f (Nat.le_refl _),cond_f,Z2B]
  ·intro i n hi ih
   rw[Y6.u4]
   simp only[Y6.g4,lt_t hi,ge_t,cond_t,w64_succ (i:=i) (by omega),Int.toNat_natCast,at_n hi,Z2C _ hi,ih]
   cases(xs[i].1.toList==l.toList)<;>rfl
 have h:=hh 0 KK (Nat.zero_le _) (KK_gt (by omega))
 rw[List.drop_zero]at h
 exact h
theorem Z3q (xs:List Z0)(l:ByteArray)(hx:xs.length<=1050000):WO xs l=some (W3 xs l):=
 Za (Z2M xs Zw (λe=>Qp e l) (λe=>e.1.toList==l.toList) hx (λi h=>rfl) (X1.l4 xs ((),l)) (λn L a=>X1.u4 xs ((),l) n L a)) rfl
theorem Z70 (xs:List Z0)(l:ByteArray):W3 xs l<(xs.length:Int):=by
 rcases Z4N (λe:Z0=>e.1.toList==l.toList) xs 0 with e|e
 ·unfold W3;omega
 ·unfold W3;omega
def Z01 (xs:List Z0)(l:ByteArray):Z0i:=bif decide (W3 xs l<0)then Z1P else Z1h (W3 xs l,UH (leaves xs) (W3 xs l)) true
theorem Z3U (xs:List Z0)(l:ByteArray)(hx:Zo xs<=1050000)(hl:xs.length<=12):U2 xs l=some (Z01 xs l):=by
 unfold U2 Z01
 refine Za (Z3P xs l (by omega)) ?_
 cases decide (W3 xs l<0)with
 |true=>rfl
 |false=>exact cF rfl (Za (Z5O xs hx) (Za (Z9m _ _ (by rw[Z1v];exact hl)) rfl))
theorem Z3t (xs:List Z0)(l:ByteArray)(hx:Zo xs<=1050000)(hl:xs.length<=12):WZ xs l=some (Z01 xs l):=by
 unfold WZ Z01
 refine Za (Z3q xs l (by omega)) ?_
 cases decide (W3 xs l<0)with
 |true=>rfl
 |false=>exact cF rfl (Za (Z57 xs hx) (Za (Z7D _ _ (by rw[Z1v];exact hl)) rfl))
theorem Z8J (xs:List Z0)(l:ByteArray):QC (UO (Z01 xs l))<=xs.length:=by
 unfold Z01
 cases decide (W3 xs l<0)with
 |true=>exact Nat.zero_le _
 |false=>
  rw[cond_f,(Z49 _ _).1]
  have:=Z8H (leaves xs) (W3 xs l)
  rw[Z1v]at this
  exact this
def rk (xs:List Z0)(l:ByteArray):Nat:=xs.countP λe=>decide (W0 e.1 l<0)
theorem Z5G (xs:List Z0)(l:ByteArray):rk xs l<=xs.length:=List.countP_le_length
theorem Z5F (xs:List Z0)(l:ByteArray)(hx:xs.length<=1050000)(f:ByteArray->ByteArray->Option Int)(hf:∀a b,f a b=some (W0 a b))(g:Nat->Int->Int->Option Int)(u:∀n c a,g (n+1) c a=(bif decide (a<(xs.length:Int))then bif decide (0<=a)then bif decide (a<(xs.length:Int))then(f (xs.getD a.toNat Zw).1 l).bind λy1=>bif decide (y1<(0:Int))then g n (IntKind.i64.wrap (c+(1:Int))) (IntKind.i64.wrap (a+(1:Int)))else g n c (IntKind.i64.wrap (a+(1:Int)))else none else none else some c)):g KK (0:Int) (0:Int)=some (rk xs l:Int):=by
 have hh:∀i n,i<=xs.length->xs.length-i<n->∀c:Nat,c<=i->g n (c:Int) (i:Int)=some ((c+rk (xs.drop i) l:Nat):Int):=by
  refine idx_ind ?_ ?_
  ·intro n c hc
   rw[u]
   simp only[lt_f (Nat.le_refl _),cond_f,List.drop_length]
   rfl
  ·intro i n hi ih c hc
   rw[u]
   simp only[lt_t hi,ge_t,cond_t,Int.toNat_natCast,at_n hi,hf,bind_s,w64_succ (i:=i) (by omega),w64_succ (i:=c) (by omega)]
   rw[ih c (by omega),ih (c+1) (by omega),List.drop_eq_getElem_cons hi]
   unfold rk
   rw[List.countP_cons]
   cases decide (W0 xs[i].1 l<0)with
   |true=>rw[cond_t,if_pos rfl];congr 1;omega
   |false=>rw[cond_f,if_neg (by decide)];rfl
 have:=hh 0 KK (Nat.zero_le _) (KK_gt (by omega)) 0 (Nat.le_refl _)
 rw[List.drop_zero,Nat.zero_add]at this
 exact this
theorem Z9q (xs:List Z0)(l:ByteArray)(hx:xs.length<=1050000):YY xs l=some (rk xs l:Int):=Z5F xs l hx WE Z3O (λn c a=>YY.l6 xs l n c a) (λn c a=>YY.u6 xs l n c a)
theorem Z7H (xs:List Z0)(l:ByteArray)(hx:xs.length<=1050000):YQ xs l=some (rk xs l:Int):=Z5F xs l hx Ws Z1X (λn c a=>YQ.l6 xs l n c (xs.length:Int) a) (λn c a=>YQ.u6 xs l n c (xs.length:Int) a)
def Z0G (xs:List Z0)(k:Nat)(B:Z0)(L:Xw):Y5:=bif decide (k<xs.length)then QO (k:Int) B (xs.getD k Zw) L (UO (Z01 xs (xs.getD k Zw).1))else QO (k:Int) B Zw L Ua
def Z1p (xs:List Z0)(k:Nat):Y5:=bif decide (0<k)then Z0G xs k (xs.getD (k-1) Zw) (UO (Z01 xs (xs.getD (k-1) Zw).1))else Z0G xs k Zw Ua
def Z0M (xs:List Z0)(l:ByteArray):Wr:=bif WA xs&&(XS l&& !decide (W3 xs l>=0))then QQ (Z1p xs (rk xs l)) true else Z0B
theorem Z1R (xs:List Z0)(i:Nat)(hx:Zo xs<=1050000):ZL (xs.getD i Zw)<=1050000:=by
 by_cases h:i<xs.length
 ·rw[at_n h];exact Z0D h hx
 ·have e:xs.getD i Zw=Zw:=by simp[List.getD,show xs.length<=i by omega]
  rw[e];exact Nat.zero_le _
theorem Z5L (xs:List Z0)(k:Nat)(B:Z0)(L:Xw)(hx:Zo xs<=1050000)(hl:xs.length<=12):ZP.l17 xs (k:Int) B.1 B.2.1 B.2.2.1 L.1 B.2.2.2 L.2=some (QQ (Z0G xs k B L) true):=by
 unfold ZP.l17 Z0G
 by_cases h:k<xs.length
 ·rw[decide_eq_true h,cond_t]
  refine cT (lt_t h) (cT ge_t (cT (lt_t h) (Za (Z15 _ (Z1R xs _ hx)) (cT ge_t (cT (lt_t h) (Za (Z3U xs _ hx hl) ?_))))))
  rw[Int.toNat_natCast]
 ·rw[decide_eq_false h,cond_f]
  exact cF (lt_f (by omega)) rfl
theorem Z52 (xs:List Z0)(k:Nat)(B:Z0)(L:Xw)(hx:Zo xs<=1050000)(hl:xs.length<=12):ZN.l15 xs (k:Int) B.1 B.2.1 B.2.2.1 L.1 B.2.2.2 L.2=some (QQ (Z0G xs k B L) true):=by
 unfold ZN.l15 Z0G
 by_cases h:k<xs.length
 ·rw[decide_eq_true h,cond_t]
  refine cT (lt_t h) (cT ge_t (cT (lt_t h) (Za (Z2t _ (Z1R xs _ hx)) (Za (Z3t xs _ hx hl) ?_))))
  rw[Int.toNat_natCast]
 ·rw[decide_eq_false h,cond_f]
  exact cF (lt_f (by omega)) rfl
theorem Z3N (xs:List Z0)(l:ByteArray)(v:Bool)(hx:Zo xs<=1050000)(hl:xs.length<=12):ZP.l5 xs l v=some (bif v then Z0B else QQ (Z1p xs (rk xs l)) true):=by
 cases v with
 |true=>rfl
 |false=>
  refine Za (Z9q xs l (by omega)) ?_
  have hr:=Z5G xs l
  rw[cond_f]
  unfold Z1p
  by_cases h:0<rk xs l
  ·have e:IntKind.i64.wrap ((rk xs l:Int)-(1:Int))=((rk xs l-1:Nat):Int):=by rw[w64 (by omega) (by omega)];omega
   rw[decide_eq_true h,cond_t,e]
   refine cT (decide_eq_true (by omega)) (cT ge_t (cT (lt_t (by omega)) (Za (Z15 _ (Z1R xs _ hx)) (cT ge_t (cT (lt_t (by omega)) (Za (Z3U xs _ hx hl) ?_))))))
   rw[Int.toNat_natCast]
   exact Z5L xs (rk xs l) _ _ hx hl
  ·rw[decide_eq_false h,cond_f]
   exact cF (decide_eq_false (by omega)) (Z5L xs (rk xs l) Zw Ua hx hl)
theorem Z3p (xs:List Z0)(l:ByteArray)(v:Bool)(hx:Zo xs<=1050000)(hl:xs.length<=12):ZN.l5 xs l v=some (bif v then Z0B else QQ (Z1p xs (rk xs l)) true):=by
 cases v with
 |true=>rfl
 |false=>
  refine Za (Z7H xs l (by omega)) ?_
  have hr:=Z5G xs l
  rw[cond_f]
  unfold Z1p
  by_cases h:0<rk xs l
  ·have e:IntKind.i64.wrap ((rk xs l:Int)-(1:Int))=((rk xs l-1:Nat):Int):=by rw[w64 (by omega) (by omega)];omega
   rw[decide_eq_true h,cond_t,e]
   refine cT (decide_eq_true (by omega)) (cT ge_t (cT (lt_t (by omega)) (Za (Z2t _ (Z1R xs _ hx)) (Za (Z3t xs _ hx hl) ?_))))
   rw[Int.toNat_natCast]
   exact Z52 xs (rk xs l) _ _ hx hl
  ·rw[decide_eq_false h,cond_f]
   exact cF (decide_eq_false (by omega)) (Z52 xs (rk xs l) Zw Ua hx hl)
theorem Z9o (xs:List Z0)(l:ByteArray)(hx:Zo xs<=1050000)(hl:xs.length<=12)(hs:l.size<=1050000):ZP xs l=some (Z0M xs l):=by
 unfold ZP Z0M
 refine Za (Z1y xs hx) ?_
 cases WA xs with
 |false=>exact Z3N xs l true hx hl
 |true=>
  refine cF rfl (Za (Z2X l hs) ?_)
  cases XS l with
  |false=>exact Z3N xs l true hx hl
  |true=>
   refine cF rfl (Za (Z3P xs l (by omega)) ?_)
   rw[Z3N xs l _ hx hl]
   cases decide (W3 xs l>=0)<;>rfl
theorem Z7F (xs:List Z0)(l:ByteArray)(hx:Zo xs<=1050000)(hl:xs.length<=12)(hs:l.size<=1050000):ZN xs l=some (Z0M xs l):=by
 unfold ZN Z0M
 refine Za (Z4W xs hx) ?_
 cases WA xs with
 |false=>exact Z3p xs l true hx hl
 |true=>
  refine cF rfl (Za (Z20 l hs) ?_)
  cases XS l with
  |false=>exact Z3p xs l true hx hl
  |true=>
   refine cF rfl (Za (Z3q xs l (by omega)) ?_)
   rw[Z3p xs l _ hx hl]
   cases decide (W3 xs l>=0)<;>rfl
def QS (z:Z7)(l:ByteArray):Zk:=bif decide (W3 z.2 l>=0)then WG z.1 true (z.2.getD (W3 z.2 l).toNat Zw) (UO (Z01 z.2 l)) Up else WG z.1 false Zw Ua (Z0h (Z0M z.2 l))
def U8 (z:Z7)(l:ByteArray):Zk:=bif Xg z&&XS l then QS z l else U9
theorem afL (z:Z7)(l:ByteArray)(hx:Xq z<=1050000)(hs:l.size<=1050000)(cc:Option (List Z4))(h1:cc=some z.1)(ff:Option Int)(h2:ff=some (W3 z.2 l))(ce:Z0->Option Z0)(h3:∀e,ZL e<=1050000->ce e=some e)(pe:Option Z0i)(h4:pe=some (Z01 z.2 l))(pa:Option Wr)(h5:pa=some (Z0M z.2 l)):(cc.bind λy3=>ff.bind λy4=>bif decide (y4>=(0:Int))then bif decide (0<=y4)then bif decide (y4<(z.2.length:Int))then(ce (z.2.getD y4.toNat Zw)).bind λy5=>pe.bind λy6=>some (WG y3 true y5 (UO y6) Up)else none else none else pa.bind λy7=>some (WG y3 false Zw Ua (Z0h y7)))=some (QS z l):=by
 subst h1 h2 h4 h5
 rw[bind_s,bind_s,bind_s]
 unfold QS
 by_cases h:W3 z.2 l>=0
 ·have h':0<=W3 z.2 l:=h
  rw[decide_eq_true (Z70 z.2 l),h3 _ (Z1R z.2 _ (Z1g z hx)),bind_s,bind_s]
  simp only[ge_iff_le,decide_eq_true h',cond_t]
 ·rw[decide_eq_false h,cond_f,cond_f]
theorem Z5H (z:Z7)(l:ByteArray)(hx:Xq z<=1050000)(hs:l.size<=1050000):Xa z l=some (U8 z l):=by
 unfold Xa U8
 refine Za (Z1A z hx) ?_
 cases hz:Xg z with
 |false=>rfl
 |true=>
  have he:=Z1g z hx
  have hl:=Z2p z.2 (Z3y z hz)
  refine cF rfl (Za (Z2X l hs) ?_)
  cases XS l with
  |false=>rfl
  |true=>exact cF rfl (afL z l hx hs _ (Z1u _ (QJ z hx)) _ (Z3P z.2 l (by omega)) W8 Z15 _ (Z3U z.2 l he hl) _ (Z9o z.2 l he hl hs))
theorem Z7a (z:Z7)(l:ByteArray)(hx:Xq z<=1050000)(hs:l.size<=1050000):Xi z l=some (U8 z l):=by
 unfold Xi U8
 refine Za (Z2H z hx) ?_
 cases hz:Xg z with
 |false=>rfl
 |true=>
  have he:=Z1g z hx
  have hl:=Z2p z.2 (Z3y z hz)
  refine cF rfl (Za (Z20 l hs) ?_)
  cases XS l with
  |false=>rfl
  |true=>exact cF rfl (afL z l hx hs _ (Z4v _ (QJ z hx)) _ (Z3q z.2 l (by omega)) Wn Z2t _ (Z3t z.2 l he hl) _ (Z7F z.2 l he hl hs))
def Z2c (y:Zk):Zk:=WG (Yh y) (UM y) ((XY y).1,(XY y).2.1,IntKind.i64.wrap ((XY y).2.2.1+(1:Int)),(XY y).2.2.2) (U6 y) (U5 y)
def Z3L (y:Zk):Zk:=WG ((Yh y).take ((Yh y).length-1)) (UM y) (XY y) (U6 y) (U5 y)
def Z5w (y:Zk):Zk:=WG (Yh y) false Zw Ua Up
def QZ (k:Int)(y:Zk):Zk:=bif k==(1:Int)then Z2c y else bif k==(2:Int)then Z3L y else bif k==(3:Int)then Z5w y else y
def Qm (s:Z8)(zone:Int)(l:ByteArray):Zk:=bif decide (Xs s zone<0)then U9 else bif s.2==(4:Int)then U9 else QZ s.2 (U8 (s.1.getD (Xs s zone).toNat YN) l)
theorem Z69 (xs:List Z7)(i:Nat)(hx:U1 xs<=1050000):Xq (xs.getD i YN)<=1050000:=by
 by_cases h:i<xs.length
 ·rw[at_n h];exact Z0y h hx
 ·have e:xs.getD i YN=YN:=by simp[List.getD,show xs.length<=i by omega]
  rw[e];exact Nat.zero_le _
theorem Z4i (z:Z7)(l:ByteArray)(hx:Xq z<=1050000):(Yh (U8 z l)).length<=1050000:=by
 have h:=QJ z hx
 have h1:z.1.length<=1050000:=by unfold X6 ZX at h;omega
 unfold U8 QS
 cases(Xg z&&XS l)with
 |false=>exact Nat.zero_le _
 |true=>
  cases decide (W3 z.2 l>=0)with
  |true=>rw[cond_t,cond_t,(XZ _ _ _ _ _).1];exact h1
  |false=>rw[cond_t,cond_f,(XZ _ _ _ _ _).1];exact h1
theorem Z8S (s:Z8)(l:ByteArray)(i:Int)(h0:0<=i)(h1:i<(s.1.length:Int))(hx:Wv s<=1050000)(hl:l.size<=1050000):Xh.l9 s l i=some (QZ s.2 (U8 (s.1.getD i.toNat YN) l)):=by
 have hz:=Z69 s.1 i.toNat (Z0P s hx)
 have hc:=Z4i (s.1.getD i.toNat YN) l hz
 refine cT (decide_eq_true h0) (cT (decide_eq_true h1) (Za (Z5H _ l hz hl) ?_))
 generalize U8 (s.1.getD i.toNat YN) l=y at hc⊢
 unfold QZ
 cases hk1:(s.2==(1:Int))with
 |true=>exact cT rfl rfl
 |false=>
  refine cF rfl ?_
  rw[cond_f]
  cases hk2:(s.2==(2:Int))with
  |true=>
   refine cT rfl ?_
   rw[cond_t]
   by_cases hp:0<(Yh y).length
   ·have ew:IntKind.i64.wrap (((Yh y).length:Int)-(1:Int))=(((Yh y).length-1:Nat):Int):=by rw[w64 (by omega) (by omega)];omega
    refine cT (decide_eq_true (by omega)) (cT rfl ?_)
    rw[ew]
    refine cT ge_t (cT (decide_eq_true (by omega)) ?_)
    rw[Int.toNat_natCast];rfl
   ·refine cF (decide_eq_false (by omega)) ?_
    have e:(Yh y).take ((Yh y).length-1)=Yh y:=by
     have:Yh y=[]:=List.eq_nil_of_length_eq_zero (by omega)
     rw[this];rfl
    unfold Z3L
    rw[e,Z6a]
  |false=>
   refine cF rfl ?_
   rw[cond_f]
   cases(s.2==(3:Int))<;>rfl
theorem Z7b (s:Z8)(l:ByteArray)(i:Int)(h0:0<=i)(h1:i<(s.1.length:Int))(hx:Wv s<=1050000)(hl:l.size<=1050000):X0.l9 s l i=some (QZ s.2 (U8 (s.1.getD i.toNat YN) l)):=by
 have hz:=Z69 s.1 i.toNat (Z0P s hx)
 have hc:=Z4i (s.1.getD i.toNat YN) l hz
 refine cT (decide_eq_true h0) (cT (decide_eq_true h1) (Za (Z7a _ l hz hl) ?_))
 generalize U8 (s.1.getD i.toNat YN) l=y at hc⊢
 unfold QZ
 cases hk1:(s.2==(1:Int))with
 |true=>exact cT rfl rfl
 |false=>
  refine cF rfl ?_
  rw[cond_f]
  cases hk2:(s.2==(2:Int))with
  |true=>
   refine cT rfl ?_
   rw[cond_t]
   have em:V.mm true (0:Int) (IntKind.i64.wrap (((Yh y).length:Int)-(1:Int)))=(((Yh y).length-1:Nat):Int):=by
    rw[w64 (by omega) (by omega)]
    show(if((Yh y).length:Int)-1>0 then((Yh y).length:Int)-1 else 0)=_
    by_cases hp:((Yh y).length:Int)-1>0
    ·rw[if_pos hp];omega
    ·rw[if_neg hp];omega
   rw[em]
   refine cT rfl (cT ge_t (cT (decide_eq_true (by omega)) ?_))
   rw[Int.toNat_natCast];rfl
  |false=>
   refine cF rfl ?_
   rw[cond_f]
   cases(s.2==(3:Int))<;>rfl
theorem Z8T (s:Z8)(zone:Int)(l:ByteArray)(hx:Wv s<=1050000)(hl:l.size<=1050000):Xh s zone l=some (Qm s zone l):=by
 unfold Xh Qm
 refine Za (Z5R s zone hx) ?_
 by_cases h:Xs s zone<0
 ·rw[decide_eq_true h];rfl
 ·rw[decide_eq_false h,cond_f,cond_f]
  cases(s.2==(4:Int))with
  |true=>rfl
  |false=>exact Z8S s l _ (by omega) (Z0O s zone (by omega)) hx hl
theorem Z4X (s:Z8)(zone:Int)(l:ByteArray)(hx:Wv s<=1050000)(hl:l.size<=1050000):X0 s zone l=some (Qm s zone l):=by
 unfold X0 Qm
 refine Za (Z2L s zone hx) ?_
 by_cases h:Xs s zone<0
 ·rw[decide_eq_true h];rfl
 ·rw[decide_eq_false h,cond_f,cond_f]
  cases(s.2==(4:Int))with
  |true=>rfl
  |false=>exact Z7b s l _ (by omega) (Z0O s zone (by omega)) hx hl
theorem Za1 (xs:List Z4):∀k,X6 (xs.take k)<=X6 xs:=by
 have h:∀(xs:List Z4) k,((xs.take k).map Xp).sum<=(xs.map Xp).sum:=by
  intro xs
  induction xs with
  |nil=>intro k;simp
  |cons x t ih=>
   intro k
   cases k with
   |zero=>simp
   |succ k=>have:=ih k;simp only[List.take_succ_cons,List.map_cons,List.sum_cons];omega
 intro k
 have:=h xs k
 unfold X6 ZX
 rw[List.length_take]
 omega
theorem Z8t (k:Int)(y:Zk):Q2 (QZ k y)<=Q2 y:=by
 have e1:ZL Zw=0:=rfl
 have e2:QC Ua=0:=rfl
 have e3:Z03 Up=0:=rfl
 have ht:=Za1 (Yh y) ((Yh y).length-1)
 unfold QZ
 cases(k==(1:Int))with
 |true=>exact Nat.le_refl _
 |false=>
  cases(k==(2:Int))with
  |true=>
   rw[cond_f,cond_t]
   unfold Z3L Q2
   rw[(XZ _ _ _ _ _).1,(XZ _ _ _ _ _).2.2.1,(XZ _ _ _ _ _).2.2.2.1,(XZ _ _ _ _ _).2.2.2.2]
   omega
  |false=>
   cases(k==(3:Int))with
   |true=>
    rw[cond_f,cond_f,cond_t]
    unfold Z5w Q2
    rw[(XZ _ _ _ _ _).1,(XZ _ _ _ _ _).2.2.1,(XZ _ _ _ _ _).2.2.2.1,(XZ _ _ _ _ _).2.2.2.2]
    omega
   |false=>exact Nat.le_refl _
def Z2q (xs:List Z8)(zone:Int)(l:ByteArray):List Zk:=(xs.take 4).map λs=>Qm s zone l
theorem Z9w {xs:List Z8}{i:Nat}(h:i<xs.length){n:Nat}(hx:Z1d xs<=n):Wv xs[i]<=n:=by
 have:=Z0Q Wv h
 unfold Z1d ZX at hx
 omega
theorem Z7c (xs:List Z8)(zone:Int)(l:ByteArray)(hx:Z1d xs<=1050000)(hl:l.size<=1050000):YF xs zone l=some (Z2q xs zone l):=by
 have hn:xs.length<=1050000:=by unfold Z1d ZX at hx;omega
 have em:V.mm false (4:Int) (xs.length:Int)=((min 4 xs.length:Nat):Int):=by
  show(if(xs.length:Int)<4 then(xs.length:Int)else 4)=_
  by_cases h:(xs.length:Int)<4
  ·rw[if_pos h];omega
  ·rw[if_neg h];omega
 unfold YF
 refine cT rfl ?_
 rw[em]
 refine cT ge_t (cT (decide_eq_true (by omega)) ?_)
 rw[Int.toNat_natCast]
 have e:xs.take (min 4 xs.length)=xs.take 4:=by
  by_cases h:4<=xs.length
  ·rw[Nat.min_eq_left h]
  ·rw[Nat.min_eq_right (by omega),List.take_length,List.take_of_length_le (by omega)]
 rw[e]
 have hy:∀i (h:i<(xs.take 4).length),X0 (xs.take 4)[i] zone l=some (Qm (xs.take 4)[i] zone l):=by
  intro i h
  rw[List.getElem_take]
  exact Z4X _ zone l (Z9w _ hx) hl
 unfold Z2q
 refine Z2d (xs.take 4) Z1Q (λs=>X0 s zone l) (λs=>Qm s zone l) [] (by rw[List.length_take];omega) (by simp) hy (λn ys a=>YF.l6 zone l n (xs.take 4) ((xs.take 4).length:Int) a ys) (λn ys a=> ?_)
 exact YF.u6 zone l n (xs.take 4) ((xs.take 4).length:Int) a ys
def Ok {α:Type}(o:Option α)(Q:α->Prop):Prop:=∃a,o=some a/\Q a
theorem Ok.bind {α β:Type}{e:Option α}{P:α->Prop}{f:α->Option β}{Q:β->Prop}(h:Ok e P)(hf:∀a,P a->Ok (f a) Q):Ok (e.bind f) Q:=by
 obtain⟨a,rfl,ha⟩:=h
 rw[bind_s]
 exact hf a ha
theorem Ok.ret {α:Type}{a:α}{Q:α->Prop}(h:Q a):Ok (some a) Q:=⟨a,rfl,h⟩
theorem Ok.of {α:Type}{e:Option α}{a:α}{Q:α->Prop}(h:e=some a)(hq:Q a):Ok e Q:=⟨a,h,hq⟩
theorem Ok.mono {α:Type}{e:Option α}{P Q:α->Prop}(h:Ok e P)(hq:∀a,P a->Q a):Ok e Q:=by
 obtain⟨a,h1,h2⟩:=h
 exact⟨a,h1,hq a h2⟩
theorem Ok.ite {α:Type}{c:Bool}{a b:Option α}{Q:α->Prop}(h1:c=true->Ok a Q)(h2:c=false->Ok b Q):Ok (bif c then a else b) Q:=by
 cases c with
 |true=>rw[cond_t];exact h1 rfl
 |false=>rw[cond_f];exact h2 rfl
theorem Ok.chk {α:Type}{c:Bool}{a b:Option α}{Q:α->Prop}(h:c=true)(h1:Ok a Q):Ok (bif c then a else b) Q:=by
 subst h
 rw[cond_t]
 exact h1
theorem Ok.both {α:Type}{x:Option α}{Q:α->Prop}(h:Ok x Q):Ok (V.both x x) Q:=by
 rw[both_eq]
 exact h
def Cu (code:List Int)(c:Z3):Prop:=c.1=code/\0<=c.2.1/\c.2.1<=(code.length:Int)/\code.length<=1050000
theorem Cu.re {code:List Int}{c d:Z3}(h:Cu code c)(h':Cu code d):Cu code (c.1,d.2.1,d.2.2):=⟨h.1,h'.2⟩
theorem Z4f (a:Int):0<=IntKind.i64.wrap ((BitVec.ofInt IntKind.i64.bits a&&&BitVec.ofInt IntKind.i64.bits (255:Int)).toNat:Int)/\IntKind.i64.wrap ((BitVec.ofInt IntKind.i64.bits a&&&BitVec.ofInt IntKind.i64.bits (255:Int)).toNat:Int)<=255:=by
 have h:(BitVec.ofInt IntKind.i64.bits a&&&BitVec.ofInt IntKind.i64.bits (255:Int)).toNat<=255:=by
  rw[BitVec.toNat_and]
  exact Nat.le_trans Nat.and_le_right (by decide)
 rw[w64 (by omega) (by omega)]
 omega
theorem Z2r {code:List Int}{c:Z3}(hc:Cu code c):Ok (Ul c) (λr=>Cu code r.1/\0<=r.2/\r.2<=255):=by
 obtain⟨h1,h2,h3,h4⟩:=hc
 unfold Ul
 refine Ok.chk (by decide) (Ok.chk (by decide) (Ok.ite (λh=> ?_) (λ_=>Ok.ret ⟨⟨h1,h2,h3,h4⟩,Z4f _⟩)))
 have h:=of_decide_eq_true h
 rw[h1]at h
 refine Ok.chk (decide_eq_true h2) (Ok.chk (decide_eq_true (by rw[h1];exact h)) (Ok.ret ⟨⟨h1,?_,?_,h4⟩,Z4f _⟩))
 ·show 0<=IntKind.i64.wrap (c.2.1+1)
  rw[w64 (by omega) (by omega)]
  omega
 ·show IntKind.i64.wrap (c.2.1+1)<=_
  rw[w64 (by omega) (by omega)]
  omega
theorem Yc {code:List Int}{c:Z3}(hc:Cu code c)(n:Int):Ok (Zd c n) (λr=>Cu code r.1/\0<=r.2/\(0<n->r.2<n)/\(n<=0->r.2=0)):=by
 unfold Zd
 refine Ok.ite (λh=> ?_) (λh=> ?_)
 ·have h:=of_decide_eq_true h
  exact Ok.ret ⟨hc,Int.le_refl 0,λh'=>by omega,λ_=>rfl⟩
 ·have h:=of_decide_eq_false h
  have hn:(n==(0:Int))=false:=by rw[beq_eq_false_iff_ne];omega
  refine Ok.ite (λ_=>(Z2r hc).bind λy hy=> ?_) (λ_=>(Z2r hc).bind λy hy=>(Z2r (hc.re hy.1)).bind λz hz=>(Z2r (hc.re hz.1)).bind λu hu=> ?_)
  ·rw[hn,cond_f]
   exact Ok.ret ⟨hc.re hy.1,Int.tmod_nonneg n hy.2.1,λh'=>Int.tmod_lt_of_pos _ h',λh'=>by omega⟩
  ·rw[hn,cond_f]
   obtain⟨_,y1,y2⟩:=hy
   obtain⟨_,z1,z2⟩:=hz
   obtain⟨_,u1,u2⟩:=hu
   have e1:IntKind.i64.wrap (y.2*65536)=y.2*65536:=w64 (by omega) (by omega)
   have e2:IntKind.i64.wrap (z.2*256)=z.2*256:=w64 (by omega) (by omega)
   have e3:IntKind.i64.wrap (y.2*65536+z.2*256)=y.2*65536+z.2*256:=w64 (by omega) (by omega)
   have e4:IntKind.i64.wrap (y.2*65536+z.2*256+u.2)=y.2*65536+z.2*256+u.2:=w64 (by omega) (by omega)
   rw[e1,e2,e3,e4]
   exact Ok.ret ⟨hc.re ‹_›,Int.tmod_nonneg n (by omega),λh'=>Int.tmod_lt_of_pos _ h',λh'=>by omega⟩
theorem Z0f {code:List Int}{c:Z3}(hc:Cu code c)(n:Int):Ok (Xu c n) (λr=>Cu code r.1):=by
 unfold Xu
 exact(Yc hc n).bind λy hy=>Ok.ret (hc.re hy.1)
theorem Z0e {code:List Int}{c:Z3}(hc:Cu code c){xs:List Int}(hx:0<xs.length):Ok (XG c xs) (λr=>Cu code r.1/\r.2∈xs):=by
 unfold XG
 refine(Yc hc _).bind λy hy=> ?_
 obtain⟨h1,h2,h3,_⟩:=hy
 have h3:=h3 (by omega)
 refine Ok.chk (decide_eq_true h2) (Ok.chk (decide_eq_true h3) (Ok.ret ⟨hc.re h1,?_⟩))
 show xs.getD y.2.toNat 0∈xs
 rw[List.getD_eq_getElem?_getD,List.getElem?_eq_getElem (show y.2.toNat<xs.length by omega)]
 exact List.getElem_mem _
theorem Z9Y {code:List Int}{c:Z3}(hc:Cu code c){xs:List ByteArray}(hx:0<xs.length):Ok (U3 c xs) (λr=>Cu code r.1/\r.2∈xs):=by
 unfold U3
 refine(Yc hc _).bind λy hy=> ?_
 obtain⟨h1,h2,h3,_⟩:=hy
 have h3:=h3 (by omega)
 refine Ok.chk (decide_eq_true h2) (Ok.chk (decide_eq_true h3) (Ok.ret ⟨hc.re h1,?_⟩))
 show xs.getD y.2.toNat _∈xs
 rw[List.getD_eq_getElem?_getD,List.getElem?_eq_getElem (show y.2.toNat<xs.length by omega)]
 exact List.getElem_mem _
theorem ge0 {v:Int}(h:decide (v>(0:Int))=true):0<v:=of_decide_eq_true h
theorem Z19 {v:Int}(h0:0<v)(h1:v<=1000):IntKind.i64.wrap (v-(1:Int))=v-1:=w64 (by omega) (by omega)
theorem QT {α:Type}{xs:List α}{x:α}(h:xs.length<=1050000):decide (xs.length+[x].length<68719476736)=true:=decide_eq_true (by show xs.length+1<_;omega)
theorem QB {α:Type}(xs:List α)(x:α):(xs++[x]).length=xs.length+1:=by simp
theorem Z1E {α:Type}(f:α->Nat)(xs:List α)(x:α):ZX f (xs++[x])=ZX f xs+1+f x:=by
 unfold ZX
 simp only[List.length_append,List.map_append,List.sum_append,List.map_cons,List.map_nil,List.sum_cons,List.sum_nil,List.length_cons,List.length_nil]
 omega
theorem Z61 {code:List Int}{c:Z3}(hc:Cu code c){xs:List ByteArray}{n:Nat}(hx:0<xs.length)(hs:(xs.all λs=>decide (s.size<=n))=true):Ok (U3 c xs) (λr=>Cu code r.1/\r.2.size<=n):=
 (Z9Y hc hx).mono λr h=>⟨h.1,of_decide_eq_true (List.all_eq_true.1 hs r.2 h.2)⟩
theorem Z3G {code:List Int}{c:Z3}(hc:Cu code c):Ok (WL c) (λr=>Cu code r.1/\r.2.size<=9):=by
 unfold WL
 exact(Z61 (n:=9) hc (by decide) (by decide)).bind λy hy=>Ok.ret ⟨hc.re hy.1,hy.2⟩
theorem Z8a {code:List Int}{x0:Z3}:∀(n:Nat) (v a b:Int) (acc:List ByteArray),v<(n:Int)->0<=v->v<=1000->acc.length+v.toNat<=1000->Cu code (x0.1,a,b)->Ok (Yu.l6 x0 n v a b acc) (λr=>Cu code r.1/\XE r.2<=XE acc+10*v.toNat):=by
 intro n
 induction n with
 |zero=>intro v a b acc h0 h1;omega
 |succ n ih=>
  intro v a b acc h0 h1 h2 ha hc
  rw[Yu.u6]
  refine Ok.ite (λh=> ?_) (λh=>Ok.ret ⟨hc,by show XE acc<=_;omega⟩)
  have h:=ge0 h
  refine(Z3G hc).bind λy hy=>Ok.chk (QT (by omega)) ?_
  rw[Z19 h h2]
  refine(ih (v-1) _ _ (acc++[y.2]) (by omega) (by omega) (by omega) (by rw[QB];omega) (hc.re hy.1)).mono λr hr=>⟨hr.1,?_⟩
  have e:XE (acc++[y.2])=XE acc+1+Wi y.2:=Z1E _ _ _
  have e2:Wi y.2<=9:=hy.2
  have:=hr.2
  omega
theorem Z5r {code:List Int}{c:Z3}(hc:Cu code c):Ok (Yu c) (λr=>Cu code r.1/\XE r.2<=30):=by
 unfold Yu
 refine(Yc hc 3).bind λy hy=> ?_
 obtain⟨h1,h2,h3,_⟩:=hy
 have h3:=h3 (by omega)
 have e:IntKind.i64.wrap ((1:Int)+y.2)=1+y.2:=w64 (by omega) (by omega)
 rw[e]
 have hk:=KK_gt (n:=1000) (by omega)
 refine(Z8a KK (1+y.2) _ _ [] (by omega) (by omega) (by omega) (by show 0+_<=_;omega) (hc.re h1)).mono λr hr=>⟨hr.1,?_⟩
 have e0:XE []=0:=rfl
 have:=hr.2
 omega
theorem Z5t {code:List Int}{c:Z3}(hc:Cu code c):Ok (Un c) (λr=>Cu code r.1/\ZL r.2<=39):=by
 unfold Un
 refine(Z3G hc).bind λy1 h1=>(Yc (hc.re h1.1) 5).bind λy2 h2=>Ok.ite (λ_=> ?_) λ_=>Ok.ite (λ_=> ?_) λ_=> ?_
 ·refine(Yc (hc.re h2.1) 5000).bind λy3 h3=>Ok.bind (P:=λe=>ZL e<=39) ?_ λe he=>Ok.ret ⟨hc.re h3.1,he⟩
  exact Ok.ret (by show Wi y1.2+0<=39;have:Wi y1.2<=9:=h1.2;omega)
 ·refine(Yc (hc.re h2.1) 5000).bind λy3 h3=>(Z5r (hc.re h3.1)).bind λy6 h6=>Ok.bind (P:=λe=>ZL e<=39) ?_ λe he=>Ok.ret ⟨hc.re h6.1,he⟩
  have hl:y6.2.length<=1050000:=by have:=h6.2;unfold XE ZX at this;omega
  exact Ok.of (Za (Z5q y6.2 hl) rfl) (by show Wi y1.2+XE y6.2<=39;have:Wi y1.2<=9:=h1.2;have:=h6.2;omega)
 ·refine(Yc (hc.re h2.1) 50).bind λy3 h3=>Ok.bind (P:=λe=>ZL e<=39) ?_ λe he=>Ok.ret ⟨hc.re h3.1,he⟩
  exact Ok.ret (by show Wi y1.2+0<=39;have:Wi y1.2<=9:=h1.2;omega)
theorem Za0 {α:Type}(f:α->Nat){xs:List α}{i:Nat}(h:i<xs.length):ZX f (xs.drop i)=1+f xs[i]+ZX f (xs.drop (i+1)):=by
 rw[List.drop_eq_getElem_cons h]
 unfold ZX
 simp only[List.map_cons,List.sum_cons,List.length_cons]
 omega
theorem Z1F {α:Type}(f:α->Nat)(xs:List α):xs.length<=ZX f xs:=by unfold ZX;omega
theorem Z8P (xs:List Z0)(e:Z0)(hx:Zo xs+ZL e<=100000):∀(n i:Nat) (done:Bool) (out:List Z0),xs.length-i<n->i<=xs.length->Zo out+(bif done then 0 else ZL e+1)+Zo (xs.drop i)<=Zo xs+ZL e+1->
 Ok (Zj.l8 xs e n done (i:Int) out) (λr=>Zo r.1<=Zo xs+ZL e+1):=by
 have hlx:=Z1F ZL xs
 have hl:xs.length<=100000:=by unfold Zo at hx;omega
 have fin:∀out:List Z0,Zo out<=Zo xs+ZL e+1->Ok (Zj.l29 xs out) (λr=>Zo r.1<=Zo xs+ZL e+1):=by
  intro out ho
  have tail:∀v:Bool,Ok (Zj.l31 xs out v) (λr=>Zo r.1<=Zo xs+ZL e+1):=by
   intro v
   refine Ok.ite (λ_=> ?_) λ_=>Ok.ret ho
   exact Ok.of (Za (Z2Q xs (by omega)) rfl) (by show Zo xs<=_;omega)
  refine Ok.bind (P:=λ_=>True) (Ok.of (Z1y xs (by omega)) trivial) λy _=>Ok.ite (λ_=>tail _) λ_=> ?_
  exact Ok.bind (P:=λ_=>True) (Ok.of (Z1y out (by omega)) trivial) λy _=>tail _
 intro n
 induction n with
 |zero=>intro i done out h0;omega
 |succ n ih=>
  intro i done out h0 h1 hi
  have hlo:=Z1F ZL out
  have hou:Zo out<=100001:=by omega
  have hlo:out.length<=100001:=by unfold Zo at hou;omega
  rw[Zj.u8]
  refine Ok.ite (λh=> ?_) (λh=> ?_)
  ·have hlt:i<xs.length:=by have:=of_decide_eq_true h;omega
   have hd:=Za0 ZL hlt
   have hd:Zo (xs.drop i)=1+ZL xs[i]+Zo (xs.drop (i+1)):=hd
   refine Ok.chk (decide_eq_true (by omega)) (Ok.chk h ?_)
   rw[Int.toNat_natCast,at_n hlt]
   refine Ok.bind (P:=λ_=>True) (Ok.of (Z3O _ _) trivial) λk _=> ?_
   have hei:ZL xs[i]<=1050000:=by omega
   have nx:∀(d:Bool) (o:List Z0),Zo o+(bif d then 0 else ZL e+1)+Zo (xs.drop i)<=Zo xs+ZL e+1->Ok (Zj.l21 xs e (i:Int) k (Zj.l8 xs e n) d o) (λr=>Zo r.1<=Zo xs+ZL e+1):=by
    intro d o ho
    have hlo:o.length<=Zo o:=Z1F ZL o
    have hlo:o.length<=1050000:=by omega
    refine Ok.ite (λ_=> ?_) λ_=> ?_
    ·refine Ok.chk (decide_eq_true (by omega)) (Ok.chk h ?_)
     rw[Int.toNat_natCast,at_n hlt,w64_succ (by omega)]
     refine Ok.bind (P:=λy=>y=xs[i]) (Ok.of (Z15 _ hei) rfl) λy hy=>Ok.chk (QT hlo) ?_
     subst hy
     refine ih (i+1) d _ (by omega) (by omega) ?_
     have e2:Zo (o++[xs[i]])=Zo o+1+ZL xs[i]:=Z1E _ _ _
     omega
    ·rw[w64_succ (by omega)]
     exact ih (i+1) d o (by omega) (by omega) (by omega)
   have cs:∀v:Bool,(v=true->done=false)->Ok (Zj.l17 xs e done (i:Int) out k (Zj.l8 xs e n) v) (λr=>Zo r.1<=Zo xs+ZL e+1):=by
    intro v hv
    refine Ok.ite (λh=> ?_) λ_=>nx _ _ hi
    have hd:=hv h
    subst hd
    rw[cond_f]at hi
    refine Ok.bind (P:=λy=>y=e) (Ok.of (Z15 _ (by omega)) rfl) λy hy=>Ok.chk (QT (by omega)) (nx _ _ ?_)
    subst hy
    have e2:Zo (out++[y])=Zo out+1+ZL y:=Z1E _ _ _
    rw[cond_t]
    omega
   exact Ok.ite (λ_=>cs _ (λh=>by cases done<;>simp_all)) (λ_=>cs _ (λh=>by cases h))
  ·have e0:i=xs.length:=by have:=of_decide_eq_false h;omega
   subst e0
   rw[List.drop_length]at hi
   have e0:Zo []=0:=rfl
   refine Ok.ite (λh=> ?_) (λh=>fin _ (by omega))
   have hd:done=false:=by cases done<;>simp_all
   subst hd
   rw[cond_f]at hi
   refine Ok.bind (P:=λy=>y=e) (Ok.of (Z15 _ (by omega)) rfl) λy hy=>Ok.chk (QT (by omega)) (fin _ ?_)
   subst hy
   have e2:Zo (out++[y])=Zo out+1+ZL y:=Z1E _ _ _
   omega
theorem Z5E (xs:List Z0)(e:Z0)(hx:Zo xs+ZL e<=100000):Ok (Zj xs e) (λr=>Zo r.1<=Zo xs+ZL e+1):=by
 have hlx:=Z1F ZL xs
 have hlx:xs.length<=100000:=by unfold Zo at hx;omega
 refine Z8P xs e hx KK 0 false [] (KK_gt (by omega)) (Nat.zero_le _) ?_
 have e0:Zo []=0:=rfl
 rw[cond_f,List.drop_zero]
 omega
theorem Z8l {code:List Int}{x0:Z3}:∀(n:Nat) (v a b:Int) (acc:List Z0),v<(n:Int)->0<=v->v<=1000->Zo acc+40*v.toNat<=50000->Cu code (x0.1,a,b)->Ok (ZG.l6 x0 n v a b acc) (λr=>Cu code r.1/\Zo r.2<=Zo acc+40*v.toNat):=by
 intro n
 induction n with
 |zero=>intro v a b acc h0 h1;omega
 |succ n ih=>
  intro v a b acc h0 h1 h2 ha hc
  rw[ZG.u6]
  refine Ok.ite (λh=> ?_) (λh=>Ok.ret ⟨hc,by show Zo acc<=_;omega⟩)
  have h:=ge0 h
  refine(Z5t hc).bind λy hy=> ?_
  have hy2:=hy.2
  refine(Z5E acc y.2 (by omega)).bind λz hz=> ?_
  rw[Z19 h h2]
  refine(ih (v-1) _ _ z.1 (by omega) (by omega) (by omega) (by omega) (hc.re hy.1)).mono λr hr=>⟨hr.1,?_⟩
  have:=hr.2
  omega
theorem Z2a {code:List Int}{c:Z3}(hc:Cu code c):Ok (ZG c) (λr=>Cu code r.1/\Zo r.2<=240):=by
 unfold ZG
 refine(Yc hc 7).bind λy hy=> ?_
 obtain⟨h1,h2,h3,_⟩:=hy
 have h3:=h3 (by omega)
 have hk:=KK_gt (n:=1000) (by omega)
 have e0:Zo []=0:=rfl
 refine(Z8l KK y.2 _ _ [] (by omega) (by omega) (by omega) (by omega) (hc.re h1)).mono λr hr=>⟨hr.1,?_⟩
 have:=hr.2
 omega
theorem Z8f {code:List Int}{x0:Z3}{m:Int}(hm:m<=1000):∀(n:Nat) (t i a b:Int) (acc:List Int),m-i<(n:Int)->0<=i->i<=m->(acc.length:Int)=i->Cu code (x0.1,a,b)->Ok (ZI.l10 x0 n m t i a b acc) (λr=>Cu code r.1/\(r.2.1.length:Int)=m):=by
 intro n
 induction n with
 |zero=>intro t i a b acc h0 h1 h2;omega
 |succ n ih=>
  intro t i a b acc h0 h1 h2 ha hc
  rw[ZI.u10]
  refine Ok.ite (λh=> ?_) (λh=> ?_)
  ·have h:=of_decide_eq_true h
   refine(Yc hc 3).bind λy hy=>Ok.chk (QT (by omega)) ?_
   have e:IntKind.i64.wrap (i+(1:Int))=i+1:=w64 (by omega) (by omega)
   rw[e]
   exact ih _ (i+1) _ _ _ (by omega) (by omega) (by omega) (by rw[QB];omega) (hc.re hy.1)
  ·have h:=of_decide_eq_false h
   exact(Yc hc m).bind λy hy=>Ok.ret ⟨hc.re hy.1,by show(acc.length:Int)=m;omega⟩
theorem QY {code:List Int}{c:Z3}(hc:Cu code c):Ok (ZI c) (λr=>Cu code r.1/\r.2.1.length<=3):=by
 unfold ZI
 refine(Yc hc 3).bind λy hy=>(Yc (hc.re hy.1) 4).bind λz hz=> ?_
 obtain⟨h1,h2,h3,_⟩:=hy
 have h3:=h3 (by omega)
 have e:IntKind.i64.wrap ((1:Int)+y.2)=1+y.2:=w64 (by omega) (by omega)
 rw[e]
 have hk:=KK_gt (n:=2000) (by omega)
 refine(Z8f (m:=1+y.2) (by omega) KK z.2 0 _ _ [] (by omega) (by omega) (by omega) rfl (hc.re hz.1)).mono λr hr=>⟨hr.1,?_⟩
 have:=hr.2
 omega
theorem Z5s {code:List Int}{c:Z3}(hc:Cu code c):Ok (UL c) (λr=>Cu code r.1/\r.2.1.length<=4):=by
 unfold UL
 refine(QY hc).bind λy1 h1=>(Yc (hc.re h1.1) 10).bind λy2 h2=>Ok.ite (λ_=> ?_) λ_=>Ok.ite (λ_=> ?_) λ_=>Ok.ite (λ_=> ?_) λ_=> ?_
 ·exact(Z0e (hc.re h2.1) (by decide)).bind λy3 h3=>Ok.ret ⟨hc.re h3.1,Nat.le_succ_of_le h1.2⟩
 ·have one:Ok ((XG (c.1,y2.1.2.1,y2.1.2.2) [(1:Int),(99:Int),(100:Int)]).bind λy4=>bif decide (y1.2.1.length+[y4.2].length<68719476736)then some ((c.1,y4.1.2.1,y4.1.2.2),y1.2.1++[y4.2],y1.2.2)else none) (λr=>Cu code r.1/\r.2.1.length<=4):=
   (Z0e (hc.re h2.1) (by decide)).bind λy3 h3=>Ok.chk (QT (Nat.le_trans h1.2 (by decide))) (Ok.ret ⟨hc.re h3.1,by show(y1.2.1++[y3.2]).length<=4;rw[QB];have:=h1.2;omega⟩)
  simp only[both_eq]
  exact one
 ·exact Ok.ret ⟨hc.re h2.1,by show([]:List Int).length<=4;decide⟩
 ·exact Ok.ret ⟨hc.re h2.1,Nat.le_succ_of_le h1.2⟩
theorem Z86 {code:List Int}(hl:code.length<=1050000):∀(n i:Nat) (v:Int),code.length-i<n->i<=code.length->Ok (Zx.l6 code n v (i:Int)) (Cu code):=by
 intro n
 induction n with
 |zero=>intro i v h0;omega
 |succ n ih=>
  intro i v h0 h1
  rw[Zx.u6]
  have ret:∀v:Int,Ok (some ((code,(0:Int),v):Z3)) (Cu code):=λv=>Ok.ret ⟨rfl,Int.le_refl 0,by show(0:Int)<=_;omega,hl⟩
  refine Ok.ite (λh=>Ok.ite (λ_=> ?_) λ_=>ret v) λ_=>ret v
  have hlt:i<code.length:=by have:=of_decide_eq_true h;omega
  unfold Zx.l11
  refine Ok.chk (decide_eq_true (by omega)) (Ok.chk h ?_)
  rw[w64_succ (by omega)]
  exact ih (i+1) _ (by omega) (by omega)
theorem Z3E {code:List Int}(hl:code.length<=1050000):Ok (Zx code) (Cu code):=
 Z86 hl KK 0 _ (KK_gt (by omega)) (Nat.zero_le _)
def kB (h:Z5):Prop:=(Zg h).1.length<=4/\(Zf h).1.length<=4/\(Zi h).1.length<=4
theorem Z1r {h:Z5}(hk:kB h):ZD h<=12:=by
 obtain⟨h1,h2,h3⟩:=hk
 unfold ZD UI
 omega
def sB (s:Z4):Prop:=kB (Zb s)/\(WM s).length<=8
theorem Z5I {s:Z4}(hs:sB s):Xp s<=20:=by
 have h1:=Z1r hs.1
 have h2:=hs.2
 unfold Xp
 omega
theorem Z3V {sk:List Int}{k:Zc}{h:Z5}(hh:kB h)(hk:k.1.length<=4):sB (Z2i sk k h):=by
 have:=Z3X sk (WH h) k.1 []
 rw[List.length_nil,Nat.zero_add]at this
 exact⟨hh,by show(Z0b sk (WH h) k.1 []).length<=8;omega⟩
theorem Z3W {sk:List Int}{k:Zc}{h:Z5}(hh:kB h)(hk:k.1.length<=4)(hs:sk.length<=4):Ok (Xc sk k h) sB:=
 Ok.of (Z2h sk k h (by omega) (by omega) (Nat.le_trans (Z1r hh) (by decide))) (Z3V hh hk)
theorem Z5i {code:List Int}{x0:Z3}{a b v1 v2 v25 v26:Int}{y1 y2 y4 y5 y6 y7:Z3×Int}{y8:Z3×List Int×Int}{l:List Int}(hc:Cu code (x0.1,v1,v2))(h8:y8.2.1.length<=3)(hl:l.length<=3):Ok (ZR.l13 x0 a b y1 y2 y4 y5 y6 y7 y8 v1 v2 v25 v26 l) (λr=>Cu code r.1/\kB r.2):=by
 refine(Z0f hc 2).bind λy h=>Ok.ite (λ_=> ?_) λ_=>Ok.ret ⟨hc.re h,Nat.le_succ_of_le h8,Nat.le_succ_of_le hl,Nat.zero_le _⟩
 exact(QY (hc.re h)).bind λz hz=>(Z0f (hc.re hz.1) 3).bind λu hu=>Ok.ret ⟨hc.re hu,Nat.le_succ_of_le h8,Nat.le_succ_of_le hl,Nat.le_succ_of_le hz.2⟩
theorem Z80 {code:List Int}{c:Z3}(hc:Cu code c):Ok (ZR c) (λr=>Cu code r.1/\kB r.2):=by
 unfold ZR ZR.b
 simp only[both_eq]
 refine(Yc hc 50).bind λy1 h1=>(Yc (hc.re h1.1) 4).bind λy2 h2=>(Yc (hc.re h2.1) 3).bind λy3 h3=>(Yc (hc.re h3.1) 40).bind λy4 h4=>(Yc (hc.re h4.1) 90).bind λy5 h5=>(Yc (hc.re h5.1) 9).bind λy6 h6=>(Yc (hc.re h6.1) 5).bind λy7 h7=>(QY (hc.re h7.1)).bind λy8 h8=>(Yc (hc.re h8.1) 60).bind λy9 h9=> ?_
 refine(Z0f (hc.re h9.1) 2).bind λy h=>Ok.ite (λ_=> ?_) λ_=>Z5i (hc.re h) h8.2 (Nat.zero_le _)
 exact(QY (hc.re h)).bind λz hz=>(Yc (hc.re hz.1) 30).bind λu hu=>Z5i (hc.re hu.1) h8.2 hz.2
theorem Z7Z {code:List Int}{c:Z3}(hc:Cu code c):Ok (Qh c) (λr=>Cu code r.1/\kB r.2):=by
 unfold Qh
 refine(Z80 hc).bind λy1 h1=>(Yc (hc.re h1.1) 14).bind λy2 h2=>Ok.ite (λ_=> ?_) λ_=>Ok.ite (λ_=> ?_) λ_=>Ok.ite (λ_=> ?_) λ_=>Ok.ite (λ_=> ?_) λ_=>Ok.ite (λ_=> ?_) λ_=>Ok.ite (λ_=> ?_) λ_=>Ok.ite (λ_=> ?_) λ_=> ?_
 ·exact(Z0e (hc.re h2.1) (by decide)).bind λy h=>Ok.ret ⟨hc.re h.1,h1.2⟩
 ·exact(Z0e (hc.re h2.1) (by decide)).bind λy h=>Ok.ret ⟨hc.re h.1,h1.2⟩
 ·exact(Z0e (hc.re h2.1) (by decide)).bind λy h=>Ok.ret ⟨hc.re h.1,h1.2⟩
 ·exact(Z5s (hc.re h2.1)).bind λy h=>Ok.ret ⟨hc.re h.1,h.2,h1.2.2.1,h1.2.2.2⟩
 ·exact(Z0e (hc.re h2.1) (by decide)).bind λy h=>Ok.ret ⟨hc.re h.1,h1.2⟩
 ·exact Ok.ret ⟨hc.re h2.1,h1.2⟩
 ·exact(Z5s (hc.re h2.1)).bind λy h=>Ok.ret ⟨hc.re h.1,h1.2.1,h1.2.2.1,h.2⟩
 ·exact Ok.ret ⟨hc.re h2.1,h1.2⟩
theorem Z8d {code:List Int}{x0:Z3}:∀(n:Nat) (v a b:Int) (acc:List Int),v<(n:Int)->0<=v->v<=1000->acc.length+v.toNat<=1000->Cu code (x0.1,a,b)->Ok (YL.l6 x0 n v a b acc) (λr=>Cu code r.1/\r.2.length<=acc.length+v.toNat):=by
 intro n
 induction n with
 |zero=>intro v a b acc h0 h1;omega
 |succ n ih=>
  intro v a b acc h0 h1 h2 ha hc
  rw[YL.u6]
  refine Ok.ite (λh=> ?_) (λh=>Ok.ret ⟨hc,by show acc.length<=_;omega⟩)
  have h:=ge0 h
  refine(Yc hc 9).bind λy hy=>Ok.chk (QT (by omega)) ?_
  rw[Z19 h h2]
  refine(ih (v-1) _ _ _ (by omega) (by omega) (by omega) (by rw[QB];omega) (hc.re hy.1)).mono λr hr=>⟨hr.1,?_⟩
  have:=hr.2
  rw[QB]at this
  omega
theorem Z8e {code:List Int}{c:Z3}(hc:Cu code c):Ok (YL c) (λr=>Cu code r.1/\r.2.length<=6):=by
 unfold YL
 refine(Yc hc 6).bind λy hy=> ?_
 obtain⟨h1,h2,h3,_⟩:=hy
 have h3:=h3 (by omega)
 have hk:=KK_gt (n:=1000) (by omega)
 refine(Z8d KK y.2 _ _ [] (by omega) (by omega) (by omega) (by show 0+_<=_;omega) (hc.re h1)).mono λr hr=>⟨hr.1,?_⟩
 have:r.2.length<=0+y.2.toNat:=hr.2
 omega
theorem Z67 {α:Type}(xs:List α)(i:Nat)(f:α->α):(V.upd xs i f).length=xs.length:=by
 induction xs generalizing i with
 |nil=>rfl
 |cons x xs ih=>
  cases i with
  |zero=>rfl
  |succ i=>show(V.upd xs i f).length+1=xs.length+1;rw[ih]
theorem Z8g {code:List Int}{x0:Z3}{v1 v2:Int}{s:List Z9}(hc:Cu code (x0.1,v1,v2))(hs:s.length<=4):Ok (Xd.l5 x0 v1 v2 s) (λr=>Cu code r.1/\r.2.length<=8):=by
 refine(Yc hc 6).bind λy3 h3=>Ok.ite (λ_=> ?_) λ_=>Ok.ite (λ_=> ?_) λ_=>Ok.ite (λ_=> ?_) λ_=> ?_
 ·exact(Z0e (hc.re h3.1) (by decide)).bind λy4 h4=>(Yc (hc.re h4.1) 9).bind λy5 h5=>Ok.chk (QT (by omega)) (Ok.ret ⟨hc.re h5.1,by show(s++[_]).length<=8;rw[QB];omega⟩)
 ·exact Ok.chk (decide_eq_true (by omega)) (Ok.ret ⟨hc.re h3.1,by show(s++s).length<=8;rw[List.length_append];omega⟩)
 ·refine Ok.ite (λh=> ?_) λ_=>Ok.ret ⟨hc.re h3.1,by show s.length<=8;omega⟩
  exact Ok.chk (by decide) (Ok.chk h (Ok.chk (by decide) (Ok.chk h (Ok.ret ⟨hc.re h3.1,by show(V.upd s _ _).length<=8;rw[Z67];omega⟩))))
 ·exact Ok.ret ⟨hc.re h3.1,by show s.length<=8;omega⟩
theorem Z8h {code:List Int}{c:Z3}(hc:Cu code c){k:Zc}{m:List Int}(hk:k.1.length<=4)(hm:m.length<=8388608):Ok (Xd c k m) (λr=>Cu code r.1/\r.2.length<=8):=by
 unfold Xd Xd.b
 simp only[both_eq]
 refine(Z8e hc).bind λy hy=>Ok.bind (P:=λs=>s.length<=4) ?_ λs hs=>Z8g (hc.re hy.1) hs
 have hl:=hy.2
 refine Ok.of (Z5S y.2 k m (by omega) (by omega) hm) ?_
 have:=Z3X y.2 m k.1 []
 rw[List.length_nil,Nat.zero_add]at this
 omega
theorem Z3D {code:List Int}{x0:Z3}{v18 v19 v20 v21 v22 v23 v24 v25 v26 v1 v2 v27 v28 v29:Int}{b:Bool}{l1 l2 l3:List Int}{y1:Z3×List Int×Int}(hc:Cu code (x0.1,v1,v2))(h1:y1.2.1.length<=3)(hl1:l1.length<=4)(hl2:l2.length<=4)(hl3:l3.length<=4):Ok (ZK.l25 x0 v18 v19 v20 v21 v22 v23 v24 v25 v26 b l1 y1 v1 v2 v27 v28 v29 l2 l3) (λr=>Cu code r.1/\sB r.2):=by
 refine(Z3W ?_ ?_ ?_).bind λy hy=>Ok.ret ⟨hc,hy⟩
 ·exact⟨hl1,hl2,hl3⟩
 ·exact Nat.le_succ_of_le h1
 ·exact Nat.le_succ_of_le h1
theorem Z71 {k:Zc}{s:Int}{xs:List Z0}{now term:Int}(hk:k.1.length<=3):kB (Z6 (Z1o k s xs now term)):=by
 unfold Z1o
 cases Z0F k s xs now term with
 |true=>exact⟨Nat.le_succ_of_le hk,Nat.zero_le _,Nat.zero_le _⟩
 |false=>exact⟨Nat.zero_le _,Nat.zero_le _,Nat.zero_le _⟩
theorem Z5k {code:List Int}{c:Z3}(hc:Cu code c):Ok (ZK c) (λr=>Cu code r.1/\sB r.2):=by
 unfold ZK ZK.b
 simp only[both_eq]
 refine(QY hc).bind λy1 h1=>(Yc (hc.re h1.1) 9).bind λy2 h2=>(Z2a (hc.re h2.1)).bind λy3 h3=>(Yc (hc.re h3.1) 40).bind λy4 h4=>(Yc (hc.re h4.1) 60).bind λy5 h5=>Ok.bind (P:=λy=>kB (Z6 y)) ?_ λy6 h6=> ?_
 ·have hx:=h3.2
  have hk:=h1.2
  exact Ok.of (Z5K y1.2 y2.2 y3.2 y4.2 y5.2 (by show y1.2.1.length<=_;omega) (by omega)) (Z71 h1.2)
 ·refine(Yc (hc.re h5.1) 4).bind λy7 h7=>Ok.ite (λ_=> ?_) λ_=>Ok.ite (λ_=> ?_) λ_=>Z3D (hc.re h7.1) h1.2 h6.1 h6.2.1 h6.2.2
  ·exact(QY (hc.re h7.1)).bind λy8 h8=>(Yc (hc.re h8.1) 30).bind λy9 h9=>Z3D (hc.re h9.1) h1.2 h6.1 (Nat.le_succ_of_le h8.2) h6.2.2
  ·exact(QY (hc.re h7.1)).bind λy8 h8=>Z3D (hc.re h8.1) h1.2 h6.1 h6.2.1 (Nat.le_succ_of_le h8.2)
theorem Z81 {code:List Int}{c:Z3}(hc:Cu code c):Ok (Qi c) (λr=>Cu code r.1/\sB r.2):=by
 unfold Qi
 refine(Z5k hc).bind λy1 h1=>(Yc (hc.re h1.1) 8).bind λy2 h2=>Ok.ite (λ_=> ?_) λ_=>Ok.ite (λ_=> ?_) λ_=>Ok.ite (λ_=> ?_) λ_=> ?_
 ·exact(Z7Z (hc.re h2.1)).bind λy3 h3=>Ok.ret ⟨hc.re h3.1,h3.2,h1.2.2⟩
 ·refine Ok.bind (P:=λm=>m.length<=8388608) ?_ λm hm=>(Z8h (hc.re h2.1) (show _<=4 from h1.2.1.1) hm).bind λy5 h5=>Ok.ret ⟨hc.re h5.1,h1.2.1,h5.2⟩
  have hz:=Z1r h1.2.1
  have hm:(WH (Zb y1.2)).length<=8388608:=by rw[Z10];omega
  exact Ok.of (Z2g _ (Nat.le_trans hz (by decide))) hm
 ·refine(Z3W ?_ ?_ ?_).bind λy6 h6=>Ok.ret ⟨hc.re h2.1,h6⟩
  ·exact h1.2.1
  ·exact h1.2.1.1
  ·exact h1.2.1.1
 ·exact Ok.ret ⟨hc.re h2.1,h1.2⟩
theorem Z18 {code:List Int}{x0:Z3}{a b v1 v2 v18 v19 v20 v21 v22 v24 v25 v26 v27 v33:Int}{h:Z5}{f:Bool}{l1 l2 l3 l4:List Int}(hc:Cu code (x0.1,v1,v2))(h1:l1.length<=4)(h2:l2.length<=4)(h3:l3.length<=4)(h4:l4.length<=4):Ok (Ze.l63 x0 a h b v1 v2 v18 v19 v20 v21 v22 v24 v25 v26 v27 f l1 l2 l3 l4 v33) (λr=>Cu code r.1/\sB r.2):=by
 refine(Z3W ?_ ?_ ?_).bind λy hy=>Ok.ret ⟨hc,hy⟩
 ·exact⟨h1,h2,h3⟩
 ·exact h4
 ·exact h4
theorem Z8z {code:List Int}{x0:Z3}{x1 y1:Z5}{a b v1 v2 v35 v36:Int}(hc:Cu code (x0.1,v1,v2))(hx:kB x1)(hy:kB y1):Ok (Ze.l27 x0 x1 a v35 y1 b v1 v2 v36) (λr=>Cu code r.1/\sB r.2):=by
 refine Ok.bind (P:=λk=>k=Zf x1) (Ok.of (Z29 _ (by have:=hx.2.1;omega)) rfl) λk hk=> ?_
 subst hk
 exact Z18 hc hx.2.1 hy.2.1 hy.2.2 hx.2.1
theorem Z8y {code:List Int}{x0:Z3}{x1 y1:Z5}{a b v1 v2 v35 v36:Int}(hc:Cu code (x0.1,v1,v2))(hx:kB x1)(hy:kB y1):Ok (Ze.l25 x0 x1 a v36 y1 b v1 v2 v35) (λr=>Cu code r.1/\sB r.2):=by
 unfold Ze.l25 Ze.g25
 simp only[both_eq]
 exact(Yc hc 60).bind λy h=>Z8z (hc.re h.1) hx hy
theorem Z5A {code:List Int}{x0:Z3}{x1 y1:Z5}{a b v1 v2 v35 v36:Int}{f g:Bool}(hc:Cu code (x0.1,v1,v2))(hx:kB x1)(hy:kB y1):Ok (Ze.l41 x0 x1 a v35 v36 y1 b f v1 v2 g) (λr=>Cu code r.1/\sB r.2):=
 Ok.ite (λ_=>(QY hc).bind λy h=>Z18 (hc.re h.1) (Nat.le_succ_of_le h.2) hy.2.1 hy.2.2 hx.2.2) λ_=>Z18 hc hy.1 hy.2.1 hy.2.2 hx.2.2
theorem Z8x {code:List Int}{x0:Z3}{x1 y1:Z5}{a b v1 v2 v35 v36:Int}(hc:Cu code (x0.1,v1,v2))(hx:kB x1)(hy:kB y1):Ok (Ze.l13 x0 x1 a v35 y1 b v1 v2 v36) (λr=>Cu code r.1/\sB r.2):=by
 unfold Ze.l13 Ze.g13
 simp only[both_eq]
 refine(Yc hc 6).bind λy5 h5=>Ok.ite (λ_=> ?_) λ_=>Ok.ite (λ_=>Ok.ite (λ_=> ?_) λ_=> ?_) λ_=>Ok.ite (λ_=> ?_) λ_=>Ok.ite (λ_=> ?_) λ_=>Ok.ite (λ_=> ?_) λ_=> ?_
 ·exact(Yc (hc.re h5.1) 3).bind λy h=>Z8y (hc.re h.1) hx hy
 ·exact(Z0f (hc.re h5.1) 2).bind λy h=>Z5A (hc.re h) hx hy
 ·exact Z5A (hc.re h5.1) hx hy
 ·exact(QY (hc.re h5.1)).bind λy h=>Z18 (hc.re h.1) (Nat.le_succ_of_le h.2) hy.2.1 hy.2.2 hx.1
 ·refine(Z2a (hc.re h5.1)).bind λy h=>Ok.bind (P:=λ_=>True) (Ok.of (Z30 _ (by have:=h.2;omega)) trivial) λz _=>Z18 (hc.re h.1) hy.1 hy.2.1 hy.2.2 hx.1
 ·exact(QY (hc.re h5.1)).bind λy h=>(Yc (hc.re h.1) 20).bind λz hz=>(QY (hc.re hz.1)).bind λu hu=>Z18 (hc.re hu.1) hy.1 (Nat.le_succ_of_le h.2) (Nat.le_succ_of_le hu.2) hx.1
 ·exact Z18 (hc.re h5.1) hy.1 hy.2.1 hy.2.2 hx.1
theorem Z5B {code:List Int}{c:Z3}(hc:Cu code c){p:Z5}(hp:kB p):Ok (Ze c p) (λr=>Cu code r.1/\sB r.2):=by
 have hz:=Z1r hp
 unfold Ze Ze.b
 simp only[both_eq]
 refine Ok.bind (P:=λh=>h=p) (Ok.of (Z25 p (by omega)) rfl) λh hh=> ?_
 subst hh
 refine Ok.bind (P:=λ_=>True) (Ok.of (Z3R h (by omega)) trivial) λd _=>(Yc hc 40).bind λy3 h3=> ?_
 unfold Ze.l11 Ze.g11
 simp only[both_eq]
 exact(Yc (hc.re h3.1) 60).bind λy4 h4=>Z8x (hc.re h4.1) hp hp
def lB (xs:List Z4):Prop:=∀s∈xs,sB s
theorem Z2R :∀{xs:List Z4},lB xs->X6 xs<=21*xs.length
 |[],_=>Nat.le_refl _
 |s::xs,h=>by
  have ih:=Z2R (xs:=xs) λt ht=>h t (List.mem_cons_of_mem _ ht)
  have hs:=Z5I (h s (List.mem_cons_self ..))
  unfold X6 ZX at ih⊢
  simp only[List.map_cons,List.sum_cons,List.length_cons]
  omega
theorem Z3H {xs:List Z4}{s:Z4}(h:lB xs)(hs:sB s):lB (xs++[s]):=by
 intro t ht
 rcases List.mem_append.1 ht with ht|ht
 ·exact h t ht
 ·rw[List.mem_singleton.1 ht];exact hs
theorem Z3k (xs:List Z4)(s:Z4):(ext xs s).1=xs∨(ext xs s).1=xs++[s]:=by
 unfold ext Z1T
 cases(!W5 xs||decide ((xs.length:Int)>=(12:Int)))with
 |true=>exact .inl rfl
 |false=>
  cases QL (Zb (Ux xs)) s !=(1:Int)with
  |true=>exact .inl rfl
  |false=>exact .inr rfl
theorem Z6X {xs:List Z4}{s:Z4}(h:lB xs)(hs:sB s):lB (ext xs s).1/\xs.length<=(ext xs s).1.length/\(ext xs s).1.length<=xs.length+1:=by
 rcases Z3k xs s with e|e<;>rw[e]
 ·exact⟨h,Nat.le_refl _,Nat.le_succ _⟩
 ·exact⟨Z3H h hs,by rw[QB];omega,by rw[QB];omega⟩
theorem Z6O :sB Xx:=⟨⟨Nat.zero_le _,Nat.zero_le _,Nat.zero_le _⟩,Nat.zero_le _⟩
theorem Z3I {xs:List Z4}(h:lB xs)(i:Nat):sB (xs.getD i Xx):=by
 by_cases hi:i<xs.length
 ·rw[at_n hi];exact h _ (List.getElem_mem _)
 ·have e:xs.getD i Xx=Xx:=by simp[List.getD,show xs.length<=i by omega]
  rw[e];exact Z6O
theorem Z83 {code:List Int}{x0:Z3}:∀(n:Nat) (v a b:Int) (xs:List Z4),v<(n:Int)->0<=v->v<=1000->1<=xs.length->xs.length+v.toNat<=1000->lB xs->Cu code (x0.1,a,b)->Ok (YK.l6 x0 n v a b xs) (λr=>Cu code r.1/\lB r.2/\1<=r.2.length/\r.2.length<=xs.length+v.toNat):=by
 intro n
 induction n with
 |zero=>intro v a b xs h0 h1;omega
 |succ n ih=>
  intro v a b xs h0 h1 h2 hx ha hl hc
  rw[YK.u6]
  refine Ok.ite (λh=> ?_) (λh=>Ok.ret ⟨hc,hl,hx,by show xs.length<=_;omega⟩)
  have h:=ge0 h
  have e:IntKind.i64.wrap ((xs.length:Int)-(1:Int))=(xs.length:Int)-1:=w64 (by omega) (by omega)
  rw[e]
  refine Ok.chk (decide_eq_true (by omega)) (Ok.chk (decide_eq_true (by omega)) ?_)
  refine(Z5B hc (Z3I hl _).1).bind λy hy=>Ok.bind (P:=λz=>z=ext xs y.2) (Ok.of (Z5J xs y.2 ?_ ?_) rfl) λz hz=> ?_
  ·have:=Z2R hl;omega
  ·have:=Z5I hy.2;omega
  ·subst hz
   rw[Z19 h h2]
   obtain⟨k1,k2,k3⟩:=Z6X hl hy.2
   refine(ih (v-1) _ _ (ext xs y.2).1 (by omega) (by omega) (by omega) (by omega) (by omega) k1 (hc.re hy.1)).mono λr hr=>⟨hr.1,hr.2.1,hr.2.2.1,?_⟩
   have:=hr.2.2.2
   omega
theorem Z84 {code:List Int}{c:Z3}(hc:Cu code c):Ok (YK c) (λr=>Cu code r.1/\lB r.2/\1<=r.2.length/\r.2.length<=5):=by
 unfold YK
 refine(Z5k hc).bind λy1 h1=>(Yc (hc.re h1.1) 5).bind λy hy=> ?_
 obtain⟨k1,k2,k3,_⟩:=hy
 have k3:=k3 (by omega)
 have hk:=KK_gt (n:=1000) (by omega)
 refine(Z83 KK y.2 _ _ [y1.2] (by omega) (by omega) (by omega) (Nat.le_refl 1) (by show 1+_<=_;omega) (λs hs=>by rw[List.mem_singleton.1 hs];exact h1.2) (hc.re k1)).mono λr hr=>⟨hr.1,hr.2.1,hr.2.2.1,?_⟩
 have:r.2.length<=1+y.2.toNat:=hr.2.2.2
 omega
theorem Z8m {xs:List Z4}(h:lB xs)(f:Z4->Z4)(hf:∀s,sB s->sB (f s))(i:Nat):lB (V.upd xs i f):=by
 induction xs generalizing i with
 |nil=>exact h
 |cons x xs ih=>
  cases i with
  |zero=>
   intro s hs
   rcases List.mem_cons.1 (show s∈f x::xs from hs)with rfl|hs
   ·exact hf x (h x (List.mem_cons_self ..))
   ·exact h s (List.mem_cons_of_mem _ hs)
  |succ i=>
   intro s hs
   rcases List.mem_cons.1 (show s∈x::V.upd xs i f from hs)with rfl|hs
   ·exact h s (List.mem_cons_self ..)
   ·exact ih (λt ht=>h t (List.mem_cons_of_mem _ ht)) i s hs
theorem Z82 {code:List Int}{c:Z3}(hc:Cu code c):Ok (Qj c) (λr=>Cu code r.1/\lB r.2/\r.2.length<=6):=by
 unfold Qj
 refine(Z84 hc).bind λy1 h1=>(Yc (hc.re h1.1) 10).bind λy2 h2=> ?_
 obtain⟨_,hl,k1,k2⟩:=h1
 have e:IntKind.i64.wrap ((y1.2.length:Int)-(1:Int))=(y1.2.length:Int)-1:=w64 (by omega) (by omega)
 refine Ok.ite (λ_=> ?_) λ_=>Ok.ite (λ_=> ?_) λ_=>Ok.ite (λ_=> ?_) λ_=>Ok.ite (λ_=> ?_) λ_=> ?_
 ·rw[e]
  exact Ok.chk (by decide) (Ok.chk (decide_eq_true (by omega)) (Ok.chk (decide_eq_true (by omega)) (Ok.ret ⟨hc.re h2.1,λs hs=>hl s (List.mem_of_mem_take hs),by show(y1.2.take _).length<=6;rw[List.length_take];omega⟩)))
 ·exact(Z81 (hc.re h2.1)).bind λy3 h3=>Ok.chk (QT (by omega)) (Ok.ret ⟨hc.re h3.1,Z3H hl h3.2,by show(y1.2++[y3.2]).length<=6;rw[QB];omega⟩)
 ·have hp:decide ((0:Int)<(y1.2.length:Int))=true:=decide_eq_true (by omega)
  exact Ok.chk (by decide) (Ok.chk hp (Ok.chk (by decide) (Ok.chk hp (Ok.ret ⟨hc.re h2.1,by refine Z8m hl _ ?_ _;intro s hs;exact hs,by show(V.upd y1.2 _ _).length<=6;rw[Z67];omega⟩))))
 ·exact Ok.chk (by decide) (Ok.chk (decide_eq_true (by omega)) (Ok.chk (decide_eq_true (by omega)) (Ok.ret ⟨hc.re h2.1,λs hs=>hl s (List.mem_of_mem_drop hs),by show(y1.2.drop _).length<=6;rw[List.length_drop];omega⟩)))
 ·exact Ok.ret ⟨hc.re h2.1,hl,by show y1.2.length<=6;omega⟩
theorem Z28 {code:List Int}{c:Z3}(hc:Cu code c):Ok (Wj c) (λr=>Cu code r.1/\r.2.size<=9):=by
 unfold Wj
 refine(Z0f hc 4).bind λy1 h1=>Ok.ite (λ_=> ?_) λ_=> ?_
 ·exact(Z61 (n:=9) (hc.re h1) (by decide) (by decide)).bind λy2 h2=>Ok.ret ⟨hc.re h2.1,h2.2⟩
 ·exact(Z3G (hc.re h1)).bind λy2 h2=>Ok.ret ⟨hc.re h2.1,h2.2⟩
theorem Z9Z {α:Type}(f:α->Nat)(xs:List α)(x y:α):ZX f (xs++[x,y])=ZX f xs+2+f x+f y:=by
 unfold ZX
 simp only[List.length_append,List.map_append,List.sum_append,List.map_cons,List.map_nil,List.sum_cons,List.sum_nil,List.length_cons,List.length_nil]
 omega
theorem Z89 {code:List Int}{c:Z3}(hc:Cu code c):Ok (Qk c) (λr=>Cu code r.1/\XE r.2<=50):=by
 unfold Qk
 refine(Z5r hc).bind λy1 h1=>(Yc (hc.re h1.1) 8).bind λy2 h2=>Ok.ite (λ_=> ?_) λ_=>Ok.ite (λ_=> ?_) λ_=> ?_
 ·refine(Z28 (hc.re h2.1)).bind λy3 h3=>(Z28 (hc.re h3.1)).bind λy4 h4=> ?_
  have hl:y1.2.length<=XE y1.2:=Z1F Wi y1.2
  have h1:=h1.2
  refine Ok.chk (decide_eq_true (by show y1.2.length+2<_;omega)) (Ok.ret ⟨hc.re h4.1,?_⟩)
  have e:XE (y1.2++[y3.2,y4.2])=XE y1.2+2+Wi y3.2+Wi y4.2:=Z9Z _ _ _ _
  have e3:Wi y3.2<=9:=h3.2
  have e4:Wi y4.2<=9:=h4.2
  show XE (y1.2++[y3.2,y4.2])<=50
  omega
 ·exact Ok.ret ⟨hc.re h2.1,by show XE []<=50;decide⟩
 ·exact Ok.ret ⟨hc.re h2.1,Nat.le_trans h1.2 (by decide)⟩
theorem Z8i {code:List Int}{c:Z3}(hc:Cu code c):Ok (Ql c) (λr=>Cu code r.1/\ZL r.2<=89):=by
 unfold Ql
 refine(Z5t hc).bind λy1 h1=>(Yc (hc.re h1.1) 10).bind λy2 h2=> ?_
 have hz:Wi y1.2.1+XE y1.2.2.2.2<=39:=h1.2
 refine Ok.ite (λ_=> ?_) λ_=>Ok.ite (λ_=> ?_) λ_=>Ok.ite (λ_=> ?_) λ_=>Ok.ite (λ_=> ?_) λ_=> ?_
 ·exact(Z0e (hc.re h2.1) (by decide)).bind λy h=>Ok.ret ⟨hc.re h.1,Nat.le_trans hz (by decide)⟩
 ·exact(Z0e (hc.re h2.1) (by decide)).bind λy h=>Ok.ret ⟨hc.re h.1,Nat.le_trans hz (by decide)⟩
 ·refine(Z28 (hc.re h2.1)).bind λy h=>Ok.ret ⟨hc.re h.1,?_⟩
  have h3:Wi y.2<=9:=h.2
  show Wi y.2+XE y1.2.2.2.2<=89
  omega
 ·refine(Z89 (hc.re h2.1)).bind λy h=>Ok.ret ⟨hc.re h.1,?_⟩
  have h3:=h.2
  show Wi y1.2.1+XE y.2<=89
  omega
 ·exact Ok.ret ⟨hc.re h2.1,Nat.le_trans hz (by decide)⟩
theorem Z8j {code:List Int}{x0:Z3}{y2:Z3×Int}(hc:Cu code (x0.1,y2.1.2.1,y2.1.2.2))(ss:List ByteArray)(hs:∀s∈ss,s.size<=1)(hl:ss.length<=12):∀(n i:Nat) (acc:List Z0),ss.length-i<n->i<=ss.length->Zo acc<=240+2*i->
 Ok (YM.l14 x0 y2 n (ss.length:Int) (i:Int) acc ss) (λr=>Cu code r.1/\Zo r.2<=330):=by
 intro n
 induction n with
 |zero=>intro i acc h0;omega
 |succ n ih=>
  intro i acc h0 h1 h2
  rw[YM.u14]
  refine Ok.ite (λh=> ?_) λ_=>Ok.ret ⟨hc,by show Zo acc<=330;omega⟩
  have hi:i<ss.length:=by have:=of_decide_eq_true h;omega
  refine Ok.chk (decide_eq_true (by omega)) (Ok.chk h ?_)
  rw[Int.toNat_natCast,at_n hi,w64_succ (by omega)]
  have hq:Wi ss[i]<=1:=hs _ (List.getElem_mem hi)
  refine Ok.bind (P:=λe=>ZL e<=1) (Ok.ret hq) λe he=>(Z5E acc e (by omega)).bind λz hz=> ?_
  exact ih (i+1) _ (by omega) (by omega) (by omega)
theorem Z8k {code:List Int}{c:Z3}(hc:Cu code c):Ok (YM c) (λr=>Cu code r.1/\Zo r.2<=330):=by
 unfold YM
 refine(Z2a hc).bind λy1 h1=>(Yc (hc.re h1.1) 10).bind λy2 h2=>Ok.ite (λ_=> ?_) λ_=>Ok.ite (λ_=> ?_) λ_=> ?_
 ·refine(Z8i (hc.re h2.1)).bind λy3 h3=> ?_
  have hl:y1.2.length<=Zo y1.2:=Z1F ZL y1.2
  have h1:=h1.2
  refine Ok.chk (QT (by omega)) (Ok.ret ⟨hc.re h3.1,?_⟩)
  have e:Zo (y1.2++[y3.2])=Zo y1.2+1+ZL y3.2:=Z1E _ _ _
  have h3:=h3.2
  show Zo (y1.2++[y3.2])<=330
  omega
 ·have hk:=KK_gt (n:=100) (by omega)
  refine Z8j (hc.re h2.1) _ ?_ (by decide) KK 0 y1.2 (Nat.lt_of_le_of_lt (by decide) hk) (Nat.zero_le _) h1.2
  intro s hs
  exact of_decide_eq_true (List.all_eq_true.1 (by decide:([(⟨#[99]⟩:ByteArray),(⟨#[100]⟩:ByteArray),(⟨#[101]⟩:ByteArray),(⟨#[102]⟩:ByteArray),(⟨#[103]⟩:ByteArray),(⟨#[104]⟩:ByteArray),(⟨#[105]⟩:ByteArray),(⟨#[106]⟩:ByteArray),(⟨#[107]⟩:ByteArray),(⟨#[108]⟩:ByteArray),(⟨#[109]⟩:ByteArray),(⟨#[110]⟩:ByteArray)].all λs=>decide (s.size<=1))=true) s hs)
 ·exact Ok.ret ⟨hc.re h2.1,Nat.le_trans h1.2 (by decide)⟩
def zB (n m:Nat)(z:Z7):Prop:=lB z.1/\z.1.length<=n/\Zo z.2<=m
theorem Z1I {n m:Nat}{z:Z7}(h:zB n m z):Xq z<=21*n+m:=by
 have h1:=Z2R h.1
 have h2:=h.2.1
 have h3:=h.2.2
 unfold Xq
 omega
theorem Za4 {n m:Nat}{z:Z7}(h:zB n m z):X6 z.1<=21*n:=by
 have h1:=Z2R h.1
 have h2:=h.2.1
 omega
theorem Z8o {xs:List Z4}(h:lB xs):kB (Z6 (Z08 xs)):=by
 unfold Z08
 cases W5 xs with
 |true=>rw[cond_t,(Z38 _ _).1];exact(Z3I h _).1
 |false=>exact⟨Nat.zero_le _,Nat.zero_le _,Nat.zero_le _⟩
theorem Z7V {h p:Z5}(hp:kB p)(e1:Zg h=Zg p)(e2:Zf h=Zf p)(e3:Zi h=Zi p):kB h:=by
 unfold kB
 rw[e1,e2,e3]
 exact hp
theorem Z8A (p:Z5)(k a b:Int):Zg (Wo p k a b)=Zg p/\Zf (Wo p k a b)=Zf p/\Zi (Wo p k a b)=Zi p:=by
 unfold Wo nhD
 generalize Z0t p=d
 generalize IntKind.i64.wrap (Yb p+1)=e
 generalize IntKind.i64.wrap (a+b)=u
 exact⟨rfl,rfl,rfl⟩
theorem Z9B (h:Z5)(n r:Int):Zg (setC h n r)=Zg h/\Zf (setC h n r)=Zf h/\Zi (setC h n r)=Zi h:=⟨rfl,rfl,rfl⟩
theorem Z6E {p:Z5}{xs:List Z0}{a b:Int}(h:kB p):kB (Z6 (Z2s p xs a b)):=by
 unfold Z2s
 cases(WA xs&&(Z00 p a b&&(Xk (Wo p 1 a b)&&Xk (Z0a xs (Wo p 1 a b)))))with
 |false=>exact⟨Nat.zero_le _,Nat.zero_le _,Nat.zero_le _⟩
 |true=>
  obtain⟨e1,e2,e3⟩:=Z8A p 1 a b
  rw[cond_t,(Z38 _ _).1]
  unfold Z0a
  obtain⟨f1,f2,f3⟩:=Z9B (Wo p 1 a b) (xs.length:Int) (Z02 xs)
  exact Z7V h (f1.trans e1) (f2.trans e2) (f3.trans e3)
theorem Z9J {p h:Z5}{held:List Int}(hp:kB p)(hh:kB h):sB (QM p h held):=by
 refine Z3V hh ?_
 unfold Z1D
 cases(Y4 h==(2:Int))with
 |true=>exact hp.2.1
 |false=>
  cases(Y4 h==(3:Int))with
  |true=>exact hp.2.2
  |false=>exact hp.1
theorem Z8O {z:Z7}{held:List Int}{h:Z5}{xs:List Z0}{n m:Nat}(hz:zB n m z)(hh:kB h)(hx:Zo xs<=m):zB (n+1) m (Z1j (Z2V z held h xs)):=by
 have keep:zB (n+1) m z:=⟨hz.1,Nat.le_succ_of_le hz.2.1,hz.2.2⟩
 unfold Z2V
 cases Xg z with
 |false=>exact keep
 |true=>
  cases(Uz z held h).2 !=(1:Int)with
  |true=>exact keep
  |false=>
   cases Xg ((Uz z held h).1,xs)with
   |false=>exact keep
   |true=>
    show zB (n+1) m ((Uz z held h).1,xs)
    refine⟨?_,?_,hx⟩
    ·show lB (Uz z held h).1
     unfold Uz
     rcases Z3k z.1 (QM (Xv z) h held)with e|e<;>rw[e]
     ·exact hz.1
     ·exact Z3H hz.1 (Z9J (Z3I hz.1 _).1 hh)
    ·show(Uz z held h).1.length<=_
     have:=hz.2.1
     unfold Uz
     rcases Z3k z.1 (QM (Xv z) h held)with e|e<;>rw[e]
     ·omega
     ·rw[QB];omega
theorem Z4U {code:List Int}{x0:Z3}{z:Z7}{y1:Yi}{xs:List Z0}{a b v22 v23 v24 v25 v26 v27 v28 v29 v31 v33 v34 v36:Int}{l1 l2 l3:List Int}{f:Bool}{n m:Nat}(hm0:240<=m)(hm:m<=1000)(hc:Cu code (x0.1,a,b))(hz:zB n m z)(hn:n<=20)(hx:Zo xs<=m)(hy:kB (Z6 y1))(h1:l1.length<=4)(h2:l2.length<=4)(h3:l3.length<=4):
 Ok (Zq.l25 x0 z y1 xs a b v22 v23 v24 v25 v26 v27 v28 v29 l1 v31 l2 v33 v34 l3 v36 f) (λr=>Cu code r.1/\zB (n+1) m r.2):=by
 obtain⟨k1,k2,k3⟩:=hy
 unfold Zq.l25 Zq.g25
 simp only[both_eq]
 refine Ok.chk (decide_eq_true ?_) (Ok.chk (decide_eq_true ?_) (Ok.chk (decide_eq_true ?_) ?_))
 ·rw[List.length_nil];omega
 ·rw[List.nil_append];omega
 ·rw[List.nil_append,List.length_append];omega
 ·have hs:=Z1I hz
  have hh:kB (Wc v22 v23 v24 v25 v26 v27 v28 v29 (l1,v31) (l2,v33) v34 (l3,v36) f):=⟨h1,h2,h3⟩
  have hh2:=Z1r hh
  have hl:((([]++(Zg (Z6 y1)).1)++(Zf (Z6 y1)).1)++(Zi (Z6 y1)).1).length<=1050000:=by
   rw[List.nil_append,List.length_append,List.length_append];omega
  refine Ok.bind (Ok.of (Z9p z _ _ xs (by omega) hl) (Z8O hz hh hx)) λy hy=>Ok.ret ⟨hc,hy⟩
theorem Z76 {code:List Int}{x0:Z3}{z:Z7}{y1:Yi}{y2:Z3×Z4}{y4:Z3×List Z0}{n m:Nat}(hm0:240<=m)(hm:m<=1000)(hc:Cu code (x0.1,y4.1.2.1,y4.1.2.2))(hz:zB n m z)(hn:n<=20)(hx:Zo y4.2<=m)(hy:kB (Z6 y1)):
 Ok (Zq.l19 x0 z y1 y2 y4) (λr=>Cu code r.1/\zB (n+1) m r.2):=by
 unfold Zq.l19 Zq.g19
 simp only[both_eq]
 have hs:=Z1r hy
 refine(Yc hc 30).bind λy5 h5=>(Yc (hc.re h5.1) 100).bind λy6 h6=>Ok.bind (P:=λy=>kB (Z6 y)) (Ok.of (Z8V _ _ _ _ (by omega) (by omega)) (Z6E hy)) λy7 h7=> ?_
 exact Z4U hm0 hm (hc.re h6.1) hz hn hx hy h7.1 h7.2.1 h7.2.2
theorem Z4V {code:List Int}{c:Z3}{z:Z7}{n m:Nat}(hm0:240<=m)(hm:m<=1000)(hc:Cu code c)(hz:zB n m z)(hn:n<=20):Ok (Zq c z) (λr=>Cu code r.1/\zB (n+1) m r.2):=by
 have hs:=Za4 hz
 have hk:=Z8o hz.1
 unfold Zq
 refine Ok.bind (P:=λy=>y=Z08 z.1) (Ok.of (Z1C z.1 (by omega)) rfl) λy1 h1=> ?_
 subst h1
 refine Ok.ite (λ_=>Ok.ret ⟨hc,hz.1,Nat.le_succ_of_le hz.2.1,hz.2.2⟩) λ_=> ?_
 refine(Z5B hc hk).bind λy2 h2=>(Z0f (hc.re h2.1) 2).bind λy3 h3=>Ok.ite (λ_=> ?_) λ_=> ?_
 ·exact(Z2a (hc.re h3)).bind λy4 h4=>Z76 hm0 hm (hc.re h4.1) hz hn (Nat.le_trans h4.2 hm0) hk
 ·exact Z4U hm0 hm (hc.re h3) hz hn hz.2.2 hk h2.2.1.1 h2.2.1.2.1 h2.2.1.2.2
theorem Za7 {code:List Int}{x0:Z3}:∀(n:Nat) (v a b:Int) (c:List Z4) (e:List Z0) (k:Nat),v<(n:Int)->0<=v->v<=1000->k+v.toNat<=20->zB k 240 (c,e)->Cu code (x0.1,a,b)->Ok (ZC.l8 x0 n v a b c e) (λr=>Cu code r.1/\zB (k+v.toNat) 240 r.2):=by
 intro n
 induction n with
 |zero=>intro v a b c e k h0 h1;omega
 |succ n ih=>
  intro v a b c e k h0 h1 h2 h3 hz hc
  rw[ZC.u8]
  refine Ok.ite (λh=> ?_) (λh=>Ok.ret ⟨hc,hz.1,Nat.le_trans hz.2.1 (Nat.le_add_right ..),hz.2.2⟩)
  have h:=ge0 h
  refine(Z4V (Nat.le_refl 240) (by decide) hc hz (by omega)).bind λy hy=> ?_
  rw[Z19 h h2]
  refine(ih (v-1) _ _ _ _ (k+1) (by omega) (by omega) (by omega) (by omega) hy.2 (hc.re hy.1)).mono λr hr=>⟨hr.1,?_⟩
  rw[show k+v.toNat=k+1+(v-1).toNat by omega]
  exact hr.2
theorem Z8w {k:Zc}{s:Int}{xs:List Z0}{now term:Int}(hk:k.1.length<=4)(hx:Zo xs<=240):zB 1 240 (Y0 (Z2U k s xs now term)):=by
 unfold Z2U
 cases Z0F k s xs now term with
 |false=>
  refine⟨?_,Nat.zero_le _,Nat.zero_le _⟩
  intro t ht
  exact absurd ht (List.not_mem_nil)
 |true=>
  rw[cond_t,(Z6o _ _).1]
  refine⟨?_,Nat.le_refl 1,hx⟩
  intro t ht
  rw[List.mem_singleton.1 ht]
  exact Z3V ⟨hk,Nat.zero_le _,Nat.zero_le _⟩ hk
theorem Za5 {code:List Int}{x0:Z3}{a b:Int}{c:List Z4}{e:List Z0}(hc:Cu code (x0.1,a,b))(hz:zB 1 240 (c,e)):Ok (ZC.l7 x0 a b c e) (λr=>Cu code r.1/\zB 4 240 r.2):=by
 refine(Yc hc 4).bind λy hy=> ?_
 obtain⟨h1,h2,h3,_⟩:=hy
 have h3:=h3 (by omega)
 have hk:=KK_gt (n:=1000) (by omega)
 refine(Za7 KK y.2 _ _ c e 1 (by omega) (by omega) (by omega) (by omega) hz (hc.re h1)).mono λr hr=>⟨hr.1,hr.2.1,?_,hr.2.2.2⟩
 have:=hr.2.2.1
 omega
theorem Z5n {code:List Int}{c:Z3}(hc:Cu code c):Ok (ZC c) (λr=>Cu code r.1/\zB 4 240 r.2):=by
 unfold ZC ZC.b
 simp only[both_eq]
 refine(QY hc).bind λy1 h1=>(Yc (hc.re h1.1) 9).bind λy2 h2=>(Z2a (hc.re h2.1)).bind λy3 h3=>(Yc (hc.re h3.1) 30).bind λy4 h4=>(Yc (hc.re h4.1) 100).bind λy5 h5=> ?_
 have hk:=h1.2
 have hx:=h3.2
 refine Ok.bind (P:=λy=>zB 1 240 (Y0 y)) (Ok.of (Z9h y1.2 y2.2 y3.2 y4.2 _ (Nat.le_trans hk (by decide)) (by omega)) (Z8w (Nat.le_succ_of_le hk) hx)) λy6 h6=>Za5 (hc.re h5.1) h6
theorem Z5m {code:List Int}{c:Z3}(hc:Cu code c):Ok (U4 c) (λr=>Cu code r.1/\zB 6 330 r.2):=by
 unfold U4
 refine(Z5n hc).bind λy1 h1=>(Yc (hc.re h1.1) 8).bind λy2 h2=> ?_
 obtain⟨_,hl,hn,he⟩:=h1
 refine Ok.ite (λ_=> ?_) λ_=>Ok.ite (λ_=> ?_) λ_=> ?_
 ·exact(Z8k (hc.re h2.1)).bind λy3 h3=>Ok.ret ⟨hc.re h3.1,hl,Nat.le_trans hn (by decide),h3.2⟩
 ·exact(Z82 (hc.re h2.1)).bind λy3 h3=>Ok.ret ⟨hc.re h3.1,h3.2.1,h3.2.2,Nat.le_trans he (by decide)⟩
 ·exact Ok.ret ⟨hc.re h2.1,hl,Nat.le_trans hn (by decide),Nat.le_trans he (by decide)⟩
theorem Z8I {x d:Int}(h:1000003*x=2147483647*d)(h1: -2147483647<x)(h2:x<2147483647):x=0:=by
 have e:x=2147483647*(1523789695*d-709572*x):=by
  have:1523789695*(1000003*x)=1523789695*(2147483647*d):=by rw[h]
  omega
 revert e
 generalize 1523789695*d-709572*x=w
 intro e
 omega
theorem Z9S {h h' m:Int}(a:0<=h)(b:h<=2147483646)(a':0<=h')(b':h'<=2147483646)(e:(h*1000003+m+13)%2147483647=(h'*1000003+m+13)%2147483647):h=h':=by
 have e1:=Int.mul_ediv_add_emod (h*1000003+m+13) 2147483647
 have e2:=Int.mul_ediv_add_emod (h'*1000003+m+13) 2147483647
 revert e e1 e2
 generalize (h*1000003+m+13)/2147483647=q1
 generalize (h'*1000003+m+13)/2147483647=q2
 generalize (h*1000003+m+13)%2147483647=r1
 generalize (h'*1000003+m+13)%2147483647=r2
 intro e e1 e2
 subst e
 have:h-h'=0:=Z8I (d:=q1-q2) (by omega) (by omega) (by omega)
 omega
theorem Z9T {c m m':Int}(a:0<=m)(b:m<=2147483646)(a':0<=m')(b':m'<=2147483646)(e:(c+m)%2147483647=(c+m')%2147483647):m=m':=by
 have e1:=Int.mul_ediv_add_emod (c+m) 2147483647
 have e2:=Int.mul_ediv_add_emod (c+m') 2147483647
 revert e e1 e2
 generalize (c+m)/2147483647=q1
 generalize (c+m')/2147483647=q2
 generalize (c+m)%2147483647=r1
 generalize (c+m')%2147483647=r2
 intro e e1 e2
 omega
theorem Z3M (a:Int):0<=Uy a/\Uy a<=2147483646:=by
 have h:=Za2 a (m:=2147483647) (by omega)
 unfold Uy
 rw[w64 (by omega) (by omega)]
 have h1:=Int.tmod_nonneg (2147483647:Int) (show 0<=Int.tmod a 2147483647+2147483647 by omega)
 have h2:=Int.tmod_lt_of_pos (Int.tmod a 2147483647+2147483647) (show(0:Int)<2147483647 by omega)
 omega
theorem Z0L {a:Int}(h0:0<=a)(h1:a<=2147483646):Uy a=a:=by
 unfold Uy
 rw[Int.tmod_eq_emod_of_nonneg h0,w64 (by omega) (by omega),Int.tmod_eq_emod_of_nonneg (by omega)]
 omega
theorem Z1W {h:Int}(a:Int)(h0:0<=h)(h1:h<=2147483646):WN h a=(h*1000003+Uy a+13)%2147483647:=by
 have hm:=Z3M a
 unfold WN
 rw[w64 (n:=h*1000003) (by omega) (by omega),w64 (n:=h*1000003+Uy a) (by omega) (by omega),w64 (n:=h*1000003+Uy a+13) (by omega) (by omega),Int.tmod_eq_emod_of_nonneg (by omega)]
theorem Z1q {h:Int}(a:Int)(h0:0<=h)(h1:h<=2147483646):0<=WN h a/\WN h a<=2147483646:=by
 rw[Z1W a h0 h1]
 omega
theorem Z3m :∀(xs:List Int) (h:Int),0<=h->h<=2147483646->0<=xs.foldl WN h/\xs.foldl WN h<=2147483646
 |[],h,h0,h1=>⟨h0,h1⟩
 |x::xs,h,h0,h1=>Z3m xs (WN h x) (Z1q x h0 h1).1 (Z1q x h0 h1).2
theorem Z11 (xs:List Int):0<=hs xs/\hs xs<=2147483646:=Z3m xs 11 (by omega) (by omega)
theorem Z4Q :∀(xs:List Int) (h h':Int),0<=h->h<=2147483646->0<=h'->h'<=2147483646->xs.foldl WN h=xs.foldl WN h'->h=h'
 |[],h,h',_,_,_,_,e=>e
 |x::xs,h,h',a,b,a',b',e=>by
  have r:=Z1q x a b
  have r':=Z1q x a' b'
  have:=Z4Q xs (WN h x) (WN h' x) r.1 r.2 r'.1 r'.2 e
  rw[Z1W x a b,Z1W x a' b']at this
  exact Z9S a b a' b' this
theorem Z2E {pre post:List Int}{a b:Int}(e:hs (pre++a::post)=hs (pre++b::post)):Uy a=Uy b:=by
 unfold hs at e
 rw[List.foldl_append,List.foldl_append]at e
 have r:=Z3m pre 11 (by omega) (by omega)
 revert e r
 generalize pre.foldl WN 11=h
 intro e r
 have ra:=Z1q a r.1 r.2
 have rb:=Z1q b r.1 r.2
 have:=Z4Q post (WN h a) (WN h b) ra.1 ra.2 rb.1 rb.2 e
 rw[Z1W a r.1 r.2,Z1W b r.1 r.2]at this
 have ma:=Z3M a
 have mb:=Z3M b
 exact Z9T (c:=h*1000003+13) ma.1 ma.2 mb.1 mb.2 (by rw[show h*1000003+13+Uy a=h*1000003+Uy a+13 by omega,show h*1000003+13+Uy b=h*1000003+Uy b+13 by omega];exact this)
theorem Z8E {a b p:Int}(ha:0<=a/\a<=2147483646)(hb:0<=b/\b<=2147483646)(e:Qu a p=Qu b p):a=b:=by
 have:=Z2E (pre:=[229]) (post:=[p]) e
 rwa [Z0L ha.1 ha.2,Z0L hb.1 hb.2]at this
theorem Z8F {a b p:Int}(ha:0<=a/\a<=2147483646)(hb:0<=b/\b<=2147483646)(e:Qu p a=Qu p b):a=b:=by
 have:=Z2E (pre:=[229,p]) (post:=[]) e
 rwa [Z0L ha.1 ha.2,Z0L hb.1 hb.2]at this
theorem Z8Q {n a b:Int}(ha:0<=a/\a<=2147483646)(hb:0<=b/\b<=2147483646)(e:Z1x n a=Z1x n b):a=b:=by
 have:=Z2E (pre:=[231,n]) (post:=[]) e
 rwa [Z0L ha.1 ha.2,Z0L hb.1 hb.2]at this
theorem Z35 :∀(m:Nat) (a:Int) (i n:Nat) (p:List Int),0<=a/\a<=2147483646->0<=(tf m a i n p).1/\(tf m a i n p).1<=2147483646
 |0,a,i,n,p,_=>by unfold tf;exact⟨by decide,by decide⟩
 |m+1,a,i,n,p,ha=>by
  unfold tf
  by_cases h1:n<=1
  ·rw[decide_eq_true h1,cond_t]
   cases decide (p.length=0)
   ·rw[cond_f];exact⟨by decide,by decide⟩
   ·rw[cond_t];exact ha
  ·rw[decide_eq_false h1,cond_f]
   cases(decide (i%2=0)&&decide (n<=i+1))with
   |true=>rw[cond_t];exact Z35 m a _ _ p ha
   |false=>
    rw[cond_f]
    cases p with
    |nil=>exact⟨Int.le_refl 0,by show(0:Int)<=2147483646;decide⟩
    |cons q t=>
     refine Z35 m _ _ _ t ?_
     cases decide (i%2=0)
     ·rw[cond_f];exact Z11 _
     ·rw[cond_t];exact Z11 _
theorem Z34 :∀(m:Nat) (a b:Int) (i n:Nat) (p:List Int),0<=a/\a<=2147483646->0<=b/\b<=2147483646->(tf m a i n p).2=true->(tf m a i n p).1=(tf m b i n p).1->a=b
 |0,a,b,i,n,p,_,_,h,_=>by unfold tf at h;cases h
 |m+1,a,b,i,n,p,ha,hb,h,e=>by
  unfold tf at h e
  by_cases h1:n<=1
  ·rw[decide_eq_true h1,cond_t]at h e
   rw[cond_t]at e
   cases hp:decide (p.length=0)with
   |false=>rw[hp,cond_f]at h;cases h
   |true=>rw[hp,cond_t,cond_t]at e;exact e
  ·rw[decide_eq_false h1,cond_f]at h e
   rw[cond_f]at e
   cases hq:(decide (i%2=0)&&decide (n<=i+1))with
   |true=>rw[hq,cond_t]at h e;rw[cond_t]at e;exact Z34 m a b _ _ p ha hb h e
   |false=>
    rw[hq,cond_f]at h e
    rw[cond_f]at e
    cases p with
    |nil=>cases h
    |cons q t=>
     cases hi:decide (i%2=0)with
     |true=>
      rw[hi]at h e
      exact Z8E ha hb (Z34 m (Qu a q) (Qu b q) _ _ t (Z11 _) (Z11 _) h e)
     |false=>
      rw[hi]at h e
      exact Z8F ha hb (Z34 m (Qu q a) (Qu q b) _ _ t (Z11 _) (Z11 _) h e)
theorem Z43 :∀(L:List Int) (j:Nat),2*j+1<L.length->(up L).getD j 0=Qu (L.getD (2*j) 0) (L.getD (2*j+1) 0)
 |[],j,h=>by simp at h
 |[a],j,h=>by simp at h
 |a::b::t,0,h=>rfl
 |a::b::t,j+1,h=>by
  have:=Z43 t j (by simp at h;omega)
  rw[show 2*(j+1)=2*j+1+1 by omega]
  exact this
theorem Z66 :∀(L:List Int) (j:Nat),2*j+1=L.length->(up L).getD j 0=L.getD (2*j) 0
 |[],j,h=>by simp at h
 |[a],j,h=>by
  have:j=0:=by simp at h;omega
  subst this;rfl
 |a::b::t,0,h=>by simp at h
 |a::b::t,j+1,h=>by
  have:=Z66 t j (by simp at h;omega)
  rw[show 2*(j+1)=2*j+1+1 by omega]
  exact this
theorem Z62 :∀(m k q:Nat) (L:List Int) (i:Nat),L.length<m->L.length<k->L.length<q->i<L.length->tf m (L.getD i 0) i L.length (pf k L i)=(Z1G q L,true)
 |0,k,q,L,i,h,_,_,_=>by omega
 |m+1,0,q,L,i,_,h,_,_=>by omega
 |m+1,k+1,0,L,i,_,_,h,_=>by omega
 |m+1,k+1,q+1,L,i,h1,h2,h3,hi=>by
  unfold tf pf Z1G
  by_cases hn:L.length<=1
  ·have hi0:i=0:=by omega
   subst hi0
   rw[decide_eq_true hn,cond_t,decide_eq_false (show¬(L.length:Int)>1 by omega),cond_f,cond_f]
   rfl
  ·have hul:=Z1H L
   rw[decide_eq_false hn,cond_f,decide_eq_true (show(L.length:Int)>1 by omega),cond_t,cond_t]
   have ih:=Z62 m k q (up L) (i/2) (by omega) (by omega) (by omega) (by omega)
   rw[hul]at ih
   by_cases he:i%2=0
   ·by_cases hl:L.length<=i+1
    ·have e1:¬UA i<L.length:=by unfold UA;rw[decide_eq_true he,cond_t];omega
     rw[decide_eq_true he,decide_eq_true hl,Bool.and_self,cond_t,decide_eq_false e1,cond_f,List.nil_append]
     have:=Z66 L (i/2) (by omega)
     rw[show 2*(i/2)=i by omega]at this
     rw[this]at ih
     exact ih
    ·have es:UA i=i+1:=by unfold UA;rw[decide_eq_true he,cond_t]
     rw[decide_eq_true he,decide_eq_false hl,Bool.and_false,cond_f,es,decide_eq_true (show i+1<L.length by omega),cond_t]
     have:=Z43 L (i/2) (by omega)
     rw[show 2*(i/2)=i by omega]at this
     rw[this]at ih
     exact ih
   ·have es:UA i=i-1:=by unfold UA;rw[decide_eq_false he,cond_f]
    rw[decide_eq_false he,Bool.false_and,cond_f,es,decide_eq_true (show i-1<L.length by omega),cond_t]
    have:=Z43 L (i/2) (by omega)
    rw[show 2*(i/2)=i-1 by omega,show i-1+1=i by omega]at this
    rw[this]at ih
    exact ih
theorem Z8r (xs:List Z0){i:Nat}(h:i<xs.length):(leaves xs).getD i 0=WR xs[i]:=by
 unfold leaves
 rw[at_n (by rw[List.length_map];exact h),List.getElem_map]
theorem Za3 {xs:List Z0}{i:Nat}(hl:xs.length<=12)(h:i<xs.length):Z0g (WR xs[i]) (i:Int) (xs.length:Int) (UH (leaves xs) (i:Int))=(Z0S (leaves xs),true):=by
 have hll:=Z1v xs
 have hk:=KK_gt (n:=100) (by omega)
 unfold Z0g UH Z0S
 rw[(WQ (xs.length:Int) 1 12).2 (by omega),(WQ (i:Int) 0 ((xs.length:Int)-1)).2 (by omega),(WQ (i:Int) 0 (((leaves xs).length:Int)-1)).2 (by omega),Bool.and_self,cond_t,cond_t,Int.toNat_natCast,Int.toNat_natCast,←Z8r xs h,←hll]
 rw[show(((leaves xs).length:Int)==(0:Int))=false by rw[beq_eq_false_iff_ne];omega,cond_f]
 exact Z62 KK KK KK (leaves xs) i (by omega) (by omega) (by omega) (by omega)
theorem Z2S (e:Z0):0<=WR e/\WR e<=2147483646:=Z11 _
theorem Z8q (s:ByteArray)(k v w:Int)(p:List ByteArray)(e:WR (s,k,v,p)=WR (s,k,w,p)):Uy v=Uy w:=by
 unfold WR Z0m at e
 refine Z2E (pre:=227::(Z09 s++[k])) (post:=(p.length:Int)::p.flatMap Z09) ?_
 simpa using e
theorem Z5d {e:Z0}(h:QI e=true):0<=e.2.2.1/\e.2.2.1<=2147483646:=by
 unfold QI at h
 rw[Bool.and_eq_true]at h
 have h:=h.2
 cases h1:(e.2.1==(1:Int))with
 |true=>
  rw[h1,cond_t,Bool.and_eq_true,WQ]at h
  omega
 |false=>
  rw[h1,cond_f]at h
  cases h2:(e.2.1==(2:Int))with
  |true=>
   rw[h2,cond_t,Bool.and_eq_true,WQ]at h
   omega
  |false=>
   rw[h2,cond_f]at h
   cases h3:(e.2.1==(3:Int))with
   |true=>
    rw[h3,cond_t,Bool.and_eq_true,WQ]at h
    omega
   |false=>rw[h3,cond_f]at h;cases h
theorem Z6F {xs:List Z0}{i:Nat}(ha:WA xs=true)(h:i<xs.length):Qy (Z02 xs) (xs.length:Int) (xs[i].1,xs[i].2.1,IntKind.i64.wrap (xs[i].2.2.1+(1:Int)),xs[i].2.2.2) ((i:Int),UH (leaves xs) (i:Int))=false:=by
 have hl:=Z2p xs ha
 have he:=Z5d (Z4j xs ha _ (List.getElem_mem h))
 rw[w64 (n:=xs[i].2.2.1+1) (by omega) (by omega)]
 cases hc:Qy (Z02 xs) (xs.length:Int) (xs[i].1,xs[i].2.1,xs[i].2.2.1+(1:Int),xs[i].2.2.2) ((i:Int),UH (leaves xs) (i:Int))with
 |false=>rfl
 |true=>
  unfold Qy at hc
  simp only[Bool.and_eq_true,beq_iff_eq]at hc
  obtain⟨h1,h2,h3⟩:=hc
  have hv:=Z5d h1
  have hv:0<=xs[i].2.2.1+1/\xs[i].2.2.1+1<=2147483646:=hv
  have ho:=Za3 hl h
  have e1:tf KK (WR (xs[i].1,xs[i].2.1,xs[i].2.2.1+(1:Int),xs[i].2.2.2)) i xs.length (UH (leaves xs) (i:Int))=Z0g (WR (xs[i].1,xs[i].2.1,xs[i].2.2.1+(1:Int),xs[i].2.2.2)) (i:Int) (xs.length:Int) (UH (leaves xs) (i:Int)):=by
   unfold Z0g
   rw[(WQ (xs.length:Int) 1 12).2 (by omega),(WQ (i:Int) 0 ((xs.length:Int)-1)).2 (by omega),Bool.and_self,cond_t,Int.toNat_natCast,Int.toNat_natCast]
  have e2:tf KK (WR xs[i]) i xs.length (UH (leaves xs) (i:Int))=(Z0S (leaves xs),true):=by
   rw[←ho]
   unfold Z0g
   rw[(WQ (xs.length:Int) 1 12).2 (by omega),(WQ (i:Int) 0 ((xs.length:Int)-1)).2 (by omega),Bool.and_self,cond_t,Int.toNat_natCast,Int.toNat_natCast]
  rw[←e1]at h2 h3
  unfold Z02 at h3
  have r1:=Z35 KK (WR (xs[i].1,xs[i].2.1,xs[i].2.2.1+(1:Int),xs[i].2.2.2)) i xs.length (UH (leaves xs) (i:Int)) (Z2S _)
  have r2:=Z35 KK (WR xs[i]) i xs.length (UH (leaves xs) (i:Int)) (Z2S _)
  rw[e2]at r2
  have h4:=Z8Q r1 r2 h3
  have h5:=Z34 KK (WR (xs[i].1,xs[i].2.1,xs[i].2.2.1+(1:Int),xs[i].2.2.2)) (WR xs[i]) i xs.length (UH (leaves xs) (i:Int)) (Z2S _) (Z2S _) h2 (by rw[e2];exact h4)
  have h6:=Z8q xs[i].1 xs[i].2.1 (xs[i].2.2.1+1) xs[i].2.2.1 xs[i].2.2.2 h5
  rw[Z0L hv.1 hv.2,Z0L he.1 he.2]at h6
  omega
theorem Z4P {α:Type}(p:α->Bool):∀(xs:List α) (k:Int) (i:Nat) (h:i<xs.length),p xs[i]=true->(∀j (hj:j<i),p (xs[j]'(by omega))=false)->Wl p xs k=k+(i:Int)
 |[],k,i,h,_,_=>by simp at h
 |x::xs,k,0,h,hp,_=>by
  have hp:p x=true:=hp
  rw[Z0r,hp,cond_t];simp
 |x::xs,k,i+1,h,hp,hn=>by
  have h0:p x=false:=hn 0 (by omega)
  rw[Z0r,h0,cond_f,Z4P p xs (k+1) i (by simpa using h) (by simpa using hp) (λj hj=>by simpa using hn (j+1) (by omega))]
  omega
theorem Z3l {α:Type}(p:α->Bool):∀(xs:List α) (k:Int),0<=k->(Wl p xs k= -1/\∀x∈xs,p x=false)∨∃i,∃h:i<xs.length,Wl p xs k=k+(i:Int)/\p xs[i]=true
 |[],k,_=> .inl ⟨rfl,λx hx=>by simp at hx⟩
 |x::xs,k,hk=>by
  rw[Z0r]
  cases hp:p x with
  |true=>exact .inr ⟨0,by simp,by rw[cond_t];simp,hp⟩
  |false=>
   rw[cond_f]
   rcases Z3l p xs (k+1) (by omega)with⟨h1,h2⟩|⟨i,h1,h2,h3⟩
   ·refine .inl ⟨h1,λy hy=> ?_⟩
    rcases List.mem_cons.1 hy with rfl|hy
    ·exact hp
    ·exact h2 y hy
   ·exact .inr ⟨i+1,by simpa using h1,by rw[h2];omega,by simpa using h3⟩
theorem Z8K {xs:List Z0}{l:ByteArray}{i:Nat}(h:W3 xs l=(i:Int)):UO (Z01 xs l)=((i:Int),UH (leaves xs) (i:Int)):=by
 unfold Z01
 rw[h,decide_eq_false (by omega),cond_f,(Z49 _ _).1]
theorem Z4G (a:ByteArray):Z0o a a=true:=beq_self_eq_true _
theorem Z4c {α:Type}(g:α->α->Bool)(h:∀a,g a a=true):∀xs:List α,all2 g xs xs=true
 |[]=>rfl
 |x::xs=>by unfold all2;rw[h,Z4c g h xs];rfl
theorem Z1S {α:Type}(g:α->α->Bool)(h:∀a,g a a=true)(xs:List α):Qn g xs xs=true:=by
 unfold Qn
 rw[decide_eq_true rfl,Z4c g h];rfl
theorem Z2z (e:Z0):UQ e e=true:=by
 unfold UQ
 rw[Z4G,beq_self_eq_true,beq_self_eq_true,Z1S Z0o Z4G];rfl
theorem Z3j (p:Xw):Z0n p p=true:=by
 unfold Z0n
 rw[beq_self_eq_true,decide_eq_true rfl];rfl
theorem Z6V (g:Y5):Z1m g g=true:=by
 unfold Z1m
 rw[beq_self_eq_true,Z2z,Z2z,Z3j,Z3j];rfl
theorem Z4F (s:Z4):QU s s=true:=by
 unfold QU Z1n
 rw[decide_eq_true rfl,decide_eq_true rfl];rfl
theorem Z4E (a:Zk):Z2y a a=true:=by
 unfold Z2y
 rw[Z1S QU Z4F,beq_self_eq_true,Z2z,Z3j,Z6V];rfl
theorem Z4H (z:Z7):Z0E z z=true:=by
 unfold Z0E
 rw[Z1S QU Z4F,Z1S UQ Z2z];rfl
theorem Z6W (s:Z8):Z2A s s=true:=by
 unfold Z2A
 rw[beq_self_eq_true,Z1S Z0E Z4H];rfl
theorem Z45 {z:Z7}(h:Xg z=true):W5 z.1=true/\ZH (Xv z)=(z.2.length:Int)/\WA z.2=true/\ZY (Xv z)=Z02 z.2/\Xr z=ZS (Xv z):=by
 have h0:=h
 unfold Xg Z0X at h
 simp only[Bool.and_eq_true,beq_iff_eq]at h
 exact⟨h.1,h.2.1,h.2.2.1,h.2.2.2.symm,by unfold Xr;rw[h0,cond_t]⟩
theorem Z4g {z:Z7}{l:ByteArray}(hz:Xg z=true)(hl:XS l=true):U8 z l=QS z l/\Yh (QS z l)=z.1/\UM (QS z l)=decide (W3 z.2 l>=0):=by
 refine⟨by unfold U8;rw[hz,hl];rfl,?_,?_⟩
 ·unfold QS
  cases decide (W3 z.2 l>=0)
  ·rw[cond_f,(XZ _ _ _ _ _).1]
  ·rw[cond_t,(XZ _ _ _ _ _).1]
 ·unfold QS
  cases decide (W3 z.2 l>=0)
  ·rw[cond_f,(XZ _ _ _ _ _).2.1]
  ·rw[cond_t,(XZ _ _ _ _ _).2.1]
theorem Z6Z {xs:List Z0}{l:ByteArray}(h:W3 xs l>=0):∃i,∃hi:i<xs.length,W3 xs l=(i:Int)/\(xs[i].1.toList==l.toList)=true:=by
 unfold W3 at h⊢
 rcases Z3l (λe:Z0=>e.1.toList==l.toList) xs 0 (Int.le_refl 0)with⟨h1,_⟩|⟨i,hi,h1,h2⟩
 ·omega
 ·exact⟨i,hi,by rw[h1,Int.zero_add],h2⟩
theorem Z8u {z:Z7}{l:ByteArray}(hz:Xg z=true)(hl:XS l=true):proved (Xv z) l (Z2c (QS z l))=false:=by
 obtain⟨_,hc,ha,hr,_⟩:=Z45 hz
 unfold proved Z2c
 rw[(XZ _ _ _ _ _).2.1,(XZ _ _ _ _ _).2.2.1,(XZ _ _ _ _ _).2.2.2.1,(XZ _ _ _ _ _).2.2.2.2,(Z4g hz hl).2.2,hc,hr]
 unfold QS
 by_cases h:W3 z.2 l>=0
 ·obtain⟨i,hi,h1,h2⟩:=Z6Z h
  rw[decide_eq_true h,cond_t,cond_t,(XZ _ _ _ _ _).2.2.1,(XZ _ _ _ _ _).2.2.2.1,(XZ _ _ _ _ _).2.2.2.2,Z8K h1,h1,Int.toNat_natCast,at_n hi,Z6F ha hi,Bool.false_and,Bool.and_false]
 ·rw[decide_eq_false h,cond_f,cond_f,(XZ _ _ _ _ _).2.2.1,(XZ _ _ _ _ _).2.2.2.1,(XZ _ _ _ _ _).2.2.2.2]
  have:Z04 (Zw.1,Zw.2.1,IntKind.i64.wrap (Zw.2.2.1+(1:Int)),Zw.2.2.2) Ua=false:=by
   unfold Z04 UQ
   have e:((Zw.1,Zw.2.1,IntKind.i64.wrap (Zw.2.2.1+(1:Int)),Zw.2.2.2):Z0).2.2.1=1:=by
    show IntKind.i64.wrap ((0:Int)+1)=1
    rw[w64 (by decide) (by decide)];rfl
   rw[e,show((1:Int)==eZ.2.2.1)=false from rfl,Bool.false_and,Bool.and_false,Bool.and_false,Bool.false_and]
  rw[this,Bool.and_false]
theorem Z6C {z:Z7}(hz:Xg z=true){a:Zk}(ha:Yh a=z.1)(zone:Int)(l:ByteArray)(now:Int):Z0Y zone l a now=bif ZS (Xv z) !=zone then 2 else bif !Xf now (Zt (Xv z)) (ZZ (Xv z))then 4 else bif Zr (Xv z)then 5 else bif !proved (Xv z) l a then 6 else 1:=by
 have e:Z0j a=Xv z:=by unfold Z0j Xv;rw[ha]
 unfold Z0Y
 rw[ha,(Z45 hz).1,Bool.not_true,cond_f,e]
theorem Z6B {z:Z7}(hz:Xg z=true){a:Zk}(ha:Yh a=z.1){zone:Int}{l:ByteArray}{now:Int}(hp:proved (Xv z) l a=false):(Z0Y zone l a now==(1:Int))=false:=by
 rw[Z6C hz ha,hp]
 cases(ZS (Xv z) !=zone)<;>cases Xf now (Zt (Xv z)) (ZZ (Xv z))<;>cases Zr (Xv z)<;>rfl
theorem Z5x (y:Zk):Yh (Z2c y)=Yh y:=(XZ _ _ _ _ _).1
theorem Z8s (z:Z7)(zone:Int)(l:ByteArray)(now:Int):(Z0Y zone l (Z2c (U8 z l)) now==(1:Int))=false:=by
 cases hz:(Xg z&&XS l)with
 |true=>
  rw[Bool.and_eq_true]at hz
  obtain⟨e1,e2,_⟩:=Z4g hz.1 hz.2
  rw[e1]
  exact Z6B hz.1 (by rw[Z5x,e2]) (Z8u hz.1 hz.2)
 |false=>
  have e:U8 z l=U9:=by unfold U8;rw[hz,cond_f]
  rw[e]
  unfold Z0Y
  rw[Z5x]
  have:W5 (Yh U9)=false:=by
   cases hc:W5 (Yh U9)with
   |false=>rfl
   |true=>have:=(Z21 _ hc).1;exact absurd this (by show¬1<=0;omega)
  rw[this]
  rfl
theorem Z6r (z:Z7)(l:ByteArray):Q2 (U8 z l)<=X6 z.1+300:=by
 have e1:ZL Zw=0:=rfl
 have e2:QC Ua=0:=rfl
 have e3:Z03 Up=0:=rfl
 unfold U8
 cases hz:(Xg z&&XS l)with
 |false=>exact Nat.zero_le _
 |true=>
  rw[Bool.and_eq_true]at hz
  have ha:=Z3y z hz.1
  have hl:=Z2p z.2 ha
  have hg:∀i,ZL (z.2.getD i Zw)<=44:=by
   intro i
   by_cases h:i<z.2.length
   ·rw[at_n h];exact Z7Q _ (Z4j z.2 ha _ (List.getElem_mem h))
   ·have e:z.2.getD i Zw=Zw:=by simp[List.getD,show z.2.length<=i by omega]
    rw[e];omega
  have hp:=Z8J z.2
  have hgap:Z03 (Z0h (Z0M z.2 l))<=112:=by
   unfold Z0M
   cases(WA z.2&&(XS l&& !decide (W3 z.2 l>=0)))with
   |false=>rw[cond_f,show Z0h Z0B=Up from rfl];omega
   |true=>
    rw[cond_t,(Z6n _ _).1]
    have hR:∀(B:Z0) (L:Xw),ZL B<=44->QC L<=12->Z03 (Z0G z.2 (rk z.2 l) B L)<=112:=by
     intro B L hB hL
     have h1:=hg (rk z.2 l)
     have h2:=hp (z.2.getD (rk z.2 l) Zw).1
     unfold Z0G Z03
     cases decide (rk z.2 l<z.2.length)with
     |true=>
      rw[cond_t,(Z0z _ _ _ _ _).2.1,(Z0z _ _ _ _ _).2.2.1,(Z0z _ _ _ _ _).2.2.2.1,(Z0z _ _ _ _ _).2.2.2.2]
      omega
     |false=>
      rw[cond_f,(Z0z _ _ _ _ _).2.1,(Z0z _ _ _ _ _).2.2.1,(Z0z _ _ _ _ _).2.2.2.1,(Z0z _ _ _ _ _).2.2.2.2]
      omega
    unfold Z1p
    cases decide (0<rk z.2 l)with
    |true=>rw[cond_t];exact hR _ _ (hg _) (by have:=hp (z.2.getD (rk z.2 l-1) Zw).1;omega)
    |false=>rw[cond_f];exact hR _ _ (by omega) (by omega)
  rw[cond_t]
  unfold QS Q2
  have h4:=hg (W3 z.2 l).toNat
  have h5:=hp l
  cases decide (W3 z.2 l>=0)with
  |true=>
   rw[cond_t,(XZ _ _ _ _ _).1,(XZ _ _ _ _ _).2.2.1,(XZ _ _ _ _ _).2.2.2.1,(XZ _ _ _ _ _).2.2.2.2]
   omega
  |false=>
   rw[cond_f,(XZ _ _ _ _ _).1,(XZ _ _ _ _ _).2.2.1,(XZ _ _ _ _ _).2.2.2.1,(XZ _ _ _ _ _).2.2.2.2]
   omega
theorem Z44 {n m n' m':Nat}{z:Z7}(h:zB n m z)(hn:n<=n')(hm:m<=m'):zB n' m' z:=⟨h.1,Nat.le_trans h.2.1 hn,Nat.le_trans h.2.2 hm⟩
def Uo (k:Nat)(s:Z8):Prop:=s.1.length<=k/\∀z∈s.1,zB 7 330 z
theorem Z2k {k:Nat}{s:Z8}(h:Uo k s):Wv s<=k*478:=by
 have:=Z40 Xq 477 s.1 (λz hz=>by have:=Z1I (h.2 z hz);omega)
 have h1:=h.1
 show U1 s.1<=_
 unfold U1 ZX
 omega
theorem Z9W {k:Nat}{s:Z8}{z:Z7}(hs:Uo k s)(hz:zB 7 330 z):Uo (k+1) (Qx (store s z)):=by
 have h0:Uo (k+1) s:=⟨Nat.le_succ_of_le hs.1,hs.2⟩
 unfold store
 cases(QW s&&Xg z)with
 |false=>rw[cond_f,(UP _ _).1];exact h0
 |true=>
  rw[cond_t]
  unfold Z1e
  cases decide (Xs s (Xr z)>=0)with
  |true=>
   rw[cond_t,(UP _ _).1]
   refine⟨by show(s.1.set _ z).length<=_;rw[List.length_set];exact h0.1,λy hy=> ?_⟩
   rcases List.mem_or_eq_of_mem_set hy with hy|hy
   ·exact hs.2 y hy
   ·subst hy;exact hz
  |false=>
   rw[cond_f]
   cases decide ((s.1.length:Int)>=(8:Int))with
   |true=>rw[cond_t,(UP _ _).1];exact h0
   |false=>
    rw[cond_f,(UP _ _).1]
    refine⟨by show(s.1++[z]).length<=_;rw[QB];have:=hs.1;omega,λy hy=> ?_⟩
    rcases List.mem_append.1 hy with hy|hy
    ·exact hs.2 y hy
    ·rw[List.mem_singleton.1 hy];exact hz
theorem Z9x {code:List Int}{x0:Z3}:∀(n:Nat) (v a b QZ:Int) (zs:List Z7) (k:Nat),v<(n:Int)->0<=v->v<=1000->k+v.toNat<=20->Uo k (zs,QZ)->Cu code (x0.1,a,b)->Ok (YB.l6 x0 n v a b QZ zs) (λr=>Cu code r.1/\Uo (k+v.toNat) r.2):=by
 intro n
 induction n with
 |zero=>intro v a b QZ zs k h0 h1;omega
 |succ n ih=>
  intro v a b QZ zs k h0 h1 h2 h3 hs hc
  rw[YB.u6]
  unfold YB.g6
  simp only[both_eq]
  refine Ok.ite (λh=> ?_) (λh=> ?_)
  ·have h:=ge0 h
   refine(Z5n hc).bind λw hw=> ?_
   have hz:=Z44 hw.2 (show 4<=7 by decide) (show 240<=330 by decide)
   have k1:=Z2k hs
   have k2:=Z1I hz
   refine Ok.bind (P:=λy=>Uo (k+1) (Qx y)) (Ok.of (Z5T _ _ (by omega) (by omega)) (Z9W hs hz)) λy hy=> ?_
   rw[Z19 h h2]
   refine(ih (v-1) _ _ _ _ (k+1) (by omega) (by omega) (by omega) (by omega) hy (hc.re hw.1)).mono λr hr=>⟨hr.1,?_⟩
   rw[show k+v.toNat=k+1+(v-1).toNat by omega]
   exact hr.2
  ·refine(Z0f hc 2).bind λy hy=>Ok.ite (λ_=>(Yc (hc.re hy) 5).bind λw hw=>Ok.ret ⟨hc.re hw.1,?_⟩) (λ_=>Ok.ret ⟨hc.re hy,?_⟩)
   ·exact⟨Nat.le_trans hs.1 (Nat.le_add_right ..),hs.2⟩
   ·exact⟨Nat.le_trans hs.1 (Nat.le_add_right ..),hs.2⟩
theorem Z88 {code:List Int}{c:Z3}(hc:Cu code c):Ok (YB c) (λr=>Cu code r.1/\Uo 2 r.2):=by
 unfold YB YB.b
 refine(Yc hc 3).bind λy hy=> ?_
 obtain⟨h1,h2,h3,_⟩:=hy
 have h3:=h3 (by omega)
 have hk:=KK_gt (n:=1000) (by omega)
 refine(Z9x KK y.2 _ _ 0 [] 0 (by omega) (by omega) (by omega) (by omega) ⟨Nat.le_refl 0,λz hz=>by simp at hz⟩ (hc.re h1)).mono λr hr=>⟨hr.1,Nat.le_trans hr.2.1 (by omega),hr.2.2⟩
theorem Z3F {code:List Int}{c:Z3}(hc:Cu code c):Ok (WK c) (λr=>Cu code r.1/\Uo 3 r.2):=by
 unfold WK
 simp only[both_eq]
 refine(Z88 hc).bind λy1 h1=>(Yc (hc.re h1.1) 12).bind λy2 h2=> ?_
 have h3:Uo 3 y1.2:=⟨Nat.le_succ_of_le h1.2.1,h1.2.2⟩
 refine Ok.ite (λ_=> ?_) λ_=>Ok.ite (λ_=> ?_) λ_=>Ok.ret ⟨hc.re h2.1,h3⟩
 ·exact(Z0e (hc.re h2.1) (by decide)).bind λy3 k3=>Ok.ret ⟨hc.re k3.1,h3⟩
 ·refine(Z5m (hc.re h2.1)).bind λw hw=>Ok.chk (QT (by have:=h1.2.1;omega)) (Ok.ret ⟨hc.re hw.1,?_,?_⟩)
  ·show(y1.2.1++[w.2]).length<=3
   rw[QB]
   have:=h1.2.1
   omega
  ·intro z hz
   rcases List.mem_append.1 hz with hz|hz
   ·exact h1.2.2 z hz
   ·rw[List.mem_singleton.1 hz];exact Z44 hw.2 (by decide) (by decide)
theorem Z6U {xs:List Z0}{m:Nat}(hx:Zo xs<=m)(i:Nat):(xs.getD i Zw).1.size<=m:=by
 by_cases h:i<xs.length
 ·rw[at_n h]
  exact Z2w _ (Z0D h hx)
 ·have e:xs.getD i Zw=Zw:=by simp[List.getD,show xs.length<=i by omega]
  rw[e];exact Nat.zero_le _
theorem Z87 {code:List Int}{c:Z3}{z:Z7}(hc:Cu code c)(hx:Zo z.2<=330):Ok (X8 c z) (λr=>Cu code r.1/\r.2.size<=330):=by
 have hl:z.2.length<=330:=by unfold Zo ZX at hx;omega
 have h5:∀v a b,Cu code (c.1,a,b)->(v=true->0<z.2.length)->Ok (X8.l5 c z v a b) (λr=>Cu code r.1/\r.2.size<=330):=by
  intro v a b hab hv
  unfold X8.l5 X8.g5
  simp only[both_eq]
  refine Ok.ite (λh=> ?_) λ_=>(Z28 hab).bind λy hy=>Ok.ret ⟨hc.re hy.1,Nat.le_trans hy.2 (by decide)⟩
  refine(Yc hab _).bind λw hw=> ?_
  obtain⟨w1,w2,w3,_⟩:=hw
  have w3:=w3 (by have:=hv h;omega)
  exact Ok.chk (decide_eq_true w2) (Ok.chk (decide_eq_true w3) (Ok.ret ⟨hc.re w1,Z6U hx _⟩))
 unfold X8 X8.b
 refine Ok.ite (λh=> ?_) λ_=>h5 false _ _ hc λh=>by cases h
 have h:=of_decide_eq_true h
 exact(Z0f hc 3).bind λy hy=>h5 _ _ _ (hc.re hy) λ_=>by omega
theorem Z5p {code:List Int}{c:Z3}{s:Z8}(hc:Cu code c)(hs:Uo 3 s):Ok (ZE c s) (λr=>Cu code r.1/\r.2.2.size<=330):=by
 have h5:∀v a b,Cu code (c.1,a,b)->(v=true->0<s.1.length)->Ok (ZE.l5 c s v a b) (λr=>Cu code r.1/\r.2.2.size<=330):=by
  intro v a b hab hv
  unfold ZE.l5 ZE.g5
  simp only[both_eq]
  refine Ok.ite (λh=> ?_) λ_=>(Yc hab 9).bind λw hw=>(Z28 (hc.re hw.1)).bind λy hy=>Ok.ret ⟨hc.re hy.1,Nat.le_trans hy.2 (by decide)⟩
  refine(Yc hab _).bind λw hw=> ?_
  obtain⟨w1,w2,w3,_⟩:=hw
  have w3:=w3 (by have:=hv h;omega)
  refine Ok.chk (decide_eq_true w2) (Ok.chk (decide_eq_true w3) ?_)
  have hm:w.2.toNat<s.1.length:=by omega
  rw[at_n hm]
  have hz:=hs.2 _ (List.getElem_mem hm)
  have hk:=Z1I hz
  unfold ZE.l7 ZE.g7
  refine Ok.bind (P:=λ_=>True) (Ok.of (Z31 _ (Nat.le_trans hk (by decide))) trivial) λy _=>(Z87 (hc.re w1) hz.2.2).bind λu hu=>Ok.ret ⟨hc.re hu.1,hu.2⟩
 unfold ZE ZE.b
 refine Ok.ite (λh=> ?_) λ_=>h5 false _ _ hc λh=>by cases h
 have h:=of_decide_eq_true h
 exact(Z0f hc 6).bind λy hy=>h5 _ _ _ (hc.re hy) λ_=>by omega
theorem Z6R {code:List Int}(hl:code.length<=1050000):Ok (Qa code) (λr=>Uo 3 (W2 r)/\(QG r).size<=330):=by
 unfold Qa
 exact(Z3E hl).bind λc hc=>(Z3F hc).bind λy hy=>(Z5p (hc.re hy.1) hy.2).bind λw hw=>Ok.ret ⟨hy.2,hw.2⟩
theorem Z6x {y1:Z3}{y2:Z3×List Z7×Int}{y3:Z3×Int×ByteArray}{code:List Int}(h2:Uo 3 y2.2)(h3:y3.2.2.size<=330):∀(n:Nat) (v a b:Int) (acc:List Z8),v<(n:Int)->0<=v->v<=1000->acc.length+v.toNat<=7->(∀s∈acc,Uo 3 s)->Cu code (y1.1,a,b)->
 Ok (YE.l12 y1 y2 y3 n v a b acc) (λr=>(∀s∈r.1,Uo 3 s)/\r.1.length<=7/\r.2.2.size<=330):=by
 intro n
 induction n with
 |zero=>intro v a b acc h0 h1;omega
 |succ n ih=>
  intro v a b acc h0 h1 hv ha hs hc
  rw[YE.u12]
  refine Ok.ite (λh=> ?_) λ_=>Ok.ret ⟨hs,by show acc.length<=7;omega,h3⟩
  have h:=ge0 h
  have k1:=Z2k h2
  refine Ok.bind (P:=λy=>y=y2.2) (Ok.of (Z5o _ (by omega)) rfl) λy hy=>(Yc hc 5).bind λw hw=>Ok.chk (QT (by omega)) ?_
  subst hy
  rw[Z19 h hv]
  refine ih (v-1) _ _ _ (by omega) (by omega) (by omega) (by rw[QB];omega) (λs hm=> ?_) (hc.re hw.1)
  rcases List.mem_append.1 hm with hm|hm
  ·exact hs s hm
  ·rw[List.mem_singleton.1 hm];exact h2
theorem Z6Q {code:List Int}(hl:code.length<=1050000):Ok (YE code) (λr=>(∀s∈r.1,Uo 3 s)/\r.1.length<=7/\r.2.2.size<=330):=by
 unfold YE YE.b
 refine(Z3E hl).bind λc hc=>(Z3F hc).bind λy hy=>(Z5p (hc.re hy.1) hy.2).bind λw hw=>(Yc (hc.re hw.1) 4).bind λu hu=> ?_
 obtain⟨u1,u2,u3,_⟩:=hu
 have u3:=u3 (by omega)
 have hk:=KK_gt (n:=1000) (by omega)
 exact Z6x hy.2 hw.2 KK u.2 _ _ _ (by omega) (by omega) (by omega) (by show 1+_<=7;omega) (λs hm=>by rw[List.mem_singleton.1 hm];exact hy.2) (hc.re u1)
theorem Z6S {code:List Int}(hl:code.length<=1050000):Ok (X7 code) (λr=>Uo 3 (Z06 r)/\zB 8 330 (QR r)):=by
 unfold X7 X7.b
 refine(Z3E hl).bind λc hc=>(Z3F hc).bind λy hy=> ?_
 have h9:∀v a b,Cu code (c.1,a,b)->(v=true->0<y.2.1.length)->Ok (X7.l9 c y v a b) (λr=>Uo 3 (Z06 r)/\zB 8 330 (QR r)):=by
  intro v a b hab hv
  unfold X7.l9 X7.g9
  simp only[both_eq]
  refine Ok.ite (λh=> ?_) λ_=>(Z5m hab).bind λw hw=>Ok.ret ⟨hy.2,Z44 hw.2 (by decide) (Nat.le_refl _)⟩
  have h0:=hv h
  refine Ok.chk (by decide) (Ok.chk (decide_eq_true (by omega)) ?_)
  have hm:(0:Int).toNat<y.2.1.length:=h0
  rw[at_n hm]
  exact(Z4V (by decide) (by decide) hab (hy.2.2 _ (List.getElem_mem hm)) (by decide)).bind λw hw=>Ok.ret ⟨hy.2,hw.2⟩
 refine Ok.ite (λh=> ?_) λ_=>h9 false _ _ (hc.re hy.1) λh=>by cases h
 have h:=of_decide_eq_true h
 exact(Z0f (hc.re hy.1) 2).bind λw hw=>h9 _ _ _ (hc.re hw) λ_=>by omega
theorem Za6 {z:Z7}(h:Xg z=true):0<=Xr z:=by
 obtain⟨hc,_,_,_,e⟩:=Z45 h
 have hl:=Z21 _ hc
 have e2:Ux z.1=z.1.getD (z.1.length-1) Xx:=by
  unfold Ux
  rw[w64 (by omega) (by omega)]
  congr 1
  omega
 rw[e]
 unfold Xv
 rw[e2,at_n (show z.1.length-1<z.1.length by omega)]
 have hh:=Z3d z.1 hc (z.1.length-1) (by omega)
 unfold Xk hr4 W7 at hh
 simp only[Bool.and_eq_true,decide_eq_true_eq]at hh
 exact hh.1.1.1
theorem Z4O {α:Type}(p:α->Bool)(xs:List α)(i:Nat)(h:i<xs.length)(hp:p xs[i]=true)(hb:∀j (hj:j<i),p (xs[j]'(by omega))=false):Wl p xs 0=(i:Int):=by
 rw[Z4P p xs 0 i h hp hb,Int.zero_add]
theorem Z4L {α:Type}(p:α->Bool):∀(xs:List α) (k:Int) (i:Nat) (h:i<xs.length),0<=k->Wl p xs k=k+(i:Int)->p xs[i]=true/\∀j (hj:j<i),p (xs[j]'(by omega))=false
 |[],_,i,h,_,_=>absurd h (Nat.not_lt_zero i)
 |x::t,k,i,h,hk,e=>by
  rw[Z0r]at e
  cases hx:p x with
  |true=>
   rw[hx,cond_t]at e
   have:i=0:=by omega
   subst this
   exact⟨hx,λj hj=>absurd hj (Nat.not_lt_zero j)⟩
  |false=>
   rw[hx,cond_f]at e
   cases i with
   |zero=>
    rcases Z72 p t (k+1)with h1|h1
    ·rw[h1]at e
     omega
    ·omega
   |succ i=>
    obtain⟨h1,h2⟩:=Z4L p t (k+1) i (by simpa using h) (by omega) (by omega)
    refine⟨h1,λj hj=> ?_⟩
    cases j with
    |zero=>exact hx
    |succ j=>exact h2 j (by omega)
theorem Z9v {s:Z8}{z:Z7}(hz:Xg z=true){u:Z8}(h:Z05 (store s z)=true)(hu:Qx (store s z)=u):0<=Xs u (Xr z)/\u.1.getD (Xs u (Xr z)).toNat YN=z:=by
 have h0:=Za6 hz
 unfold store at h hu
 cases hs:QW s&&Xg z with
 |false=>rw[hs,cond_f,(UP _ _).2]at h;cases h
 |true=>
  rw[hs,cond_t]at h hu
  unfold Z1e at h hu
  have en:decide (Xr z<0)=false:=decide_eq_false (by omega)
  cases hd:decide (Xs s (Xr z)>=0)with
  |true=>
   rw[hd,cond_t,(UP _ _).1]at hu
   have hd:=of_decide_eq_true hd
   have hh:=Z0O s (Xr z) hd
   obtain⟨i,hi⟩:∃i:Nat,Xs s (Xr z)=(i:Int):=⟨_,(Int.toNat_of_nonneg hd).symm⟩
   rw[hi,Int.toNat_natCast]at hu
   rw[hi]at hh
   have hl:i<s.1.length:=by omega
   have hi2:=hi
   unfold Xs at hi2
   rw[en,cond_f]at hi2
   obtain⟨_,h2⟩:=Z4L (λt=>Xr t==Xr z) s.1 0 i hl (Int.le_refl 0) (by omega)
   have hf:Xs u (Xr z)=(i:Int):=by
    subst hu
    unfold Xs
    rw[en,cond_f]
    refine Z4O (λt=>Xr t==Xr z) (s.1.set i z) i (by rw[List.length_set];exact hl) ?_ λj hj=> ?_
    ·rw[List.getElem_set_self];exact beq_self_eq_true _
    ·rw[List.getElem_set_ne (by omega)];exact h2 j hj
   rw[hf]
   refine⟨by omega,?_⟩
   subst hu
   rw[Int.toNat_natCast]
   show(s.1.set i z).getD i YN=z
   rw[at_n (by rw[List.length_set];exact hl),List.getElem_set_self]
  |false=>
   rw[hd,cond_f]at h hu
   cases hd2:decide ((s.1.length:Int)>=(8:Int))with
   |true=>rw[hd2,cond_t,(UP _ _).2]at h;cases h
   |false=>
    rw[hd2,cond_f,(UP _ _).1]at hu
    have hd:=of_decide_eq_false hd
    have hall:∀x∈s.1,(Xr x==Xr z)=false:=by
     unfold Xs at hd
     rw[en,cond_f]at hd
     rcases Z3l (λt=>Xr t==Xr z) s.1 0 (Int.le_refl 0)with⟨_,h2⟩|⟨i,_,h2,_⟩
     ·exact h2
     ·omega
    have hf:Xs u (Xr z)=(s.1.length:Int):=by
     subst hu
     unfold Xs
     rw[en,cond_f]
     refine Z4O (λt=>Xr t==Xr z) (s.1++[z]) s.1.length (by rw[QB];omega) ?_ λj hj=> ?_
     ·rw[List.getElem_append_right (Nat.le_refl _)];simp
     ·rw[List.getElem_append_left hj];exact hall _ (List.getElem_mem hj)
    rw[hf]
    refine⟨by omega,?_⟩
    subst hu
    rw[Int.toNat_natCast]
    show(s.1++[z]).getD s.1.length YN=z
    rw[at_n (by rw[QB];omega),List.getElem_append_right (Nat.le_refl _)]
    simp
theorem Z9V {s:Z8}{z:Z7}(h:Z05 (store s z)=false):Qx (store s z)=s:=by
 unfold store at h⊢
 cases hs:QW s&&Xg z with
 |false=>rw[cond_f,(UP _ _).1]
 |true=>
  rw[hs,cond_t]at h
  rw[cond_t]
  unfold Z1e at h⊢
  cases hd:decide (Xs s (Xr z)>=0)with
  |true=>rw[hd,cond_t,(UP _ _).2]at h;cases h
  |false=>
   rw[hd,cond_f]at h
   rw[cond_f]
   cases hd2:decide ((s.1.length:Int)>=(8:Int))with
   |true=>rw[cond_t,(UP _ _).1]
   |false=>rw[hd2,cond_f,(UP _ _).2]at h;cases h
theorem Z9X {s:Z8}{z:Z7}(h:Z05 (store s z)=true):Xg z=true:=by
 unfold store at h
 cases hs:QW s&&Xg z with
 |false=>rw[hs,cond_f,(UP _ _).2]at h;cases h
 |true=>exact(Bool.and_eq_true _ _▸hs).2
theorem Z9U (s:Z8)(z:Z7):Wv (Qx (store s z))<=Wv s+1+Xq z:=by
 unfold store
 cases QW s&&Xg z with
 |false=>rw[cond_f,(UP _ _).1];omega
 |true=>
  rw[cond_t]
  unfold Z1e
  cases decide (Xs s (Xr z)>=0)with
  |true=>
   rw[cond_t,(UP _ _).1]
   show U1 (s.1.set _ z)<=U1 s.1+1+Xq z
   have:=Z9D s.1 z (Xs s (Xr z)).toNat
   unfold U1 ZX
   rw[List.length_set]
   omega
  |false=>
   rw[cond_f]
   cases decide ((s.1.length:Int)>=(8:Int))with
   |true=>rw[cond_t,(UP _ _).1];omega
   |false=>
    rw[cond_f,(UP _ _).1]
    show U1 (s.1++[z])<=U1 s.1+1+Xq z
    exact Nat.le_of_eq (Z1E Xq s.1 z)
theorem Z32 {k:Nat}{s:Z8}(h:Uo k s)(i:Nat):Xq (s.1.getD i YN)<=477:=by
 by_cases hi:i<s.1.length
 ·rw[at_n hi];exact Z1I (h.2 _ (List.getElem_mem hi))
 ·have e:s.1.getD i YN=YN:=by simp[List.getD,show s.1.length<=i by omega]
  rw[e];exact Nat.zero_le _
theorem Z4l {s:Z8}(h:∀i,Xq (s.1.getD i YN)<=477)(zone:Int)(l:ByteArray):Q2 (Qm s zone l)<=777:=by
 have e:Q2 U9<=777:=by decide
 unfold Qm
 cases decide (Xs s zone<0)with
 |true=>exact e
 |false=>
  rw[cond_f]
  cases(s.2==(4:Int))with
  |true=>exact e
  |false=>
   rw[cond_f]
   have h1:=Z8t s.2 (U8 (s.1.getD (Xs s zone).toNat YN) l)
   have h2:=Z6r (s.1.getD (Xs s zone).toNat YN) l
   have h3:=QJ _ (h (Xs s zone).toNat)
   omega
theorem Z6y (xs:List Z8)(zone:Int)(l:ByteArray):(Z2q xs zone l).length=min 4 xs.length:=by
 unfold Z2q
 rw[List.length_map,List.length_take]
theorem Z9A {y:List Z8×Int×ByteArray}(hx:Z1d y.1<=1050000)(hl:y.2.2.size<=1050000):Zh.l49 y=some true:=by
 unfold Zh.l49 Zh.g49
 refine Za (Z7c _ _ _ hx hl) ?_
 have e:=Z6y y.1 y.2.1 y.2.2
 unfold Qv
 by_cases h:(4:Int)<(y.1.length:Int)
 ·rw[decide_eq_true h,cond_t,bind_s,e,Nat.min_eq_left (by omega)];rfl
 ·rw[decide_eq_false h,cond_f,bind_s,e,Nat.min_eq_right (by omega),beq_self_eq_true]
theorem Z9z {code:List Int}(hc:code.length<=1050000):Zh.l29 code=some true:=by
 obtain⟨y,hd,a1,a2,a3⟩:=Z6Q hc
 obtain⟨w,hw,b1,b2⟩:=Z6S hc
 have ka:Z1d y.1<=1050000:=by
  have h1:=Z40 Wv 1434 y.1 (λs hs=>Z2k (a1 s hs))
  unfold Z1d ZX
  have:y.1.length*1434<=7*1434:=Nat.mul_le_mul_right _ a2
  omega
 have h49:=Z9A ka (show y.2.2.size<=1050000 by omega)
 have k1:=Z2k b1
 have k2:=Z1I b2
 unfold Zh.l29 Zh.g29
 refine Za hd (Za hw (Za (Z7J _ _ (by omega) (by omega)) (Za (Z5T _ _ (by omega) (by omega)) (cF (by rw[beq_self_eq_true];rfl) ?_))))
 cases hr:Z05 (store (Z06 w) (QR w))with
 |false=>
  rw[Z9V hr]
  refine cT rfl (Za (Z7k _ _ (by omega) (by omega)) (cF (by rw[Z6W];rfl) ?_))
  exact cF hr h49
 |true=>
  refine cF rfl ?_
  have hz:=Z9X hr
  obtain⟨g1,g2⟩:=Z9v hz hr rfl
  have g3:=Z0O _ _ g1
  have ku:Wv (Qx (store (Z06 w) (QR w)))<=1050000:=by
   have:=Z9U (Z06 w) (QR w)
   omega
  refine cT hr (Za (Z31 _ (by omega)) (Za (Z2L _ _ ku) (cF (decide_eq_false (by omega)) (cT (decide_eq_true g1) (cT (decide_eq_true g3) ?_)))))
  rw[g2]
  exact Za (Z51 _ _ (by omega) (by omega)) (cF (by rw[Z4H];rfl) h49)
theorem Z9y {code:List Int}(hc:code.length<=1050000){y:Wk}(h1:Uo 3 (W2 y))(h2:(QG y).size<=330){k:Int}(h3:0<=k->k=Xs (W2 y) (WV y)):Zh.l21 code y (Qm (W2 y) (WV y) (QG y)) k=some true:=by
 have h29:=Z9z hc
 unfold Zh.l21 Zh.g21
 by_cases hk:k>=0
 ·refine cT (decide_eq_true hk) ?_
  unfold Zh.l23 Zh.g23
  cases hs:((W2 y).2==(1:Int))with
  |false=>exact cF rfl h29
  |true=>
   have e:=h3 hk
   have hi:=Z0O (W2 y) (WV y) (by omega)
   have hz:=Z32 h1 k.toNat
   have ha:Q2 (Qm (W2 y) (WV y) (QG y))<=777:=Z4l (Z32 h1) _ _
   refine cT rfl (cT (decide_eq_true hk) (cT (decide_eq_true (by omega)) (Za (Z1C _ (QJ _ (by omega))) (Za (Z7f _ _ _ _ (by omega) (by omega)) (cF ?_ h29)))))
   unfold Qm
   rw[decide_eq_false (show¬Xs (W2 y) (WV y)<0 by omega),cond_f,eq_of_beq hs,show((1:Int)==4)=false from rfl,cond_f]
   exact Z8s _ _ _ _
 ·exact cF (decide_eq_false hk) (by unfold Zh.l23 Zh.g23;exact cF rfl h29)
theorem pure_FnServers (x0:List Int):Zh x0=some true:=by
 unfold Zh Zh.b
 refine Za rfl ?_
 by_cases hb:(x0.length:Int)>1048576
 ·exact cT (decide_eq_true hb) rfl
 refine cF (decide_eq_false hb) ?_
 have hc:x0.length<=1050000:=by omega
 obtain⟨y,hd,h1,h2⟩:=Z6R hc
 have k1:=Z2k h1
 have ha:Q2 (Qm (W2 y) (WV y) (QG y))<=777:=Z4l (Z32 h1) _ _
 refine Za hd (Za (Z4X _ _ _ (by omega) (by omega)) (Za (Z8T _ _ _ (by omega) (by omega)) (Za (Z4Z _ _ (by omega) (by omega)) (cF (by rw[Z4E];rfl) (Za (Z55 _ (by omega)) (Za (Z5M _ (by omega)) (cF (by rw[beq_self_eq_true];rfl) ?_)))))))
 unfold Zh.l15 Zh.g15
 refine Za (Z2L _ _ (by omega)) ?_
 have h21:=Z9y hc h1 h2 (k:=Xs (W2 y) (WV y)) (λ_=>rfl)
 by_cases hk:Xs (W2 y) (WV y)>=0
 ·refine cT (decide_eq_true hk) ?_
  have hi:=Z0O _ (WV y) hk
  have hz:=Z32 h1 (Xs (W2 y) (WV y)).toNat
  cases hs:((W2 y).2==(0:Int))with
  |false=>exact cF rfl (cF (decide_eq_false (by omega)) h21)
  |true=>
   refine cT rfl (cT (decide_eq_true hk) (cT (decide_eq_true hi) (Za (Z5H _ _ (by omega) (by omega)) ?_)))
   have e:Qm (W2 y) (WV y) (QG y)=U8 ((W2 y).1.getD (Xs (W2 y) (WV y)).toNat YN) (QG y):=by
    unfold Qm
    rw[decide_eq_false (show¬Xs (W2 y) (WV y)<0 by omega),cond_f,eq_of_beq hs]
    rfl
   rw[←e]
   exact Za (Z4Z _ _ (by omega) (by omega)) (cF (by rw[Z4E];rfl) (cF (decide_eq_false (by omega)) h21))
 ·refine cF (decide_eq_false hk) (cT (decide_eq_true (by omega)) (cF ?_ h21))
  unfold Qm
  rw[decide_eq_true (show Xs (W2 y) (WV y)<0 by omega),cond_t]
  rfl

end Go.Proofs.YtcbeaoigenjoeaaGreat
