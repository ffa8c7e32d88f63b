/- The plain law of FnAnswers: what the printed functions compute is true, for all data in range. -/
import Derived.Test.YtcbeaoigenjoeaeGreatFnAnswersPure0
noncomputable section
namespace Go.Proofs.YtcbeaoigenjoeaeGreat
open V
set_option linter.unusedVariables false
set_option linter.unusedSimpArgs false
set_option maxHeartbeats 1000000
theorem Z8 {α β:Type}{e:Option α}{a:α}{f:α->Option β}{r:Option β}(h:e=some a)(hf:f a=r):e.bind f=r:=by rw[h,bind_s];exact hf
theorem cF {α:Type}{c:Bool}{a b r:α}(h:c=false)(hb:b=r):(bif c then a else b)=r:=by rw[h,cond_f];exact hb
theorem cT {α:Type}{c:Bool}{a b r:α}(h:c=true)(ha:a=r):(bif c then a else b)=r:=by rw[h,cond_t];exact ha
theorem Z59 {α:Type}[BEq α][ReflBEq α](a:α):(!(a==a))=false:=by rw[beq_self_eq_true];rfl
def Ug {α:Type}(p:α->Bool):List α->Int->Int
 |[],_=> -1
 |x::xs,k=>bif p x then k else Ug p xs (k+1)
theorem Z17 {α:Type}(p:α->Bool)(x:α)(xs:List α)(k:Int):Ug p (x::xs) k=bif p x then k else Ug p xs (k+1):=rfl
theorem Z33 {α:Type}(p:α->Bool){xs:List α}{i:Nat}(h:i<xs.length):Ug p (xs.drop i) (i:Int)=bif p xs[i]then(i:Int)else Ug p (xs.drop (i+1)) ((i+1:Nat):Int):=by
 rw[List.drop_eq_getElem_cons h,Z17];rfl
theorem Z31 {α:Type}(p:α->Bool)(xs:List α)(k:Int):Ug p (xs.drop xs.length) k= -1:=by
 rw[List.drop_length];rfl
theorem Z4r {α:Type}(p:α->Bool)(xs:List α):∀k:Int,0<=k->decide (Ug p xs k>=0)=xs.any p:=by
 induction xs with
 |nil=>intro k hk;rfl
 |cons x t ih=>
  intro k hk
  rw[Z17,List.any_cons]
  cases p x with
  |true=>rw[cond_t,Bool.true_or];exact decide_eq_true hk
  |false=>rw[cond_f,Bool.false_or];exact ih _ (by omega)
def all2 {α β:Type}(g:α->β->Bool):List α->List β->Bool
 |x::xs,y::ys=>g x y&&all2 g xs ys
 |_,_=>true
theorem Z5Z {α β:Type}(g:α->β->Bool){xs:List α}{ys:List β}{i:Nat}(h:i<xs.length)(h':i<ys.length):all2 g (xs.drop i) (ys.drop i)=(g xs[i] ys[i]&&all2 g (xs.drop (i+1)) (ys.drop (i+1))):=by
 rw[List.drop_eq_getElem_cons h,List.drop_eq_getElem_cons h'];rfl
theorem Z5Y {α β:Type}(g:α->β->Bool)(xs:List α)(ys:List β):all2 g (xs.drop xs.length) ys=true:=by
 rw[List.drop_length];rfl
def QY {α:Type}(g:α->α->Bool)(xs ys:List α):Bool:=decide (xs.length=ys.length)&&all2 g xs ys
theorem Z2Y {α:Type}(xs ys:List α)(d:α)(f:α->α->Option Bool)(g:α->α->Bool)(hl:xs.length<=1050000)(hf:∀i (h:i<xs.length) (h':i<ys.length),f xs[i] ys[i]=some (g xs[i] ys[i]))(l:Nat->Int->Option Bool)(u:∀n a,l (n+1) a=(bif decide (a<(xs.length:Int))then bif decide (0<=a)then bif decide (a<(xs.length:Int))then bif decide (0<=a)then bif decide (a<(ys.length:Int))then(f (xs.getD a.toNat d) (ys.getD a.toNat d)).bind λy1=>bif !y1 then some false else l n (IntKind.i64.wrap (a+(1:Int)))else none else none else none else none else some true)):(bif(xs.length:Int) !=(ys.length:Int)then some false else l KK (0:Int))=some (QY g xs ys):=by
 unfold QY
 by_cases hq:xs.length=ys.length
 ·have hh:∀i n,i<=xs.length->xs.length-i<n->l n (i:Int)=some (all2 g (xs.drop i) (ys.drop i)):=by
   refine idx_ind ?_ ?_
   ·intro n
    rw[u]
    simp only[lt_f (Nat.le_refl _),cond_f,Z5Y]
   ·intro i n hi ih
    have hi':i<ys.length:=by omega
    rw[u]
    simp only[lt_t hi,lt_t hi',ge_t,cond_t,Int.toNat_natCast,at_n hi,at_n hi',hf i hi hi',bind_s,w64_succ (i:=i) (by omega),ih,Z5Z g hi hi']
    cases g xs[i] ys[i]<;>rfl
  rw[len_eq hq,cond_f,decide_eq_true hq,Bool.true_and]
  have:=hh 0 KK (Nat.zero_le _) (KK_gt (by omega))
  rw[List.drop_zero,List.drop_zero]at this
  exact this
 ·rw[len_ne hq,cond_t,decide_eq_false hq,Bool.false_and]
theorem QP (a b c:Int):ZW a b c=some (decide (b<=a)&&decide (a<=c)):=by
 show(bif decide (b<=a)then some (decide (a<=c))else some false)=_
 cases decide (b<=a)<;>rfl
theorem QI (a b c:Int):Ya a b c=some (decide (b<=a)&&decide (a<=c)):=by
 show(bif decide (b<=a)then some (decide (a<=c))else some false)=_
 cases decide (b<=a)<;>rfl
def X2 {α:Type}(size:α->Nat)(xs:List α):Nat:=xs.length+(xs.map size).sum
theorem Z21 {α:Type}(size:α->Nat){xs:List α}{i:Nat}(h:i<xs.length):size xs[i]<=(xs.map size).sum:=by
 induction xs generalizing i with
 |nil=>simp at h
 |cons x t ih=>
  rw[List.map_cons,List.sum_cons]
  cases i with
  |zero=>show size x<=_;omega
  |succ i=>
   have hi:i<t.length:=by simpa using h
   have:=ih hi
   show size t[i]<=_
   omega
theorem wd {n:Int}(h:0<=n/\n<=4611686018427387904):IntKind.i64.wrap n=n:=w64 (by omega) (by omega)
def Wh (x:ByteArray):Nat:=x.size
def Xp (xs:List ByteArray):Nat:=X2 Wh xs
def UD (x:Za):Nat:=x.1.length
def ZP (x:Z5):Nat:=UD (Ze x)+(UD (Zd x)+(UD (Zf x)))
def Xj (x:Z4):Nat:=ZP (Z9 x)+((WD x).length)
def YG (xs:List Z4):Nat:=X2 Xj xs
def ZD (x:Z0):Nat:=Wh x.1+(Xp x.2.2.2)
def Zv (xs:List Z0):Nat:=X2 ZD xs
def XA (x:YC):Nat:=x.2.length
def W4 (x:Zp):Nat:=ZD (ZC x)+(ZD (Zz x)+(XA (Yu x)+(XA (Yj x))))
def U7 (x:Zm):Nat:=YG x.1+(Zv x.2)
def W3 (x:Zi):Nat:=YG (ZO x)+(ZD (Zx x)+(XA (Xc x)+(W4 (Zh x))))
theorem Z5S (n:Int)(h0:0<=n)(h1:n<68719476736):X6 [] n=some []:=by
 have e0:IntKind.i64.wrap ((0:Int)-((0:Nat):Int))=0:=w64 (by omega) (by omega)
 have e1:IntKind.i64.wrap (n-0)=n:=by rw[w64 (by omega) (by omega)];omega
 unfold X6
 simp only[X6.b,X6.l7,X6.g7,e0,e1]
 rw[decide_eq_false (by omega),cond_f]
 by_cases h:n>0
 ·rw[decide_eq_true h,cond_t,decide_eq_true (by omega),cond_t,decide_eq_true h1,cond_t,decide_eq_true (by omega),cond_t,decide_eq_true (by omega),cond_t,decide_eq_true (by omega),cond_t]
  simp
 ·rw[decide_eq_false h,cond_f]
theorem Z5O (x0:List (List Int))(hl:x0.length<1152921504606846976):∀i n,i<=x0.length->x0.length-i<n->∀acc:List Int,acc.length+(x0.drop i).flatten.length<68719476736->ZA.l22 x0 n (x0.length:Int) (i:Int) acc=some (acc++(x0.drop i).flatten):=by
 refine idx_ind ?_ ?_
 ·intro n acc ha
  rw[ZA.u22]
  simp only[ZA.g22,lt_f (Nat.le_refl _),cond_f,List.drop_length,List.flatten_nil,List.append_nil]
 ·intro i n hi ih acc ha
  rw[List.drop_eq_getElem_cons hi,List.flatten_cons]at ha⊢
  rw[List.length_append]at ha
  rw[ZA.u22]
  simp only[ZA.g22,lt_t hi,ge_t,cond_t,w64_succ (i:=i) (by omega),Int.toNat_natCast,at_n hi]
  rw[decide_eq_true (by omega),cond_t,ih _ (by rw[List.length_append];omega),List.append_assoc]
theorem Z5P (x0:List (List Int))(hl:x0.length<1152921504606846976)(hf:x0.flatten.length<68719476736):∀i n,i<=x0.length->x0.length-i<n->∀s:Int,0<=s->s+(x0.drop i).flatten.length<68719476736->ZA.l6 x0 n s (x0.length:Int) (i:Int)=some x0.flatten:=by
 refine idx_ind ?_ ?_
 ·intro n s h0 ha
  rw[ZA.u6]
  rw[List.drop_length,List.flatten_nil]at ha
  simp only[ZA.g6,lt_f (Nat.le_refl _),cond_f]
  rw[Z5S s h0 (by simpa using ha),bind_s]
  have:=Z5O x0 hl 0 KK (Nat.zero_le _) (KK_gt (by omega)) [] (by simpa using hf)
  simpa using this
 ·intro i n hi ih s h0 ha
  rw[List.drop_eq_getElem_cons hi,List.flatten_cons,List.length_append]at ha
  rw[ZA.u6]
  simp only[ZA.g6,lt_t hi,ge_t,cond_t,w64_succ (i:=i) (by omega),Int.toNat_natCast,at_n hi]
  rw[w64 (n:=s+(x0[i].length:Int)) (by omega) (by omega),decide_eq_false (by omega),cond_f,ih _ (by omega) (by omega)]
theorem Z3M (x0:List (List Int))(hl:x0.length<1152921504606846976)(hf:x0.flatten.length<68719476736):ZA x0=some x0.flatten:=by
 have:=Z5P x0 hl hf 0 KK (Nat.zero_le _) (KK_gt (by omega)) 0 (Int.le_refl 0) (by rw[List.drop_zero,Int.zero_add];omega)
 exact this
theorem Z9s (a:Int){m:Int}(h:0<m): -m<Int.tmod a m/\Int.tmod a m<m:=by
 refine⟨?_,Int.tmod_lt_of_pos a h⟩
 have h1:=Int.lt_tmod_of_pos a h
 omega
theorem Z5V (a b:Int):Q5 a b=Ui a b:=by
 unfold Q5 Ui
 rw[QP,QI]
def Up (a:Int):Int:=Int.tmod (IntKind.i64.wrap (Int.tmod a 2147483647+2147483647)) 2147483647
theorem Z3P (a:Int):Ui a 2147483647=some (Up a):=by
 unfold Ui Up
 rw[QI,bind_s]
 rw[decide_eq_true (by omega),decide_eq_true (by omega),Bool.and_self,Bool.not_true,cond_f]
 rw[show((2147483647:Int)==0)=false from by decide,cond_f,cond_f]
def WF (h a:Int):Int:=Int.tmod (IntKind.i64.wrap ((IntKind.i64.wrap ((IntKind.i64.wrap (h*(1000003:Int)))+Up a))+(13:Int))) (2147483647:Int)
theorem Z8E (x0:List Int)(hx:x0.length<=1152921504606846976):∀i n,i<=x0.length->x0.length-i<n->∀h:Int,ZR.l6 x0 n h (i:Int)=some ((x0.drop i).foldl WF h):=by
 refine idx_ind ?_ ?_
 ·intro n h
  rw[ZR.u6]
  simp only[ZR.g6,lt_f (Nat.le_refl _),cond_f,List.drop_length,List.foldl_nil]
 ·intro i n hi ih h
  rw[List.drop_eq_getElem_cons hi,List.foldl_cons]
  rw[ZR.u6]
  simp only[ZR.g6,lt_t hi,ge_t,cond_t,bind_s,w64_succ (i:=i) (by omega),Int.toNat_natCast,at_n hi,Z5V,Z3P]
  rw[show((2147483647:Int)==0)=false from by decide,cond_f,ih]
  rfl
theorem Z6W (x0:List Int)(hx:x0.length<=1152921504606846976):∀i n,i<=x0.length->x0.length-i<n->∀h:Int,Y5.l6 x0 n h (x0.length:Int) (i:Int)=some ((x0.drop i).foldl WF h):=by
 refine idx_ind ?_ ?_
 ·intro n h
  rw[Y5.u6]
  simp only[Y5.g6,lt_f (Nat.le_refl _),cond_f,List.drop_length,List.foldl_nil]
 ·intro i n hi ih h
  rw[List.drop_eq_getElem_cons hi,List.foldl_cons]
  rw[Y5.u6]
  simp only[Y5.g6,lt_t hi,ge_t,cond_t,bind_s,w64_succ (i:=i) (by omega),Int.toNat_natCast,at_n hi,Z3P]
  rw[show((2147483647:Int)==0)=false from by decide,cond_f,ih]
  rfl
theorem Z0V (x0:List Int)(hx:x0.length<=1152921504606846976):ZR x0=some (x0.foldl WF 11):=by
 have:=Z8E x0 hx 0 KK (Nat.zero_le _) (KK_gt (by omega)) 11
 rw[List.drop_zero]at this
 exact this
theorem Z1G (x0:List Int)(hx:x0.length<=1152921504606846976):Y5 x0=some (x0.foldl WF 11):=by
 have:=Z6W x0 hx 0 KK (Nat.zero_le _) (KK_gt (by omega)) 11
 rw[List.drop_zero]at this
 exact this
def Un (k:Za):List Int:=[k.2,(k.1.length:Int)]++k.1
theorem Z1b (k:Za):(Un k).length=k.1.length+2:=by unfold Un;simp
theorem Z2F (k:Za)(h:k.1.length<=1050000):Wt k=some (Un k):=by
 unfold Wt Un
 rw[decide_eq_true (by simp;omega),cond_t]
theorem Z2o (k:Za)(h:k.1.length<=1050000):Wr k=some (Un k):=by
 unfold Wr Un
 rw[decide_eq_true (by simp;omega),cond_t]
def Qt (x0:Z5):List Int:=[(ZH x0),(Yk x0),(Yd x0),(Zr x0),(ZE x0),(ZK x0),(ZY x0),(Xb x0)]
def QF (x0:Z5):List Int:=[(ZU x0)]
def hdb (x0:Z5):List Int:=[bif(Zq x0)then(1:Int)else 0]
def WB (x0:Z5):List Int:=((((Qt x0++Un (Ze x0))++Un (Zd x0))++QF x0)++Un (Zf x0))++hdb x0
theorem Z0H (x0:Z5):(WB x0).length=ZP x0+16:=by
 unfold WB ZP UD
 simp only[List.length_append,Z1b]
 simp[Qt,QF,hdb];omega
theorem Z65 {α:Type}(a b:List α):(a++b).length=a.length+b.length:=List.length_append
theorem Z1W (x0:Z5)(h:ZP x0<=1050000):Xg x0=some (WB x0):=by
 have hs:=h
 unfold ZP UD at hs
 have e1:=Z2F (Ze x0) (by omega)
 have e2:=Z2F (Zd x0) (by omega)
 have e3:=Z2F (Zf x0) (by omega)
 have l1:=Z1b (Ze x0)
 have l2:=Z1b (Zd x0)
 have l3:=Z1b (Zf x0)
 have l8:(Qt x0).length=8:=rfl
 have le:(QF x0).length=1:=rfl
 show((Wt (Ze x0)).bind λy1=>bif decide ((Qt x0).length+y1.length<68719476736)then(Wt (Zd x0)).bind λy2=>bif decide ((Qt x0++y1).length+y2.length<68719476736)then bif decide (((Qt x0++y1)++y2).length+(QF x0).length<68719476736)then(Wt (Zf x0)).bind λy3=>bif decide ((((Qt x0++y1)++y2)++QF x0).length+y3.length<68719476736)then bif(Zq x0)then bif decide (((((Qt x0++y1)++y2)++QF x0)++y3).length+[(1:Int)].length<68719476736)then some (((((Qt x0++y1)++y2)++QF x0)++y3)++[(1:Int)])else none else bif decide (((((Qt x0++y1)++y2)++QF x0)++y3).length+[(0:Int)].length<68719476736)then some (((((Qt x0++y1)++y2)++QF x0)++y3)++[(0:Int)])else none else none else none else none else none)=_
 simp only[e1,e2,e3,bind_s,Z65,l1,l2,l3,l8,le,List.length_singleton]
 rw[decide_eq_true (by omega),cond_t,decide_eq_true (by omega),cond_t,decide_eq_true (by omega),cond_t,decide_eq_true (by omega),cond_t,decide_eq_true (by omega),cond_t]
 unfold WB hdb
 cases(Zq x0)<;>rfl
theorem Z2m (x0:Z5)(h:ZP x0<=1050000):Xm x0=some (WB x0):=by
 have hs:=h
 unfold ZP UD at hs
 have e1:=Z2o (Ze x0) (by omega)
 have e2:=Z2o (Zd x0) (by omega)
 have e3:=Z2o (Zf x0) (by omega)
 have eb:UA (Zq x0)=some (bif(Zq x0)then(1:Int)else 0):=by
  unfold UA
  cases(Zq x0)<;>rfl
 have ef:[Qt x0,Un (Ze x0),Un (Zd x0),QF x0,Un (Zf x0),hdb x0].flatten=WB x0:=by
  simp[WB]
 have ec:=Z3M [Qt x0,Un (Ze x0),Un (Zd x0),QF x0,Un (Zf x0),hdb x0] (by simp) (by rw[ef,Z0H];omega)
 rw[ef]at ec
 show((Wr (Ze x0)).bind λy1=>(Wr (Zd x0)).bind λy2=>(Wr (Zf x0)).bind λy3=>(UA (Zq x0)).bind λy4=>(ZA [Qt x0,y1,y2,QF x0,y3,[y4]]).bind λy5=>some y5)=_
 simp only[e1,e2,e3,eb,bind_s]
 rw[show [bif(Zq x0)then(1:Int)else 0]=hdb x0 from rfl,ec,bind_s]
def Z09 (x0:Z5):Int:=([(233:Int)]++WB x0).foldl WF 11
theorem Z3B (x0:Z5)(h:ZP x0<=1050000):Xn x0=some (Z09 x0):=by
 have hl:=Z0H x0
 unfold Xn Z09
 rw[Z1W x0 h,bind_s,decide_eq_true (by simp[hl];omega),cond_t,Z0V _ (by simp[hl];omega),bind_s]
theorem Z6X (x0:Z5)(h:ZP x0<=1050000):XG x0=some (Z09 x0):=by
 have hl:=Z0H x0
 unfold XG Z09
 rw[Z2m x0 h,bind_s,decide_eq_true (by simp[hl];omega),cond_t,Z1G _ (by simp[hl];omega),bind_s]
def Z1K (k:Int)(xs:List Int):Int:=(([k]++xs)++[k]).foldl WF 11
theorem Z8M (k:Int)(xs:List Int)(h:xs.length<=16777216):Q4 k xs=some (Z1K k xs):=by
 unfold Q4 Z1K
 rw[decide_eq_true (by simp;omega),cond_t,decide_eq_true (by simp;omega),cond_t,Z0V _ (by simp;omega),bind_s]
theorem Z76 (k:Int)(xs:List Int)(h:xs.length<=16777216):UO k xs=some (Z1K k xs):=by
 have ef:[[k],xs,[k]].flatten=([k]++xs)++[k]:=by simp
 have ec:=Z3M [[k],xs,[k]] (by simp) (by rw[ef];simp;omega)
 rw[ef]at ec
 unfold UO Z1K
 rw[ec,bind_s,Z1G _ (by simp;omega),bind_s]
def Z0s (k:Int)(xs:List Int):Int:=Z1K k ([(223:Int)]++xs)
theorem Z5v (k:Int)(xs:List Int)(h:xs.length<=8388608):Ua k xs=some (Z0s k xs):=by
 unfold Ua Z0s
 rw[decide_eq_true (by simp;omega),cond_t,Z8M _ _ (by simp;omega),bind_s]
theorem Z7h (k:Int)(xs:List Int)(h:xs.length<=8388608):UQ k xs=some (Z0s k xs):=by
 unfold UQ Z0s
 rw[decide_eq_true (by simp;omega),cond_t,Z76 _ _ (by simp;omega),bind_s]
theorem Z3g (k:Int):WO k=some (decide (1<=k)&&decide (k<=99)):=by
 unfold WO
 rw[QI,bind_s]
def Z0o (s:Z7)(xs:List Int):Bool:=(decide (1<=s.1)&&decide (s.1<=99))&&(s.2==Z0s s.1 xs)
theorem Z8K (s:Z7)(xs:List Int)(h:xs.length<=8388608):Q3 s xs=some (Z0o s xs):=by
 unfold Q3 Z0o
 rw[QP,bind_s,Z5v _ _ h,bind_s]
 cases(decide (1<=s.1)&&decide (s.1<=99))<;>rfl
theorem Z72 (s:Z7)(xs:List Int)(h:xs.length<=8388608):UL s xs=some (Z0o s xs):=by
 unfold UL Z0o
 rw[Z3g,bind_s,Z7h _ _ h,bind_s]
 cases(decide (1<=s.1)&&decide (s.1<=99))<;>rfl
def Z0d (k:Int)(xs:List Int)(s:Z7):Bool:=s.1==k&&Z0o s xs
theorem Z5T (x0:List Z7)(x1:Unit×(Int×List Int))(hx:x0.length<=1050000)(hm:x1.2.2.length<=8388608):∀i n,i<=x0.length->x0.length-i<n->Yq.l4 x0 x1 n (x0.length:Int) (i:Int)=some (Ug (Z0d x1.2.1 x1.2.2) (x0.drop i) (i:Int)):=by
 refine idx_ind ?_ ?_
 ·intro n
  rw[Yq.u4]
  simp only[Yq.g4,lt_f (Nat.le_refl _),cond_f,Z31]
 ·intro i n hi ih
  rw[Yq.u4]
  simp only[Yq.g4,Qe,Z72 _ _ hm,lt_t hi,ge_t,cond_t,bind_s,w64_succ (i:=i) (by omega),Int.toNat_natCast,at_n hi,Z33 _ hi,ih]
  unfold Z0d
  cases(x0[i].1==x1.2.1)<;>cases(Z0o x0[i] x1.2.2)<;>rfl
theorem Z5Q (x0:List Z7)(k:Int)(xs:List Int)(hx:x0.length<=1050000)(hm:xs.length<=8388608):UY x0 ((),(k,xs))=some (x0.any (Z0d k xs)):=by
 have h:=Z5T x0 ((),(k,xs)) hx hm 0 KK (Nat.zero_le _) (KK_gt (by omega))
 have e:Yq x0 ((),(k,xs))=some (Ug (Z0d k xs) x0 0):=by
  unfold Yq
  simpa [Yq.b]using h
 unfold UY
 rw[e,bind_s,Z4r _ _ _ (Int.le_refl 0)]
def cnt (p:Int->Bool):List Int->Int->Int
 |[],c=>c
 |k::ks,c=>cnt p ks (bif p k then c+1 else c)
theorem Z4c (p:Int->Bool){ks:List Int}{i:Nat}(h:i<ks.length)(c:Int):cnt p (ks.drop i) c=cnt p (ks.drop (i+1)) (bif p ks[i]then c+1 else c):=by
 rw[List.drop_eq_getElem_cons h];rfl
theorem Z4b (p:Int->Bool)(ks:List Int)(c:Int):cnt p (ks.drop ks.length) c=c:=by
 rw[List.drop_length];rfl
def Z08 (sg:List Z7)(xs:List Int)(k:Int):Bool:=sg.any (Z0d k xs)
theorem Z6N (x0:Za)(xs:List Int)(sg:List Z7)(hk:x0.1.length<=1050000)(hs:sg.length<=1050000)(hm:xs.length<=8388608):∀i n,i<=x0.1.length->x0.1.length-i<n->∀c:Int,0<=c->c<=i->YD.l6 x0 xs sg n c (x0.1.length:Int) (i:Int)=some (cnt (Z08 sg xs) (x0.1.drop i) c):=by
 refine idx_ind ?_ ?_
 ·intro n c h0 h1
  rw[YD.u6]
  simp only[YD.g6,lt_f (Nat.le_refl _),cond_f,Z4b]
 ·intro i n hi ih c h0 h1
  rw[YD.u6]
  simp only[YD.g6,lt_t hi,ge_t,cond_t,bind_s,w64_succ (i:=i) (by omega),Int.toNat_natCast,at_n hi,Z5Q _ _ _ hs hm,Z4c _ hi,w64 (n:=c+1) (by omega) (by omega)]
  rw[show sg.any (Z0d x0.1[i] xs)=Z08 sg xs x0.1[i]from rfl]
  cases Z08 sg xs x0.1[i]with
  |true=>rw[cond_t,cond_t];exact ih _ (by omega) (by omega)
  |false=>rw[cond_f,cond_f];exact ih _ (by omega) (by omega)
theorem Z6O (x0:Za)(xs:List Int)(sg:List Z7)(hk:x0.1.length<=1050000)(hs:sg.length<=1050000)(hm:xs.length<=8388608):YD x0 xs sg=some (cnt (Z08 sg xs) x0.1 0):=by
 have:=Z6N x0 xs sg hk hs hm 0 KK (Nat.zero_le _) (KK_gt (by omega)) 0 (Int.le_refl 0) (by omega)
 rw[List.drop_zero]at this
 exact this
theorem Z8x (x0:Za)(xs:List Int)(sg:List Z7)(hs:sg.length<=1050000)(hm:xs.length<=8388608)(c:Int)(j:Nat)(hj:j<x0.1.length)(r:Int->Int->Option Int):∀i n,i<=sg.length->sg.length-i<n->Zl.l12 x0 xs sg c (j:Int) r n (i:Int)=bif(sg.drop i).any (Z0d x0.1[j] xs)then r (IntKind.i64.wrap (c+1)) (IntKind.i64.wrap ((j:Int)+1))else r c (IntKind.i64.wrap ((j:Int)+1)):=by
 refine idx_ind ?_ ?_
 ·intro n
  rw[Zl.u12]
  simp only[Zl.g12,lt_f (Nat.le_refl _),cond_f,List.drop_length,List.any_nil]
 ·intro i n hi ih
  rw[Zl.u12]
  simp only[Zl.g12,Zl.l19,Zl.g19,lt_t hi,lt_t hj,ge_t,cond_t,cond_f,bind_s,w64_succ (i:=i) (by omega),Int.toNat_natCast,at_n hi,at_n hj,Z8K _ _ hm,ih]
  rw[List.drop_eq_getElem_cons hi,List.any_cons]
  rw[show Z0d x0.1[j] xs sg[i]=(sg[i].1==x0.1[j]&&Z0o sg[i] xs)from rfl]
  cases(sg[i].1==x0.1[j])<;>cases(Z0o sg[i] xs)<;>rfl
theorem Z8w (x0:Za)(xs:List Int)(sg:List Z7)(hk:x0.1.length<=1050000)(hs:sg.length<=1050000)(hm:xs.length<=8388608):∀i n,i<=x0.1.length->x0.1.length-i<n->∀c:Int,0<=c->c<=i->Zl.l6 x0 xs sg n c (i:Int)=some (cnt (Z08 sg xs) (x0.1.drop i) c):=by
 refine idx_ind ?_ ?_
 ·intro n c h0 h1
  rw[Zl.u6]
  simp only[Zl.g6,lt_f (Nat.le_refl _),cond_f,Z4b]
 ·intro i n hi ih c h0 h1
  have hl:=Z8x x0 xs sg hs hm c i hi (Zl.l6 x0 xs sg n) 0 KK (Nat.zero_le _) (KK_gt (by omega))
  rw[List.drop_zero]at hl
  rw[Zl.u6]
  simp only[Zl.g6,lt_t hi,cond_t]
  refine Eq.trans hl ?_
  rw[w64_succ (i:=i) (by omega),w64 (n:=c+1) (by omega) (by omega),Z4c _ hi]
  rw[show sg.any (Z0d x0.1[i] xs)=Z08 sg xs x0.1[i]from rfl]
  cases Z08 sg xs x0.1[i]with
  |true=>rw[cond_t,cond_t];exact ih _ (by omega) (by omega)
  |false=>rw[cond_f,cond_f];exact ih _ (by omega) (by omega)
theorem Z8y (x0:Za)(xs:List Int)(sg:List Z7)(hk:x0.1.length<=1050000)(hs:sg.length<=1050000)(hm:xs.length<=8388608):Zl x0 xs sg=some (cnt (Z08 sg xs) x0.1 0):=by
 have:=Z8w x0 xs sg hk hs hm 0 KK (Nat.zero_le _) (KK_gt (by omega)) 0 (Int.le_refl 0) (by omega)
 rw[List.drop_zero]at this
 exact this
def gk (x0:Za)(j:Nat):Int:=x0.1.getD j 0
theorem Z2j (x0:Za)(j:Nat):x0.1.getD j 0=gk x0 j:=rfl
def Z3j (x0:Za)(i:Nat):Prop:=∀j,j<x0.1.length->i<=j->0<j->gk x0 (j-1)<gk x0 j
def Z3l (x0:Za)(i:Nat):Prop:=∀j,j<x0.1.length->i<=j->(1<=gk x0 j/\gk x0 j<=99)/\(0<j->gk x0 (j-1)<gk x0 j)
def Z4P (x0:Za):Prop:=(1<=(x0.1.length:Int)/\(x0.1.length:Int)<=4)/\(1<=x0.2/\x0.2<=(x0.1.length:Int))
theorem Z3C (x0:Za)(hx:x0.1.length<=1050000):∀i n,i<=x0.1.length->x0.1.length-i<n->∃b,Y9.l4 x0 n (i:Int)=some b/\(b=true↔Z3l x0 i/\Z4P x0):=by
 refine idx_ind ?_ ?_
 ·intro n
  rw[Y9.u4]
  simp only[Y9.g4,lt_f (Nat.le_refl _),cond_f,QP,bind_s]
  refine⟨(decide ((1:Int)<=(x0.1.length:Int))&&decide ((x0.1.length:Int)<=4))&&(decide (1<=x0.2)&&decide (x0.2<=(x0.1.length:Int))),?_,?_⟩
  ·cases(decide ((1:Int)<=(x0.1.length:Int))&&decide ((x0.1.length:Int)<=4))<;>rfl
  ·unfold Z3l Z4P
   simp only[Bool.and_eq_true,decide_eq_true_eq]
   exact⟨λh=>⟨λj h1 h2=>absurd h1 (by omega),h⟩,λh=>h.2⟩
 ·intro i n hi ih
  obtain⟨b,hb,hP⟩:=ih
  rw[Y9.u4]
  simp only[Y9.g4,lt_t hi,ge_t,cond_t,QP,bind_s,w64_succ (i:=i) (by omega),Int.toNat_natCast,hb,Z2j]
  by_cases hr:1<=gk x0 i/\gk x0 i<=99
  ·rw[decide_eq_true hr.1,decide_eq_true hr.2,Bool.and_self,Bool.not_true,cond_f]
   by_cases h0:0<i
   ·have ew:IntKind.i64.wrap ((i:Int)-1)=((i-1:Nat):Int):=by rw[w64 (by omega) (by omega)];omega
    simp only[decide_eq_true (show(i:Int)>0 by omega),cond_t,ew,ge_t,lt_t (show i-1<x0.1.length by omega),Int.toNat_natCast,Z2j]
    by_cases ha:gk x0 (i-1)<gk x0 i
    ·rw[decide_eq_false (by omega),cond_f]
     refine⟨b,rfl,hP.trans ⟨λh=>⟨λj h1 h2=> ?_,h.2⟩,λh=>⟨λj h1 h2=>h.1 j h1 (by omega),h.2⟩⟩⟩
     by_cases e:j=i
     ·subst e;exact⟨hr,λ_=>ha⟩
     ·exact h.1 j h1 (by omega)
    ·rw[decide_eq_true (by omega),cond_t]
     refine⟨false,rfl,⟨λh=>Bool.noConfusion h,λh=>absurd ((h.1 i hi (Nat.le_refl _)).2 h0) ha⟩⟩
   ·rw[decide_eq_false (by omega),cond_f]
    refine⟨b,rfl,hP.trans ⟨λh=>⟨λj h1 h2=> ?_,h.2⟩,λh=>⟨λj h1 h2=>h.1 j h1 (by omega),h.2⟩⟩⟩
    by_cases e:j=i
    ·subst e;exact⟨hr,λh=>absurd h h0⟩
    ·exact h.1 j h1 (by omega)
  ·have e:(decide (1<=gk x0 i)&&decide (gk x0 i<=99))=false:=by
    cases hc:(decide (1<=gk x0 i)&&decide (gk x0 i<=99))
    ·rfl
    ·simp only[Bool.and_eq_true,decide_eq_true_eq]at hc;exact absurd hc hr
   rw[e,Bool.not_false,cond_t]
   exact⟨false,rfl,⟨λh=>Bool.noConfusion h,λh=>absurd (h.1 i hi (Nat.le_refl _)).1 hr⟩⟩
theorem Z67 (x0:Za)(hx:x0.1.length<=1050000):∀i n,i<=x0.1.length->x0.1.length-i<n->∃b,YF.l4 x0.1 n (x0.1.length:Int) (i:Int)=some b/\(b=true↔Z3j x0 i):=by
 refine idx_ind ?_ ?_
 ·intro n
  rw[YF.u4]
  simp only[YF.g4,lt_f (Nat.le_refl _),cond_f]
  exact⟨true,rfl,⟨λ_ j h1 h2=>absurd h1 (by omega),λ_=>rfl⟩⟩
 ·intro i n hi ih
  obtain⟨b,hb,hP⟩:=ih
  rw[YF.u4]
  simp only[YF.g4,lt_t hi,ge_t,cond_t,w64_succ (i:=i) (by omega),Int.toNat_natCast,hb,Z2j]
  by_cases h0:0<i
  ·have ew:IntKind.i64.wrap ((i:Int)-1)=((i-1:Nat):Int):=by rw[w64 (by omega) (by omega)];omega
   simp only[decide_eq_true (show(i:Int)>0 by omega),cond_t,ew,ge_t,lt_t (show i-1<x0.1.length by omega),Int.toNat_natCast,Z2j]
   by_cases ha:gk x0 (i-1)<gk x0 i
   ·rw[decide_eq_false (by omega),cond_f]
    refine⟨b,rfl,hP.trans ⟨λh j h1 h2 h3=> ?_,λh j h1 h2 h3=>h j h1 (by omega) h3⟩⟩
    by_cases e:j=i
    ·subst e;exact ha
    ·exact h j h1 (by omega) h3
   ·rw[decide_eq_true (by omega),cond_t]
    exact⟨false,rfl,⟨λh=>Bool.noConfusion h,λh=>absurd (h i hi (Nat.le_refl _) h0) ha⟩⟩
  ·rw[decide_eq_false (by omega),cond_f]
   refine⟨b,rfl,hP.trans ⟨λh j h1 h2 h3=>h j h1 (by omega) h3,λh j h1 h2 h3=>h j h1 (by omega) h3⟩⟩
theorem Z3Z (x0:Za)(h:Z3j x0 0)(a:Nat):∀b,a<=b->b<x0.1.length->gk x0 a<=gk x0 b:=by
 intro b
 induction b with
 |zero=>intro h1 _;have:a=0:=by omega
        subst this;exact Int.le_refl _
 |succ b ih=>
  intro h1 h2
  by_cases e:a=b+1
  ·subst e;exact Int.le_refl _
  ·have:=ih (by omega) (by omega)
   have h3:=h (b+1) h2 (by omega) (by omega)
   rw[show b+1-1=b from rfl]at h3
   omega
theorem Z7v (x0:Za)(h:Z3j x0 0)(h0:1<=gk x0 0)(h1:gk x0 (x0.1.length-1)<=99):Z3l x0 0:=by
 intro j hj _
 have a:=Z3Z x0 h 0 j (by omega) hj
 have b:=Z3Z x0 h j (x0.1.length-1) (by omega) (by omega)
 exact⟨⟨by omega,by omega⟩,h j hj (by omega)⟩
theorem Z1v {a b:Bool}(h:a=true↔b=true):a=b:=by cases a<;>cases b<;>simp_all
theorem Z3O (x0:Za)(hx:x0.1.length<=1050000):∃b,Y9 x0=some b/\Wy x0=some b:=by
 obtain⟨s,hs,hS⟩:=Z3C x0 hx 0 KK (Nat.zero_le _) (KK_gt (by omega))
 obtain⟨a,ha,hA⟩:=Z67 x0 hx 0 KK (Nat.zero_le _) (KK_gt (by omega))
 refine⟨s,hs,?_⟩
 have ea:YF x0.1=some a:=ha
 unfold Wy
 rw[QI,bind_s]
 by_cases hl:1<=(x0.1.length:Int)/\(x0.1.length:Int)<=4
 ·rw[decide_eq_true hl.1,decide_eq_true hl.2,Bool.and_self,cond_t,ea,bind_s]
  have ew:IntKind.i64.wrap ((x0.1.length:Int)-1)=((x0.1.length-1:Nat):Int):=by rw[w64 (by omega) (by omega)];omega
  cases a with
  |false=>
   rw[cond_f]
   have:s=false:=by
    cases s with
    |false=>rfl
    |true=>
     have h:=(hS.mp rfl).1
     exact(hA.mpr (λj h1 h2 h3=>(h j h1 h2).2 h3)).symm
   rw[this]
  |true=>
   have hasc:=hA.mp rfl
   rw[cond_t,decide_eq_true (Int.le_refl 0),cond_t,decide_eq_true (by omega),cond_t,Z3g,bind_s,ew,ge_t,cond_t,lt_t (by omega),cond_t,Z3g,bind_s,QI,bind_s,Int.toNat_natCast,show(0:Int).toNat=0 from rfl]
   rw[show x0.1.getD 0 0=gk x0 0 from rfl,show x0.1.getD (x0.1.length-1) 0=gk x0 (x0.1.length-1)from rfl]
   have e:s=((decide (1<=gk x0 0)&&decide (gk x0 0<=99))&&((decide (1<=gk x0 (x0.1.length-1))&&decide (gk x0 (x0.1.length-1)<=99))&&(decide (1<=x0.2)&&decide (x0.2<=(x0.1.length:Int))))):=by
    refine Z1v (hS.trans ?_)
    simp only[Bool.and_eq_true,decide_eq_true_eq]
    constructor
    ·intro h
     exact⟨(h.1 0 (by omega) (Nat.le_refl _)).1,(h.1 (x0.1.length-1) (by omega) (by omega)).1,h.2.2⟩
    ·intro h
     exact⟨Z7v x0 hasc h.1.1 h.2.1.2,hl,h.2.2⟩
   rw[e]
   cases(decide (1<=gk x0 0)&&decide (gk x0 0<=99))<;>cases(decide (1<=gk x0 (x0.1.length-1))&&decide (gk x0 (x0.1.length-1)<=99))<;>rfl
 ·have e:(decide (1<=(x0.1.length:Int))&&decide ((x0.1.length:Int)<=4))=false:=by
   cases hc:(decide (1<=(x0.1.length:Int))&&decide ((x0.1.length:Int)<=4))
   ·rfl
   ·simp only[Bool.and_eq_true,decide_eq_true_eq]at hc;exact absurd hc hl
  rw[e,cond_f]
  have:s=false:=by
   cases s with
   |false=>rfl
   |true=>exact absurd (hS.mp rfl).2.1 hl
  rw[this]
theorem Z5U (x0:Za)(hx:x0.1.length<=1050000)(h:Y9 x0=some true):1<=x0.1.length:=by
 obtain⟨s,hs,hS⟩:=Z3C x0 hx 0 KK (Nat.zero_le _) (KK_gt (by omega))
 have e:Y9 x0=some s:=hs
 rw[h]at e
 injection e with e
 have:=(hS.mp e.symm).2.1
 omega
def UC (k:Za):Bool:=(Y9 k).getD false
theorem Z1j (k:Za)(hx:k.1.length<=1050000):Y9 k=some (UC k):=by
 obtain⟨b,h1,h2⟩:=Z3O k hx
 unfold UC
 rw[h1];rfl
theorem Z2n (k:Za)(hx:k.1.length<=1050000):Wy k=some (UC k):=by
 obtain⟨b,h1,h2⟩:=Z3O k hx
 unfold UC
 rw[h1,h2];rfl
def Wg (k:Za):Bool:=k.2==(0:Int)&&((k.1.length:Int)==(0:Int))
theorem Z2G (k:Za):WA k=some (Wg k):=by
 unfold WA Wg
 cases(k.2==(0:Int))<;>rfl
theorem Z2p (k:Za):W8 k=some (Wg k):=by
 unfold W8 Wg
 cases(k.2==(0:Int))<;>rfl
theorem Z7u (k:Za)(hx:k.1.length<=1050000):(UC k&&Wg k)=false:=by
 cases h:UC k with
 |false=>rfl
 |true=>
  have:=Z5U k hx (by rw[Z1j k hx,h])
  unfold Wg
  have e:((k.1.length:Int)==(0:Int))=false:=by rw[beq_eq_false_iff_ne];omega
  rw[e,Bool.and_false];rfl
def XX (a b c:Int):Bool:=decide (b<=a)&&decide (a<=c)
theorem Z1N (a b c:Int):ZW a b c=some (XX a b c):=QP a b c
theorem Z26 (a b c:Int):Ya a b c=some (XX a b c):=QI a b c
theorem Z7m (a:Int):Wz a=some (XX a 0 2147483646):=by
 unfold Wz
 rw[Z26,bind_s]
theorem Z0B {α:Type}(c:Bool)(a b:α):(bif c then some a else some b)=some (bif c then a else b):=by cases c<;>rfl
theorem Z40 (c a:Bool):(bif c then a else false)=(c&&a):=by cases c<;>rfl
theorem Z41 (c a:Bool):(bif c then false else a)=(!c&&a):=by cases c<;>rfl
theorem Z42 (c a:Bool):(bif c then true else a)=(c||a):=by cases c<;>rfl
theorem Z43 (c a:Bool):(bif c then a else true)=(!c||a):=by cases c<;>rfl
def hr4 (x:Z5):Bool:=XX (ZH x) 0 2147483646&&(XX (ZY x) 0 2147483646&&(XX (Xb x) 0 2147483646&&(XX (Yk x) 0 200&&XX (Yd x) 1 3)))
def Z1l (x:Z5):Bool:=decide ((Zr x)>=0)&&(decide ((Zr x)<=(ZE x))&&(decide ((ZE x)<=100000)&&decide (IntKind.i64.wrap ((ZE x)-(Zr x))<=200)))
theorem Z9l (x:Z5)(r:Bool):(XX (Zr x) 0 100000&&(XX (ZE x) (Zr x) 100000&&(!decide (IntKind.i64.wrap ((ZE x)-(Zr x))>200)&&r)))=(Z1l x&&r):=by
 have:(XX (Zr x) 0 100000&&(XX (ZE x) (Zr x) 100000&& !decide (IntKind.i64.wrap ((ZE x)-(Zr x))>200)))=Z1l x:=by
  unfold XX Z1l
  generalize IntKind.i64.wrap ((ZE x)-(Zr x))=w
  refine Z1v ?_
  simp only[Bool.and_eq_true,decide_eq_true_eq,Bool.not_eq_true',decide_eq_false_iff_not]
  omega
 rw[←this]
 simp only[Bool.and_assoc]
def Z1a (x:Z5):Bool:=(bif Wg (Zd x)then((ZU x)==(0:Int))else(UC (Zd x)&&XX (ZU x) 1 500))&&(UC (Zf x)||(Wg (Zf x)&& !(Zq x)))
def X8 (x:Z5):Bool:=hr4 x&&(Z1l x&&(XX (ZK x) 0 12&&(UC (Ze x)&&Z1a x)))
theorem Z1h (x:Z5)(hx:ZP x<=1050000):Zn x=some (X8 x):=by
 unfold ZP UD at hx
 have k1:=Z1j (Ze x) (by omega)
 have k2:=Z1j (Zd x) (by omega)
 have k3:=Z1j (Zf x) (by omega)
 have n2:=Z2G (Zd x)
 have n3:=Z2G (Zf x)
 have key:(bif Wg (Zd x)then(!((ZU x) !=(0:Int))&&(UC (Zf x)||(Wg (Zf x)&& !(Zq x))))else(UC (Zd x)&&(XX (ZU x) 1 500&&(UC (Zf x)||(Wg (Zf x)&& !(Zq x))))))=Z1a x:=by
  unfold Z1a
  cases Wg (Zd x)with
  |true=>simp[bne]
  |false=>simp only[cond_f,Bool.and_assoc]
 unfold Zn
 simp only[Zn.b,Zn.l7,Zn.g7,Zn.l11,Zn.g11,Zn.l21,Zn.g21,Z1N,k1,k2,k3,n2,n3,bind_s,Z0B,Z40,Z41,Z42,Z43,Bool.not_not]
 rw[key,Z9l]
 unfold X8 hr4 Ze
 simp only[Bool.and_assoc]
theorem Z3a (x:Z5)(hx:ZP x<=1050000):Xr x=some (X8 x):=by
 unfold ZP UD at hx
 have k1:=Z2n (Ze x) (by omega)
 have k2:=Z2n (Zd x) (by omega)
 have k3:=Z2n (Zf x) (by omega)
 have n2:=Z2p (Zd x)
 have n3:=Z2p (Zf x)
 have q3:=Z7u (Zf x) (by omega)
 have key:((Wg (Zd x)||UC (Zd x))&&((Wg (Zf x)||UC (Zf x))&&((bif Wg (Zd x)then((ZU x)==(0:Int))else XX (ZU x) 1 500)&&(!(Zq x)|| !Wg (Zf x)))))=Z1a x:=by
  unfold Z1a
  revert q3
  generalize ((ZU x)==(0:Int))=a
  generalize XX (ZU x) 1 500=b
  generalize (Zq x)=c
  cases Wg (Zd x)<;>cases UC (Zd x)<;>cases Wg (Zf x)<;>cases UC (Zf x)<;>cases a<;>cases b<;>cases c<;>decide
 unfold Xr
 simp only[US,Qh,XW,Z7m,Z26,k1,k2,k3,n2,n3,bind_s,Z0B,Z40,Z41,Z42,Z43,Bool.not_not]
 rw[key]
 unfold X8 hr4 Z1l Ze
 simp only[Bool.and_assoc]
theorem Z7q (x:Z5)(h:X8 x=true):0<=(Zr x)/\(Zr x)<=(ZE x)/\(ZE x)<=100000:=by
 unfold X8 Z1l at h
 simp only[Bool.and_eq_true,decide_eq_true_eq]at h
 omega
theorem Z5R (x0 x1:List Int)(hl:x0.length=x1.length)(hx:x0.length<=1152921504606846976):∀i n,i<=x0.length->x0.length-i<n->Ye.l8 x0 x1 n (i:Int)=some (decide (x0.drop i=x1.drop i)):=by
 refine idx_ind ?_ ?_
 ·intro n
  rw[Ye.u8]
  simp only[Ye.g8,lt_f (Nat.le_refl _),cond_f]
  rw[List.drop_length,hl,List.drop_length];simp
 ·intro i n hi ih
  have hi':i<x1.length:=by omega
  rw[Ye.u8]
  simp only[Ye.g8,lt_t hi,lt_t hi',ge_t,cond_t,w64_succ (i:=i) (by omega),Int.toNat_natCast,at_n hi,at_n hi']
  rw[dec_step (drop_eq hi hi')]
  by_cases he:x0[i]=x1[i]
  ·rw[show(x0[i] !=x1[i])=false by simp[he],cond_f,ih,decide_eq_true he,Bool.true_and]
  ·rw[show(x0[i] !=x1[i])=true by simp[he],cond_t,decide_eq_false he,Bool.false_and]
theorem Z3N (x0 x1:List Int)(hx:x0.length<=1152921504606846976):Ye x0 x1=some (decide (x0=x1)):=by
 unfold Ye
 by_cases hl:x0.length=x1.length
 ·simp only[Ye.b,len_eq hl,cond_f]
  have:=Z5R x0 x1 hl hx 0 KK (Nat.zero_le _) (KK_gt (by omega))
  simpa using this
 ·simp only[Ye.b,len_ne hl,cond_t]
  rw[decide_eq_false (λh=>hl (by rw[h]))]
theorem Z9j (x0 x1:List Int)(hl:x0.length=x1.length)(hx:x0.length<=1152921504606846976):∀i n,i<=x0.length->x0.length-i<n->Y8.l8 x0 x1 n (x0.length:Int) (i:Int)=some (decide (x0.drop i=x1.drop i)):=by
 refine idx_ind ?_ ?_
 ·intro n
  rw[Y8.u8]
  simp only[Y8.g8,lt_f (Nat.le_refl _),cond_f]
  rw[List.drop_length,hl,List.drop_length];simp
 ·intro i n hi ih
  have hi':i<x1.length:=by omega
  rw[Y8.u8]
  simp only[Y8.g8,lt_t hi,lt_t hi',ge_t,cond_t,w64_succ (i:=i) (by omega),Int.toNat_natCast,at_n hi,at_n hi']
  rw[dec_step (drop_eq hi hi')]
  by_cases he:x0[i]=x1[i]
  ·rw[show(x0[i] !=x1[i])=false by simp[he],cond_f,ih,decide_eq_true he,Bool.true_and]
  ·rw[show(x0[i] !=x1[i])=true by simp[he],cond_t,decide_eq_false he,Bool.false_and]
theorem Z3J (x0 x1:List Int)(hx:x0.length<=1152921504606846976):Y8 x0 x1=some (decide (x0=x1)):=by
 unfold Y8
 by_cases hl:x0.length=x1.length
 ·simp only[Y8.b,len_eq hl,cond_f]
  have:=Z9j x0 x1 hl hx 0 KK (Nat.zero_le _) (KK_gt (by omega))
  simpa using this
 ·simp only[Y8.b,len_ne hl,cond_t]
  rw[decide_eq_false (λh=>hl (by rw[h]))]
theorem Z9a (a b:Z7):((a.1==b.1)&&((a.2==b.2)&&true))=decide (a=b):=by
 obtain⟨a1,a2⟩:=a
 obtain⟨b1,b2⟩:=b
 by_cases h1:a1=b1<;>by_cases h2:a2=b2<;>simp[h1,h2]
theorem Z9h (x0 x1:List Z7)(hl:x0.length=x1.length)(hx:x0.length<=1152921504606846976):∀i n,i<=x0.length->x0.length-i<n->Yi.l8 x0 x1 n (x0.length:Int) (i:Int)=some (decide (x0.drop i=x1.drop i)):=by
 refine idx_ind ?_ ?_
 ·intro n
  rw[Yi.u8]
  simp only[Yi.g8,lt_f (Nat.le_refl _),cond_f]
  rw[List.drop_length,hl,List.drop_length];simp
 ·intro i n hi ih
  have hi':i<x1.length:=by omega
  rw[Yi.u8]
  simp only[Yi.g8,lt_t hi,lt_t hi',ge_t,cond_t,w64_succ (i:=i) (by omega),Int.toNat_natCast,at_n hi,at_n hi',Z9a]
  rw[dec_step (drop_eq hi hi')]
  by_cases he:x0[i]=x1[i]
  ·simp only[he,decide_true,Bool.not_true,cond_f,Bool.true_and]
   exact ih
  ·simp only[he,decide_false,Bool.not_false,cond_t,Bool.false_and]
theorem Z9i (x0 x1:List Z7)(hx:x0.length<=1152921504606846976):Yi x0 x1=some (decide (x0=x1)):=by
 unfold Yi
 by_cases hl:x0.length=x1.length
 ·simp only[Yi.b,len_eq hl,cond_f]
  have:=Z9h x0 x1 hl hx 0 KK (Nat.zero_le _) (KK_gt (by omega))
  simpa using this
 ·simp only[Yi.b,len_ne hl,cond_t]
  rw[decide_eq_false (λh=>hl (by rw[h]))]
theorem Z0u (a b:Za)(hx:a.1.length<=1050000):W7 a b=some (decide (a=b)):=by
 unfold W7
 rw[Z3J _ _ (by omega),bind_s]
 obtain⟨a1,a2⟩:=a
 obtain⟨b1,b2⟩:=b
 by_cases h1:a1=b1<;>by_cases h2:a2=b2<;>simp[h1,h2]
theorem Z3m {k k':Za}{r r':List Int}(h:Un k++r=Un k'++r'):k=k'/\r=r':=by
 unfold Un at h
 simp only[List.cons_append,List.nil_append,List.append_assoc,List.cons.injEq]at h
 obtain⟨h1,h2,h3⟩:=h
 have hl:k.1.length=k'.1.length:=by omega
 obtain⟨h4,h5⟩:=List.append_inj h3 hl
 exact⟨Prod.ext h4 h1,h5⟩
theorem Z6G {a b:Z5}(h:WB a=WB b):Ze a=Ze b/\Zd a=Zd b/\Zf a=Zf b/\hdb a=hdb b:=by
 unfold WB at h
 simp only[List.append_assoc]at h
 obtain⟨_,h⟩:=List.append_inj h rfl
 obtain⟨h1,h⟩:=Z3m h
 obtain⟨h2,h⟩:=Z3m h
 obtain⟨_,h⟩:=List.append_inj h rfl
 obtain⟨h3,h⟩:=Z3m h
 exact⟨h1,h2,h3,h⟩
def Z14 (a b:Z5):Bool:=decide (WB a=WB b)
theorem Z6S (a b:Z5)(ha:ZP a<=1050000)(hb:ZP b<=1050000):XE a b=some (Z14 a b):=by
 have hs:=ha
 unfold ZP UD at hs
 show((W7 (Ze a) (Ze b)).bind λy1=>bif y1 then(W7 (Zd a) (Zd b)).bind λy2=>bif y2 then(W7 (Zf a) (Zf b)).bind λy3=>bif y3 then(Xm a).bind λy4=>(Xm b).bind λy5=>(Y8 y4 y5).bind λy6=>some y6 else some false else some false else some false)=_
 rw[Z0u _ _ (by omega),bind_s,Z0u _ _ (by omega),bind_s,Z0u _ _ (by omega),bind_s,Z2m a ha,bind_s,Z2m b hb,bind_s,Z3J _ _ (by rw[Z0H];omega),bind_s]
 unfold Z14
 by_cases h:WB a=WB b
 ·obtain⟨h1,h2,h3,_⟩:=Z6G h
  rw[decide_eq_true h1,decide_eq_true h2,decide_eq_true h3,cond_t,cond_t,cond_t]
 ·rw[decide_eq_false h]
  cases decide (Ze a=Ze b)<;>cases decide (Zd a=Zd b)<;>cases decide (Zf a=Zf b)<;>rfl
def Z05 (a b:Z4):Bool:=Z14 (Z9 a) (Z9 b)&&decide (WD a=WD b)
theorem Z6T (a b:Z4)(ha:Xj a<=1050000)(hb:Xj b<=1050000):XF a b=some (Z05 a b):=by
 unfold Xj at ha hb
 show((XE (Z9 a) (Z9 b)).bind λy1=>bif y1 then(Yi (WD a) (WD b)).bind λy2=>some y2 else some false)=_
 rw[Z6S _ _ (by omega) (by omega),bind_s,Z9i _ _ (by omega),bind_s]
 unfold Z05
 cases Z14 (Z9 a) (Z9 b)<;>rfl
def Qs (a b:ByteArray):Bool:=a.toList==b.toList
theorem Z5X (x0 x1:List ByteArray)(hx:x0.length<=1050000):X0 x0 x1=some (QY Qs x0 x1):=
 Z2Y x0 x1 (⟨#[]⟩:ByteArray) (λa b=>some (Qs a b)) Qs hx (λi h h'=>rfl) (X0.l8 x0 x1) (λn a=>X0.u8 x0 x1 n a)
theorem Z9k (x0 x1:List ByteArray)(hx:x0.length<=1050000):YW x0 x1=some (QY Qs x0 x1):=
 Z2Y x0 x1 (⟨#[]⟩:ByteArray) (λa b=>some (Qs a b)) Qs hx (λi h h'=>rfl) (λn a=>YW.l8 x0 x1 n (x0.length:Int) a) (λn a=>YW.u8 x0 x1 n (x0.length:Int) a)
def Uz (a b:Z0):Bool:=Qs a.1 b.1&&((a.2.1==b.2.1)&&((a.2.2.1==b.2.2.1)&&QY Qs a.2.2.2 b.2.2.2))
theorem Z3y (a b:Z0)(hx:ZD a<=1050000):WQ a b=some (Uz a b):=by
 unfold WQ Uz
 rw[Z5X _ _ (by unfold ZD Xp X2 at hx;omega),bind_s]
 show(bif Qs a.1 b.1 then _ else _)=_
 cases Qs a.1 b.1<;>cases(a.2.1==b.2.1)<;>cases(a.2.2.1==b.2.2.1)<;>rfl
theorem Z1F (a b:Z0)(hx:ZD a<=1050000):Wb a b=some (Uz a b):=by
 unfold Wb Uz
 rw[Z9k _ _ (by unfold ZD Xp X2 at hx;omega),bind_s]
 show(bif Qs a.1 b.1 then _ else _)=_
 cases Qs a.1 b.1<;>cases(a.2.1==b.2.1)<;>cases(a.2.2.1==b.2.2.1)<;>rfl
theorem Z95 (x0 x1:List Z4)(hx:YG x0<=1050000)(hx':YG x1<=1050000):UU x0 x1=some (QY Z05 x0 x1):=by
 have e:YV x0 x1 ((),())=some (QY Z05 x0 x1):=
  Z2Y x0 x1 Xo XF Z05 (by unfold YG X2 at hx;omega) (λi h h'=>Z6T _ _ (by have:=Z21 Xj h;unfold YG X2 at hx;omega) (by have:=Z21 Xj h';unfold YG X2 at hx';omega)) (λn a=>YV.l8 x0 x1 n (x0.length:Int) a) (λn a=>YV.u8 x0 x1 n (x0.length:Int) a)
 unfold UU
 rw[e,bind_s]
theorem Z1P (x:Za)(hx:x.1.length<=1050000):Wu x=some x:=by
 unfold Wu
 rw[decide_eq_true (by simp;omega),cond_t];rfl
theorem Z5M (x:List Int)(hx:x.length<=1050000):UW x=some x:=by
 have e:(bif decide (([]:List Int).length+x.length<68719476736)then some ([]++x)else none)=some x:=by
  rw[decide_eq_true (by simp;omega),cond_t];rfl
 unfold UW
 rw[e]
 cases x with
 |nil=>exact both_eq _
 |cons a t=>rfl
theorem Z2U (x:Za)(hx:x.1.length<=1050000):Uj x=some x:=by
 unfold Uj
 rw[Z5M _ hx,bind_s]
theorem Z1L (x0:Z5)(hx:ZP x0<=1050000):Xe x0=some x0:=by
 unfold ZP UD at hx
 unfold Xe
 exact Z8 (Z1P _ (by omega)) (Z8 (Z1P _ (by omega)) (Z8 (Z1P _ (by omega)) rfl))
theorem Z4d (x0:Z5)(hx:ZP x0<=1050000):Xx x0=some x0:=by
 unfold ZP UD at hx
 unfold Xx
 exact Z8 (Z2U _ (by omega)) (Z8 (Z2U _ (by omega)) (Z8 (Z2U _ (by omega)) rfl))
theorem Z5L (x:List Z7)(hx:x.length<=1050000):UV x=some x:=by
 have e:(bif decide (([]:List Z7).length+x.length<68719476736)then some ([]++x)else none)=some x:=by
  rw[decide_eq_true (by simp;omega),cond_t];rfl
 unfold UV
 rw[e]
 cases x with
 |nil=>exact both_eq _
 |cons a t=>rfl
theorem Z4R (x0:Z4)(hx:Xj x0<=1050000):Xt x0=some x0:=by
 unfold Xj at hx
 unfold Xt
 exact Z8 (Z1L _ (by omega)) (cT (decide_eq_true (by simp;omega)) rfl)
theorem Z6m (x0:Z4)(hx:Xj x0<=1050000):XC x0=some x0:=by
 unfold Xj at hx
 unfold XC
 exact Z8 (Z4d _ (by omega)) (Z8 (Z5L _ (by omega)) rfl)
def Z0m (xs:List Int)(k:Int):Bool:=xs.any (λa=>a==k)
theorem Z7J (x0:List Int)(k:Int)(hx:x0.length<=1152921504606846976):∀i n,i<=x0.length->x0.length-i<n->YJ.l4 x0 k n (i:Int)=some (Z0m (x0.drop i) k):=by
 refine idx_ind ?_ ?_
 ·intro n
  rw[YJ.u4]
  simp only[YJ.g4,lt_f (Nat.le_refl _),cond_f,List.drop_length];rfl
 ·intro i n hi ih
  rw[YJ.u4]
  simp only[YJ.g4,lt_t hi,ge_t,cond_t,w64_succ (i:=i) (by omega),Int.toNat_natCast,at_n hi,ih]
  rw[List.drop_eq_getElem_cons hi]
  show _=some ((x0[i]==k)||Z0m (x0.drop (i+1)) k)
  cases(x0[i]==k)<;>rfl
theorem Z7K (x0:List Int)(k:Int)(hx:x0.length<=1152921504606846976):YJ x0 k=some (Z0m x0 k):=by
 have:=Z7J x0 k hx 0 KK (Nat.zero_le _) (KK_gt (by omega))
 rw[List.drop_zero]at this
 exact this
def QT (sk:List Int)(m:List Int):List Int->List Z7->List Z7
 |[],acc=>acc
 |k::ks,acc=>QT sk m ks (bif Z0m sk k then acc++[(k,Z0s k m)]else acc)
theorem Z9f (sk m:List Int){ks:List Int}{i:Nat}(h:i<ks.length)(acc:List Z7):QT sk m (ks.drop i) acc=QT sk m (ks.drop (i+1)) (bif Z0m sk ks[i]then acc++[(ks[i],Z0s ks[i] m)]else acc):=by
 rw[List.drop_eq_getElem_cons h];rfl
theorem Z9e (sk m ks:List Int)(acc:List Z7):QT sk m (ks.drop ks.length) acc=acc:=by
 rw[List.drop_length];rfl
theorem Z3I (sk m ks:List Int):∀acc:List Z7,(QT sk m ks acc).length<=acc.length+ks.length:=by
 induction ks with
 |nil=>intro acc;exact Nat.le_refl _
 |cons k ks ih=>
  intro acc
  show(QT sk m ks (bif Z0m sk k then acc++[(k,Z0s k m)]else acc)).length<=_
  refine Nat.le_trans (ih _) ?_
  cases Z0m sk k with
  |true=>rw[cond_t,List.length_append,List.length_cons];simp;omega
  |false=>rw[cond_f,List.length_cons];omega
theorem Z8Z (sk:List Int)(x1:Za)(m:List Int)(hs:sk.length<=1050000)(hk:x1.1.length<=1050000)(hm:m.length<=8388608):∀i n,i<=x1.1.length->x1.1.length-i<n->∀acc:List Z7,acc.length<=i->Ym.l6 sk x1 m n (i:Int) acc=some (QT sk m (x1.1.drop i) acc):=by
 refine idx_ind ?_ ?_
 ·intro n acc ha
  rw[Ym.u6]
  simp only[Ym.g6,lt_f (Nat.le_refl _),cond_f,Z9e]
 ·intro i n hi ih acc ha
  rw[Ym.u6]
  simp only[Ym.g6,lt_t hi,ge_t,cond_t,bind_s,w64_succ (i:=i) (by omega),Int.toNat_natCast,at_n hi,Z7K _ _ (show sk.length<=1152921504606846976 by omega),Z5v _ _ hm,Z9f _ _ hi]
  cases Z0m sk x1.1[i]with
  |true=>
   rw[cond_t,cond_t,decide_eq_true (by simp;omega),cond_t]
   exact ih _ (by rw[List.length_append];simp;omega)
  |false=>rw[cond_f,cond_f];exact ih _ (by omega)
theorem Z5u (sk:List Int)(x1:Za)(m:List Int)(hs:sk.length<=1050000)(hk:x1.1.length<=1050000)(hm:m.length<=8388608):Ym sk x1 m=some (QT sk m x1.1 []):=by
 have:=Z8Z sk x1 m hs hk hm 0 KK (Nat.zero_le _) (KK_gt (by omega)) [] (Nat.le_refl _)
 rw[List.drop_zero]at this
 exact this
def Z20 (sk:List Int)(k:Za)(h:Z5):Z4:=Z0y h (QT sk (WB h) k.1 [])
theorem Z1Z (sk:List Int)(k:Za)(h:Z5)(hs:sk.length<=1050000)(hk:k.1.length<=1050000)(hh:ZP h<=1050000):X9 sk k h=some (Z20 sk k h):=by
 unfold X9
 rw[Z1L _ hh,bind_s,Z1W _ hh,bind_s,Z5u _ _ _ hs hk (by rw[Z0H];omega),bind_s];rfl
theorem Z9b (sk:List Int)(k:Za)(h:Z5):Xj (Z20 sk k h)<=ZP h+k.1.length:=by
 have:=Z3I sk (WB h) k.1 []
 show ZP h+(QT sk (WB h) k.1 []).length<=_
 rw[List.length_nil,Nat.zero_add]at this
 omega
def nhD (y:Z5)(e a b u d:Int):Z5:=((ZH y),e,a,b,u,(ZK y),(ZY y),d,(Ze y).1,(Ze y).2,(Zd y).1,(Zd y).2,(ZU y),(Zf y).1,(Zf y).2,(Zq y))
def Z0X (h:Z5):ZQ:=bif X8 h then UH h true else UH Uy false
theorem Z4T (h:Z5)(hx:ZP h<=1050000):Xu h=some (Z0X h):=by
 unfold Xu Z0X
 rw[Z1h _ hx,bind_s]
 cases X8 h<;>rfl
def QH (x0:Z5)(x2 x3:Int):Bool:=X8 x0&&(XX x2 (Zr x0) 100000&&XX x3 0 200)
def Wl (x0:Z5)(x1 x2 x3:Int):Z5:=nhD x0 (IntKind.i64.wrap ((Yk x0)+(1:Int))) x1 x2 (IntKind.i64.wrap (x2+x3)) (Z09 x0)
def Z1e (x0:Z5)(x1 x2 x3:Int):ZQ:=bif QH x0 x2 x3 then Z0X (Wl x0 x1 x2 x3)else UH Uy false
theorem Z8Q (x0:Z5)(x1 x2 x3:Int)(v:Bool)(hx:ZP x0<=1050000):Yz.l5 x0 x1 x2 x3 v=some (bif v then UH Uy false else Z0X (Wl x0 x1 x2 x3)):=by
 cases v with
 |true=>rfl
 |false=>
  show((Xe x0).bind λy2=>(Xn x0).bind λy3=>(Xu (nhD y2 (IntKind.i64.wrap ((Yk x0)+(1:Int))) x1 x2 (IntKind.i64.wrap (x2+x3)) y3)).bind λy4=>some y4)=_
  have hn:ZP (nhD x0 (IntKind.i64.wrap ((Yk x0)+(1:Int))) x1 x2 (IntKind.i64.wrap (x2+x3)) (Z09 x0))<=1050000:=hx
  rw[Z1L _ hx,bind_s,Z3B _ hx,bind_s,Z4T _ hn,bind_s];rfl
theorem Z8R (x0:Z5)(x1 x2 x3:Int)(hx:ZP x0<=1050000):Yz x0 x1 x2 x3=some (Z1e x0 x1 x2 x3):=by
 unfold Yz
 simp only[Yz.b,Z1h _ hx,Z1N,bind_s,Z8Q _ _ _ _ _ hx]
 unfold Z1e QH
 cases X8 x0<;>cases XX x2 (Zr x0) 100000<;>cases XX x3 0 200<;>rfl
theorem Z3k (k:Za)(hx:k.1.length<=1050000)(h:UC k=true):k.1.length<=4:=by
 obtain⟨s,hs,hS⟩:=Z3C k hx 0 KK (Nat.zero_le _) (KK_gt (by omega))
 have e:Y9 k=some s:=hs
 rw[Z1j k hx,h]at e
 injection e with e
 have:=(hS.mp e.symm).2.1
 omega
theorem Z5c (k:Za)(h:Wg k=true):k.1.length<=4:=by
 unfold Wg at h
 simp only[Bool.and_eq_true,beq_iff_eq]at h
 omega
theorem Z3f (x:Z5)(hx:ZP x<=1050000)(h:X8 x=true):ZP x<=12:=by
 have hs:=hx
 unfold ZP UD at hs
 unfold X8 Z1a at h
 simp only[Bool.and_eq_true]at h
 obtain⟨_,_,_,h1,h2,h3⟩:=h
 have l1:=Z3k _ (by omega) h1
 have l2:(Zd x).1.length<=4:=by
  cases hn:Wg (Zd x)with
  |true=>exact Z5c _ hn
  |false=>
   rw[hn,cond_f,Bool.and_eq_true]at h2
   exact Z3k _ (by omega) h2.1
 have l3:(Zf x).1.length<=4:=by
  rw[Bool.or_eq_true,Bool.and_eq_true]at h3
  rcases h3 with h3|h3
  ·exact Z3k _ (by omega) h3
  ·exact Z5c _ h3.1
 unfold ZP UD
 omega
theorem aB {e f:Option Bool}{b c:Bool}(h:e=some b)(hf:f=some c):(e.bind λy=>bif y then f else some false)=some (b&&c):=by
 rw[h,bind_s,hf];cases b<;>rfl
theorem aC {f:Option Bool}{c d:Bool}(hf:f=some d):(bif c then f else some false)=some (c&&d):=by
 rw[hf];cases c<;>rfl
theorem aL {α:Type}{e:Option α}{b:α}(h:e=some b):(e.bind λy=>some y)=some b:=by rw[h,bind_s]
def Qr (a b:YC):Bool:=a.1==b.1&&decide (a.2=b.2)
theorem Z3z (a b:YC)(hx:XA a<=1050000):WR a b=some (Qr a b):=by
 unfold XA at hx
 unfold WR Qr
 exact aC (aL (Z3N _ _ (by omega)))
theorem Z2l (a b:YC)(hx:XA a<=1050000):Wx a b=some (Qr a b):=by
 unfold XA at hx
 unfold Wx Qr
 exact aC (aL (Z3J _ _ (by omega)))
def Z0k (a b:Zp):Bool:=ZB a==ZB b&&(Uz (ZC a) (ZC b)&&(Uz (Zz a) (Zz b)&&(Qr (Yu a) (Yu b)&&Qr (Yj a) (Yj b))))
theorem Z8A (a b:Zp)(hx:W4 a<=1050000):XN a b=some (Z0k a b):=by
 unfold W4 at hx
 unfold XN Z0k
 exact aC (aB (Z3y _ _ (by omega)) (aB (Z3y _ _ (by omega)) (aB (Z3z _ _ (by omega)) (aL (Z3z _ _ (by omega))))))
theorem Z4A (a b:Zp)(hx:W4 a<=1050000):Xw a b=some (Z0k a b):=by
 unfold W4 at hx
 unfold Xw Z0k
 exact aC (aB (Z1F _ _ (by omega)) (aB (Z1F _ _ (by omega)) (aB (Z2l _ _ (by omega)) (aL (Z2l _ _ (by omega))))))
def Z2i (a b:Zi):Bool:=QY Z05 (ZO a) (ZO b)&&(Xk a==Xk b&&(Uz (Zx a) (Zx b)&&(Qr (Xc a) (Xc b)&&Z0k (Zh a) (Zh b))))
theorem Z6R (a b:Zi)(ha:W3 a<=1050000)(hb:W3 b<=1050000):XD a b=some (Z2i a b):=by
 unfold W3 at ha hb
 unfold XD Z2i
 exact aB (Z95 _ _ (by omega) (by omega)) (aC (aB (Z1F _ _ (by omega)) (aB (Z2l _ _ (by omega)) (aL (Z4A _ _ (by omega))))))
theorem Z0W {xs:List Z4}{i:Nat}(h:i<xs.length){n:Nat}(hx:YG xs<=n):Xj xs[i]<=n:=by
 have:=Z21 Xj h
 unfold YG X2 at hx
 omega
theorem Z0E {xs:List Z0}{i:Nat}(h:i<xs.length){n:Nat}(hx:Zv xs<=n):ZD xs[i]<=n:=by
 have:=Z21 ZD h
 unfold Zv X2 at hx
 omega
def Z1q (k:Za)(s:Int):Int:=([(239:Int),s]++Un k).foldl WF 11
theorem Z5x (k:Za)(s:Int)(hk:k.1.length<=1050000):Ub k s=some (Z1q k s):=by
 have hl:=Z1b k
 unfold Ub Z1q
 rw[Z2F k hk,bind_s,decide_eq_true (by simp[hl];omega),cond_t,Z0V _ (by simp[hl];omega),bind_s]
theorem Z7l (k:Za)(s:Int)(hk:k.1.length<=1050000):UR k s=some (Z1q k s):=by
 have hl:=Z1b k
 unfold UR Z1q
 rw[Z2o k hk,bind_s,decide_eq_true (by simp[hl];omega),cond_t,Z1G _ (by simp[hl];omega),bind_s]
def Z1I (k:Za)(m:List Int)(sg:List Z7):Bool:=UC k&&decide (cnt (Z08 sg m) k.1 0>=k.2)
theorem Z5o (k:Za)(m:List Int)(sg:List Z7)(hk:k.1.length<=1050000)(hs:sg.length<=1050000)(hm:m.length<=8388608):U9 k m sg=some (Z1I k m sg):=by
 unfold U9 Z1I
 exact aB (Z1j k hk) (Z8 (Z8y k m sg hk hs hm) rfl)
theorem Z73 (k:Za)(m:List Int)(sg:List Z7)(hk:k.1.length<=1050000)(hs:sg.length<=1050000)(hm:m.length<=8388608):UM k m sg=some (Z1I k m sg):=by
 unfold UM Z1I
 exact aB (Z2n k hk) (Z8 (Z6O k m sg hk hs hm) rfl)
def Qy (s:Z4)(k:Za):Bool:=Z1I k (WB (Z9 s)) (WD s)
theorem Z37 (x:Z5)(hx:ZP x<=1050000):(WB x).length<=8388608:=by rw[Z0H];omega
theorem Z2r (s:Z4)(k:Za)(hs:Xj s<=1050000)(hk:k.1.length<=1050000):Xi s k=some (Qy s k):=by
 unfold Xj at hs
 unfold Xi Qy
 exact Z8 (Z2m _ (by omega)) (aL (Z73 _ _ _ hk (by omega) (Z37 _ (by omega))))
def Z0b (s:Z4):Bool:=X8 (Z9 s)&&(Yk (Z9 s)==(0:Int)&&(Yd (Z9 s)==(1:Int)&&(!(Zq (Z9 s))&&(ZH (Z9 s)==Z1q (Ze (Z9 s)) (Xb (Z9 s))&&Qy s (Ze (Z9 s))))))
theorem Z8H (s:Z4)(hs:Xj s<=1050000):XO s=some (Z0b s):=by
 unfold Xj at hs
 have hk:(Ze (Z9 s)).1.length<=1050000:=by unfold ZP UD at hs;omega
 unfold XO Z0b
 exact aB (Z1h _ (by omega)) (aC (aC (aC (Z8 (Z5x _ _ hk) (aC (Z8 (Z1W _ (by omega)) (aL (Z5o _ _ _ hk (by omega) (Z37 _ (by omega))))))))))
theorem Z6Z (s:Z4)(hs:Xj s<=1050000):XH s=some (Z0b s):=by
 have hs':=hs
 unfold Xj at hs'
 have hk:(Ze (Z9 s)).1.length<=1050000:=by unfold ZP UD at hs';omega
 unfold XH Z0b
 exact aB (Z3a _ (by omega)) (aC (aC (aC (Z8 (Z7l _ _ hk) (aC (aL (Z2r _ _ hs hk)))))))
theorem Z2D (a b:Za)(hx:a.1.length<=1050000):WI a b=some (decide (a=b)):=by
 unfold WI
 refine(aC (aL (Z3N _ _ (by omega)))).trans ?_
 obtain⟨a1,a2⟩:=a
 obtain⟨b1,b2⟩:=b
 by_cases h1:a1=b1<;>by_cases h2:a2=b2<;>simp[h1,h2]
def Z0r (a b:Z5):Bool:=ZK a==ZK b&&ZY a==ZY b
theorem Z5t (a b:Z5):XB a b=some (Z0r a b):=aC rfl
theorem Z4I (a b:Z5):Xz a b=some (Z0r a b):=aC rfl
def Z1T (p h:Z5):Int:=bif Zq p then 4 else bif Zq h then 6 else 1
def Z3s (p h:Z5):Bool:=Wg (Zd p)||decide ((Zr h)<(IntKind.i64.wrap ((ZE p)+(ZU p))))
def Z1B (p h:Z5):Int:=bif Zq p then 4 else bif Z3s p h then 5 else bif Zq h||(!decide (Ze h=Zd p)|| !Z0r h p)then 6 else 1
def Z1J (p h:Z5):Int:=bif Wg (Zf p)then 5 else bif(Zq h==Zq p)|| !(Z0r h p&&(decide (Zf h=Zf p)&&(decide (Zd h=Zd p)&&(ZU h==ZU p))))then 6 else bif Zq h&& !decide (Ze h=Ze p)then 6 else 1
theorem Z8S (p h:Z5):XT p h=some (Z1T p h):=by
 unfold XT Z1T
 cases Zq p<;>cases Zq h<;>rfl
theorem Z0a (h:Z5)(hx:ZP h<=1050000):(Ze h).1.length<=1050000/\(Zd h).1.length<=1050000/\(Zf h).1.length<=1050000:=by
 unfold ZP UD at hx;omega
theorem Z8F (p h:Z5)(hh:ZP h<=1050000):Ys p h=some (Z1B p h):=by
 have hk:=(Z0a h hh).1
 unfold Ys Z1B Z3s
 simp only[Ys.b,Ys.l9,Ys.g9,Z2G,Z2D _ _ hk,Z5t,bind_s]
 generalize decide ((Zr h)<(IntKind.i64.wrap ((ZE p)+(ZU p))))=a
 generalize decide (Ze h=Zd p)=b
 cases Zq p<;>cases Wg (Zd p)<;>cases a<;>cases Zq h<;>cases b<;>cases Z0r h p<;>rfl
theorem Z8L (p h:Z5)(hh:ZP h<=1050000):Yt p h=some (Z1J p h):=by
 have hk:=Z0a h hh
 unfold Yt Z1J
 simp only[Yt.b,Yt.l9,Yt.g9,Z2G,Z2D _ _ hk.1,Z2D _ _ hk.2.1,Z2D _ _ hk.2.2,Z5t,bind_s,bne]
 generalize (ZU h==ZU p)=w
 generalize (Zq h==Zq p)=q
 generalize decide (Zf h=Zf p)=a
 generalize decide (Zd h=Zd p)=b
 generalize decide (Ze h=Ze p)=d
 cases Wg (Zf p)<;>cases q<;>cases Z0r h p<;>cases a<;>cases b<;>cases w<;>cases Zq h<;>cases d<;>rfl
def Z07 (code:Int)(b:Bool):Int:=bif code==(1:Int)then(bif b then code else 7)else code
def Z0L (p h:Z5):Bool:=ZH h==ZH p&&(Yk h==IntKind.i64.wrap ((Yk p)+(1:Int))&&(Xb h==Z09 p&&decide (Zr h>=Zr p)))
theorem Z7r (p h:Z5)(hp:ZP p<=1050000):XJ p h=some (Z0L p h):=by
 unfold XJ Z0L
 exact aC (aC (Z8 (Z6X p hp) (aC rfl)))
def Z2s (p:Z5)(s:Z4):Int:=
 bif Yd (Z9 s)==(2:Int)then Z07 (Z1B p (Z9 s)) (Qy s (Zd p))else bif Yd (Z9 s)==(3:Int)then Z07 (Z1J p (Z9 s)) (Qy s (Zf p))else Z07 (Z1T p (Z9 s)) (Qy s (Ze p))
def Qv (p:Z5)(s:Z4):Int:=
 bif !(X8 p&&X8 (Z9 s))then 2 else bif !Z0L p (Z9 s)then 3 else Z2s p s
theorem Z6x (c:Int)(b:Bool):(bif c==(1:Int)then(bif !b then some (7:Int)else some c)else some c)=some (Z07 c b):=by
 unfold Z07
 cases(c==(1:Int))<;>cases b<;>rfl
theorem Z3D (s:Z4)(c:Int)(k:Za)(hs:Xj s<=1050000)(hk:k.1.length<=1050000):Zo.l31 s c k.1 k.2=some (Z07 c (Qy s k)):=by
 unfold Xj at hs
 unfold Zo.l31
 simp only[Zo.g31,Z1W _ (show ZP (Z9 s)<=1050000 by omega),Z5o k _ _ hk (show(WD s).length<=1050000 by omega) (Z37 (Z9 s) (by omega)),bind_s]
 exact Z6x c _
theorem Z5r (p:Z5)(s:Z4)(hp:ZP p<=1050000)(hs:Xj s<=1050000):Zo p s=some (Qv p s):=by
 have hs':=hs
 unfold Xj at hs'
 have hk:=Z0a p hp
 unfold Zo Qv Z0L
 simp only[Zo.b,Zo.l9,Zo.g9,Zo.l13,Zo.g13,Z1h p hp,Z1h (Z9 s) (show _<=1050000 by omega),Z3B p hp,Z8S,Z8F p (Z9 s) (by omega),Z8L p (Z9 s) (by omega),Z3D s _ _ hs hk.1,Z3D s _ _ hs hk.2.1,Z3D s _ _ hs hk.2.2,bind_s,Z0B,bne]
 show some _=some _
 unfold Z2s
 congr 1
 generalize (ZH (Z9 s)==ZH p)=a
 generalize (Yk (Z9 s)==IntKind.i64.wrap ((Yk p)+(1:Int)))=b
 generalize (Xb (Z9 s)==Z09 p)=c
 have e:decide ((Zr (Z9 s))<(Zr p))= !decide (Zr (Z9 s)>=Zr p):=by
  by_cases h:Zr (Z9 s)<Zr p
  ·rw[decide_eq_true h,decide_eq_false (by omega)];rfl
  ·rw[decide_eq_false h,decide_eq_true (by omega)];rfl
 rw[e]
 generalize decide (Zr (Z9 s)>=Zr p)=d
 cases X8 p<;>cases X8 (Z9 s)<;>cases a<;>cases b<;>cases c<;>cases d<;>rfl
theorem Z7b (p:Z5)(s:Z4)(hp:ZP p<=1050000)(hs:Xj s<=1050000):XL p s=some (Z07 (Z1T p (Z9 s)) (Qy s (Ze p))):=by
 have hk:=Z0a p hp
 unfold XL Z1T
 rw[Z2r s _ hs hk.1,bind_s]
 cases Zq p<;>cases Zq (Z9 s)<;>cases Qy s (Ze p)<;>rfl
theorem Z6Y (p:Z5)(s:Z4)(hp:ZP p<=1050000)(hs:Xj s<=1050000):ZI p s=some (Z07 (Z1B p (Z9 s)) (Qy s (Zd p))):=by
 have hk:=Z0a p hp
 have hs':=hs
 unfold Xj at hs'
 have hq:=Z0a (Z9 s) (by omega)
 unfold ZI Z1B Z3s
 simp only[ZI.b,ZI.l11,ZI.g11,ZI.l15,ZI.g15,Z2p,Z0u _ _ hq.1,Z4I,Z2r s _ hs hk.2.1,bind_s]
 generalize decide ((Zr (Z9 s))<(IntKind.i64.wrap ((ZE p)+(ZU p))))=a
 generalize decide (Ze (Z9 s)=Zd p)=b
 generalize Qy s (Zd p)=c
 cases Zq p<;>cases Wg (Zd p)<;>cases a<;>cases Zq (Z9 s)<;>cases b<;>cases Z0r (Z9 s) p<;>cases c<;>rfl
theorem Z75 (p:Z5)(s:Z4)(hp:ZP p<=1050000)(hs:Xj s<=1050000):ZJ p s=some (Z07 (Z1J p (Z9 s)) (Qy s (Zf p))):=by
 have hk:=Z0a p hp
 have hs':=hs
 unfold Xj at hs'
 have hq:=Z0a (Z9 s) (by omega)
 unfold ZJ Z1J
 simp only[ZJ.b,ZJ.l7,ZJ.g7,ZJ.l13,ZJ.g13,Z2p,Z0u _ _ hq.1,Z0u _ _ hq.2.1,Z0u _ _ hq.2.2,Z4I,Z2r s _ hs hk.2.2,bind_s]
 generalize (ZU (Z9 s)==ZU p)=w
 generalize (Zq (Z9 s)==Zq p)=q
 generalize decide (Zf (Z9 s)=Zf p)=a
 generalize decide (Zd (Z9 s)=Zd p)=b
 generalize decide (Ze (Z9 s)=Ze p)=d
 generalize Qy s (Zf p)=c
 cases Wg (Zf p)<;>cases q<;>cases Z0r (Z9 s) p<;>cases a<;>cases b<;>cases w<;>cases Zq (Z9 s)<;>cases d<;>cases c<;>rfl
theorem Z7p (x:Z5)(h:X8 x=true):Yd x=1∨Yd x=2∨Yd x=3:=by
 unfold X8 hr4 at h
 simp only[Bool.and_eq_true]at h
 have h1:=h.1.2.2.2.2
 unfold XX at h1
 simp only[Bool.and_eq_true,decide_eq_true_eq]at h1
 omega
theorem Z7a (p:Z5)(s:Z4)(hp:ZP p<=1050000)(hs:Xj s<=1050000):Yo p s=some (Qv p s):=by
 have hs':=hs
 unfold Xj at hs'
 unfold Yo Qv
 simp only[Yo.b,Yo.l5,Yo.g5,Z3a p hp,Z3a (Z9 s) (show _<=1050000 by omega),Z7r p _ hp,Z7b p s hp hs,Z6Y p s hp hs,Z75 p s hp hs,bind_s]
 cases h1:X8 p with
 |false=>rfl
 |true=>
  cases h2:X8 (Z9 s)with
  |false=>rfl
  |true=>
   cases Z0L p (Z9 s)with
   |false=>rfl
   |true=>
    show _=some (Z2s p s)
    unfold Z2s
    rcases Z7p _ h2 with h|h|h<;>rw[h]<;>rfl
def Z0c (p:Z5)(s:Z4):Bool:=Qv p s==(1:Int)
theorem Z8O (p:Z5)(s:Z4)(hp:ZP p<=1050000)(hs:Xj s<=1050000):XP p s=some (Z0c p s):=Z8 (Z5r p s hp hs) rfl
theorem Z79 (p:Z5)(s:Z4)(hp:ZP p<=1050000)(hs:Xj s<=1050000):XI p s=some (Z0c p s):=Z8 (Z7a p s hp hs) rfl
def fw :Option Z5->List Z4->Int->Int
 |_,[],_=> -1
 |none,s::t,k=>bif !Z0b s then k else fw (some (Z9 s)) t (k+1)
 |some p,s::t,k=>bif !Z0c p s then k else fw (some (Z9 s)) t (k+1)
def Z0U (xs:List Z4):Nat->Option Z5
 |0=>none
 |j+1=>some (Z9 (xs.getD j Xo))
theorem Z4u (o:Option Z5)(xs:List Z4)(k:Int):fw o (xs.drop xs.length) k= -1:=by
 rw[List.drop_length]
 cases o<;>rfl
theorem Z4w {xs:List Z4}(h:0<xs.length):fw none (xs.drop 0) 0=bif !Z0b xs[0]then 0 else fw (Z0U xs 1) (xs.drop 1) 1:=by
 rw[List.drop_eq_getElem_cons h]
 show _=bif !Z0b xs[0]then 0 else fw (some (Z9 (xs.getD 0 Xo))) (xs.drop 1) 1
 rw[at_n h];rfl
theorem Z4v {xs:List Z4}{j:Nat}(h:j+1<xs.length):fw (Z0U xs (j+1)) (xs.drop (j+1)) ((j+1:Nat):Int)=bif !Z0c (Z9 xs[j]) xs[j+1]then((j+1:Nat):Int)else fw (Z0U xs (j+2)) (xs.drop (j+2)) ((j+2:Nat):Int):=by
 rw[List.drop_eq_getElem_cons h]
 show fw (some (Z9 (xs.getD j Xo))) _ _=bif !Z0c (Z9 xs[j]) xs[j+1]then((j+1:Nat):Int)else fw (some (Z9 (xs.getD (j+1) Xo))) (xs.drop (j+2)) ((j+2:Nat):Int)
 rw[at_n h,at_n (show j<xs.length by omega)];rfl
theorem Z36 {xs:List Z4}{i:Nat}(h:i<xs.length){n:Nat}(hx:YG xs<=n):ZP (Z9 xs[i])<=n:=by
 have:=Z0W h hx
 unfold Xj at this
 omega
theorem Z8C (x0:List Z4)(hx:YG x0<=1050000):∀i n,i<=x0.length->x0.length-i<n->Yy.l4 x0 n (i:Int)=some (fw (Z0U x0 i) (x0.drop i) (i:Int)):=by
 have hl:x0.length<=1050000:=by unfold YG X2 at hx;omega
 refine idx_ind ?_ ?_
 ·intro n
  rw[Yy.u4]
  simp only[Yy.g4,lt_f (Nat.le_refl _),cond_f,Z4u]
 ·intro i n hi ih
  rw[Yy.u4]
  match i,hi,ih with
  |0,hi,ih=>
   have e:=Z4w hi
   have hg:x0.getD ((0:Int).toNat) Xo=x0[0]:=at_n hi _
   simp only[Yy.g4,lt_t hi,cond_t,Int.natCast_zero,beq_self_eq_true,decide_eq_true (Int.le_refl 0),hg,Z8H _ (Z0W hi hx),bind_s]
   rw[decide_eq_true (show(0:Int)<(x0.length:Int) by omega),cond_t,cond_t,wd (n:=(0:Int)+1) (by omega),decide_eq_false (by omega),cond_f,show(0:Int)+1=((0+1:Nat):Int)from rfl,ih]
   rw[show Z0U x0 0=none from rfl,e,Z0B];rfl
  |j+1,hi,ih=>
   have e:=Z4v hi
   have hj:j<x0.length:=by omega
   have ew:IntKind.i64.wrap (((j+1:Nat):Int)-1)=(j:Int):=by rw[wd (by omega)];omega
   simp only[Yy.g4,lt_t hi,cond_t,ew,ge_t,lt_t hj,Int.toNat_natCast,at_n hi,at_n hj,Z8O _ _ (Z36 hj hx) (Z0W hi hx),bind_s]
   rw[show(((j+1:Nat):Int)==(0:Int))=false by rw[beq_eq_false_iff_ne];omega,cond_f,decide_eq_true (by omega),cond_t,w64_succ (by omega),ih,e,Z0B]
theorem Z6U (x0:List Z4)(hx:YG x0<=1050000):∀i n,i<=x0.length->x0.length-i<n->Yw.l4 x0 n (x0.length:Int) (i:Int)=some (fw (Z0U x0 i) (x0.drop i) (i:Int)):=by
 have hl:x0.length<=1050000:=by unfold YG X2 at hx;omega
 refine idx_ind ?_ ?_
 ·intro n
  rw[Yw.u4]
  simp only[Yw.g4,lt_f (Nat.le_refl _),cond_f,Z4u]
 ·intro i n hi ih
  rw[Yw.u4]
  match i,hi,ih with
  |0,hi,ih=>
   have e:=Z4w hi
   have hg:x0.getD ((0:Int).toNat) Xo=x0[0]:=at_n hi _
   simp only[Yw.g4,lt_t hi,cond_t,Int.natCast_zero,beq_self_eq_true,decide_eq_true (Int.le_refl 0),hg,Z6Z _ (Z0W hi hx),bind_s]
   rw[decide_eq_true (show(0:Int)<(x0.length:Int) by omega),cond_t,cond_t,wd (n:=(0:Int)+1) (by omega),decide_eq_false (by omega),cond_f,show(0:Int)+1=((0+1:Nat):Int)from rfl,ih]
   rw[show Z0U x0 0=none from rfl,e,Z0B];rfl
  |j+1,hi,ih=>
   have e:=Z4v hi
   have hj:j<x0.length:=by omega
   have ew:IntKind.i64.wrap (((j+1:Nat):Int)-1)=(j:Int):=by rw[wd (by omega)];omega
   simp only[Yw.g4,lt_t hi,cond_t,ew,ge_t,lt_t hj,Int.toNat_natCast,at_n hi,at_n hj,Z79 _ _ (Z36 hj hx) (Z0W hi hx),bind_s]
   rw[show(((j+1:Nat):Int)==(0:Int))=false by rw[beq_eq_false_iff_ne];omega,cond_f,decide_eq_true (by omega),cond_t,w64_succ (by omega),ih,e,Z0B]
def XY (xs:List Z4):Bool:=XX (xs.length:Int) 1 12&&decide (fw none xs 0<0)
theorem Z8D (x0:List Z4)(hx:YG x0<=1050000):Yy x0=some (fw none x0 0):=
 Z8C x0 hx 0 KK (Nat.zero_le _) (KK_gt (by unfold YG X2 at hx;omega))
theorem Z6V (x0:List Z4)(hx:YG x0<=1050000):Yw x0=some (fw none x0 0):=
 Z6U x0 hx 0 KK (Nat.zero_le _) (KK_gt (by unfold YG X2 at hx;omega))
theorem Z8G (x0:List Z4)(hx:YG x0<=1050000):Q2 x0=some (XY x0):=by
 unfold Q2 XY
 exact aB (Z1N _ _ _) (Z8 (Z8D x0 hx) rfl)
theorem Z4C (x0:List Z4)(hx:YG x0<=1050000):U1 x0=some (XY x0):=by
 unfold U1 XY
 exact aB (Z26 _ _ _) (Z8 (Z6V x0 hx) rfl)
theorem Z2q (xs:List Z4)(h:XY xs=true):1<=xs.length/\xs.length<=12:=by
 unfold XY XX at h
 simp only[Bool.and_eq_true,decide_eq_true_eq]at h
 omega
theorem Z7w (xs:List Z4)(i:Nat)(n:Nat)(hx:YG xs<=n):ZP (Z9 (xs.getD i Xo))<=n:=by
 by_cases h:i<xs.length
 ·rw[at_n h];exact Z36 h hx
 ·have e:xs.getD i Xo=Xo:=by simp[List.getD,show xs.length<=i by omega]
  rw[e];exact Nat.zero_le _
theorem Z4X (x:List ByteArray)(hx:x.length<=1050000):Ud x=some x:=by
 unfold Ud
 rw[decide_eq_true (by simp;omega),cond_t];rfl
theorem Z5N (x:List ByteArray)(hx:x.length<=1050000):UX x=some x:=by
 have e:(bif decide (([]:List ByteArray).length+x.length<68719476736)then some ([]++x)else none)=some x:=by
  rw[decide_eq_true (by simp;omega),cond_t];rfl
 unfold UX
 rw[e]
 cases x with
 |nil=>exact both_eq _
 |cons a t=>rfl
theorem Z4i (e:Z0)(hx:ZD e<=1050000):e.2.2.2.length<=1050000:=by
 unfold ZD Xp X2 at hx;omega
theorem Z0N (e:Z0)(hx:ZD e<=1050000):W6 e=some e:=by
 unfold W6
 exact Z8 (Z4X _ (Z4i e hx)) rfl
theorem Z2e (e:Z0)(hx:ZD e<=1050000):Ws e=some e:=by
 unfold Ws
 exact Z8 (Z5N _ (Z4i e hx)) rfl
theorem Z3U (c:Bool)(h:Z5):Qq (bif c then UH h true else Qk)=c/\(c=true->Z6 (bif c then UH h true else Qk)=h):=by
 cases c
 ·exact⟨rfl,λh=>Bool.noConfusion h⟩
 ·exact⟨rfl,λ_=>rfl⟩
theorem Z8b (x0:Z5)(x1 x2 x3:Int):Qq (Z1e x0 x1 x2 x3)=(QH x0 x2 x3&&X8 (Wl x0 x1 x2 x3)):=by
 unfold Z1e Z0X
 cases QH x0 x2 x3<;>cases X8 (Wl x0 x1 x2 x3)<;>rfl
theorem Z8a (x0:Z5)(x1 x2 x3:Int)(h:(QH x0 x2 x3&&X8 (Wl x0 x1 x2 x3))=true):Z6 (Z1e x0 x1 x2 x3)=Wl x0 x1 x2 x3:=by
 rw[Bool.and_eq_true]at h
 unfold Z1e Z0X
 rw[h.1,h.2,cond_t,cond_t]
 exact(Z27 _ _).1
theorem Z89 (x0:Z5)(x1 x2 x3:Int):ZP (Wl x0 x1 x2 x3)=ZP x0:=by unfold Wl nhD;rfl
theorem Z4J {α:Type}(xs:List α)(d:α)(f:α->Option Bool)(p:α->Bool)(hl:xs.length<=1050000)(hf:∀i (h:i<xs.length),f xs[i]=some (p xs[i]))(l:Nat->Int->Int->Option Int)(u:∀n L a,l (n+1) L a=(bif decide (a<L)then bif decide (0<=a)then bif decide (a<(xs.length:Int))then(f (xs.getD a.toNat d)).bind λy1=>bif y1 then some a else l n L (IntKind.i64.wrap (a+(1:Int)))else none else none else some (-1:Int))):l KK (xs.length:Int) (0:Int)=some (Ug p xs 0):=by
 have hh:∀i n,i<=xs.length->xs.length-i<n->l n (xs.length:Int) (i:Int)=some (Ug p (xs.drop i) (i:Int)):=by
  refine idx_ind ?_ ?_
  ·intro n
   rw[u]
   simp only[lt_f (Nat.le_refl _),cond_f,Z31]
  ·intro i n hi ih
   rw[u]
   simp only[lt_t hi,ge_t,cond_t,Int.toNat_natCast,at_n hi,hf i hi,bind_s,w64_succ (i:=i) (by omega),ih,Z33 p hi]
   cases p xs[i]<;>rfl
 have:=hh 0 KK (Nat.zero_le _) (KK_gt (by omega))
 rw[List.drop_zero]at this
 exact this
theorem Z6k {α:Type}(xs:List α)(p:α->Bool){e:Option Int}(h:e=some (Ug p xs 0)):(e.bind λy1=>some (decide (y1>=(0:Int))))=some (xs.any p):=by
 rw[h,bind_s,Z4r _ _ _ (Int.le_refl 0)]
theorem Z2V {α:Type}(xs:List α)(d:α)(f:α->Option α)(hl:xs.length<=1050000)(hf:∀i (h:i<xs.length),f xs[i]=some xs[i])(l:Nat->List α->Int->Option (List α))(u:∀n ys a,l (n+1) ys a=(bif decide (a<(xs.length:Int))then bif decide (0<=a)then bif decide (a<(xs.length:Int))then(f (xs.getD a.toNat d)).bind λy1=>bif decide (ys.length+[y1].length<68719476736)then l n (ys++[y1]) (IntKind.i64.wrap (a+(1:Int)))else none else none else none else some ys)):l KK [] (0:Int)=some xs:=by
 have hh:∀i n,i<=xs.length->xs.length-i<n->l n (xs.take i) (i:Int)=some xs:=by
  refine idx_ind ?_ ?_
  ·intro n
   rw[u]
   simp only[lt_f (Nat.le_refl _),cond_f,List.take_length]
  ·intro i n hi ih
   rw[u]
   have hg:(xs.take i).length+[xs[i]].length<68719476736:=by rw[List.length_take];show _+1<_;omega
   simp only[lt_t hi,ge_t,cond_t,Int.toNat_natCast,at_n hi,hf i hi,bind_s,w64_succ (i:=i) (by omega),List.take_append_getElem hi]
   rw[decide_eq_true hg,cond_t]
   exact ih
 have:=hh 0 KK (Nat.zero_le _) (KK_gt (by omega))
 rw[List.take_zero]at this
 exact this
def Uo (xs:List Z4):Z4:=xs.getD (IntKind.i64.wrap ((xs.length:Int)-(1:Int))).toNat Xo
def Ql (xs:List Z4):ZQ:=bif XY xs then UH (Z9 (Uo xs)) true else Qk
theorem wl {n:Nat}(h:1<=n/\n<=12):IntKind.i64.wrap ((n:Int)-(1:Int))=(n:Int)-1:=wd (by omega)
theorem Z1R (xs:List Z4)(hx:YG xs<=1050000):ZP (Z9 (Uo xs))<=1050000:=Z7w xs _ _ hx
theorem Z0q (xs:List Z4)(hx:YG xs<=1050000):Xs xs=some (Ql xs):=by
 unfold Xs Ql
 refine Z8 (Z8G xs hx) ?_
 cases hc:XY xs with
 |false=>rfl
 |true=>
  have hl:=Z2q xs hc
  exact cF rfl (cT (decide_eq_true (by rw[wl hl];omega)) (cT (decide_eq_true (by rw[wl hl];omega)) (Z8 (Z1L _ (Z1R xs hx)) rfl)))
theorem Z53 (xs:List Z4)(hc:XY xs=true):U4 xs=some (Z9 (Uo xs)):=by
 have hl:=Z2q xs hc
 unfold U4
 exact cT (decide_eq_true (by rw[wl hl];omega)) (cT (decide_eq_true (by rw[wl hl];omega)) rfl)
theorem Z77 (xs:List Z4)(hx:YG xs<=1050000):UP xs=some (Ql xs):=by
 unfold UP Ql
 refine Z8 (Z4C xs hx) ?_
 cases hc:XY xs with
 |false=>rfl
 |true=>exact Z8 (Z53 xs hc) (Z8 (Z4d _ (Z1R xs hx)) rfl)
theorem Z1c (xs:List Z4)(hx:YG xs<=1050000):Yh xs=some xs:=
 Z2V xs Xo Xt (by unfold YG X2 at hx;omega) (λi h=>Z4R _ (Z0W h hx)) (λn ys a=>Yh.l6 xs n a ys) (λn ys a=>Yh.u6 xs n a ys)
theorem Z6l (xs:List Z4)(hx:YG xs<=1050000):YU xs=some xs:=
 Z2V xs Xo XC (by unfold YG X2 at hx;omega) (λi h=>Z6m _ (Z0W h hx)) (λn ys a=>YU.l6 xs n (xs.length:Int) a ys) (λn ys a=>YU.u6 xs n (xs.length:Int) a ys)
def Z1z (xs:List Z4)(s:Z4)(v:Bool):List Z4×Int:=bif v then(xs,2)else bif Qv (Z9 (Uo xs)) s !=(1:Int)then(xs,Qv (Z9 (Uo xs)) s)else(xs++[s],1)
def ext (xs:List Z4)(s:Z4):List Z4×Int:=Z1z xs s (!XY xs||decide ((xs.length:Int)>=(12:Int)))
theorem QZ (xs:List Z4):Qq (Ql xs)=XY xs/\(XY xs=true->Z6 (Ql xs)=Z9 (Uo xs)):=Z3U (XY xs) (Z9 (Uo xs))
theorem Z66 (xs:List Z4)(s:Z4)(hx:YG xs<=1050000):decide (xs.length+[s].length<68719476736)=true:=by
 refine decide_eq_true ?_
 show xs.length+1<_
 unfold YG X2 at hx
 omega
theorem Z8B (xs:List Z4)(s:Z4)(hx:YG xs<=1050000)(hs:Xj s<=1050000)(hc:XY xs=true)(v:Bool):Yr.l7 xs s (Ql xs) v=some (Z1z xs s v):=by
 unfold Z1z
 cases v with
 |true=>exact Z8 (Z1c xs hx) rfl
 |false=>
  show((Zo (Z6 (Ql xs)) s).bind _)=_
  rw[(QZ xs).2 hc]
  refine Z8 (Z5r _ s (Z1R xs hx) hs) ?_
  cases Qv (Z9 (Uo xs)) s !=(1:Int)with
  |true=>exact Z8 (Z1c xs hx) rfl
  |false=>exact Z8 (Z1c xs hx) (Z8 (Z4R s hs) (cT (Z66 xs s hx) rfl))
theorem Z5k (xs:List Z4)(s:Z4)(hx:YG xs<=1050000)(hs:Xj s<=1050000):Yr xs s=some (ext xs s):=by
 unfold ext
 refine Z8 (Z0q xs hx) ?_
 rw[(QZ xs).1]
 cases hc:XY xs with
 |false=>exact Z8 (Z1c xs hx) rfl
 |true=>exact Z8B xs s hx hs hc _
def hq (s t:Z4):Bool:=Z14 (Z9 s) (Z9 t)
theorem Z2d :∀a b:List UInt8,Lib.compareBytes a b=bif Op.bytesLess a b then(-1:Int)else bif a==b then 0 else 1
 |[],[]=>rfl
 |[],_::_=>rfl
 |_::_,[]=>rfl
 |a::x,b::y=>by
  have ih:=Z2d x y
  unfold Lib.compareBytes Op.bytesLess
  by_cases h:a<b
  ·rw[if_pos h,decide_eq_true h,Bool.true_or];rfl
  ·rw[if_neg h,decide_eq_false h,Bool.false_or]
   by_cases g:b<a
   ·rw[if_pos g]
    have ne:(a==b)=false:=by rw[beq_eq_false_iff_ne];rintro rfl;exact h g
    have ne2:(a::x==b::y)=false:=by rw[List.cons_beq_cons,ne,Bool.false_and]
    rw[ne,ne2,Bool.false_and];rfl
   ·have e:a=b:=UInt8.le_antisymm (UInt8.not_lt.1 g) (UInt8.not_lt.1 h)
    subst e
    rw[if_neg g,ih,beq_self_eq_true,Bool.true_and,List.cons_beq_cons,beq_self_eq_true,Bool.true_and]
theorem Z48 :∀a b:List UInt8,Lib.compareBytes b a= -Lib.compareBytes a b
 |[],[]=>rfl
 |[],_::_=>rfl
 |_::_,[]=>rfl
 |a::x,b::y=>by
  have ih:=Z48 x y
  unfold Lib.compareBytes
  by_cases h:a<b
  ·have g:¬b<a:=λg=>UInt8.lt_irrefl _ (UInt8.lt_trans h g)
   rw[if_pos h,if_neg g,if_pos h];rfl
  ·by_cases g:b<a
   ·rw[if_pos g,if_neg h,if_pos g]
   ·rw[if_neg h,if_neg g,if_neg g,if_neg h,ih]
theorem Z6j (a b:List UInt8):Lib.compareBytes a b= -1∨Lib.compareBytes a b=0∨Lib.compareBytes a b=1:=by
 rw[Z2d]
 cases Op.bytesLess a b<;>cases a==b<;>simp
def X5 (a b:ByteArray):Int:=Lib.compareBytes a.data.toList b.data.toList
theorem Z46 (a b:ByteArray):X5 b a= -X5 a b:=Z48 _ _
theorem Z13 (a b:ByteArray):X5 a b= -1∨X5 a b=0∨X5 a b=1:=Z6j _ _
theorem Z6f (a b:ByteArray):decide (X5 b a<=0)=(X5 a b != -1):=by
 rw[Z46 a b]
 rcases Z13 a b with h|h|h<;>rw[h]<;>rfl
def QV (p:Nat->Bool)(n:Nat):Bool:=decide (∀i,i<n->p i=true)
theorem Z0A (p:Nat->Bool)(n:Nat):QV p n=true↔∀i,i<n->p i=true:=by unfold QV;exact decide_eq_true_iff
theorem Z1t {len:Nat}(hl:len<=1152921504606846976)(p:Nat->Bool)(z:Bool)(l:Nat->Int->Option Bool)(u0:∀n,l (n+1) (len:Int)=some z)(u:∀n i,i<len->l (n+1) (i:Int)=bif p i then l n ((i+1:Nat):Int)else some false):l KK (0:Int)=some (QV p len&&z):=by
 have hh:∀i n,i<=len->len-i<n->l n (i:Int)=some (decide (∀j,j<len->i<=j->p j=true)&&z):=by
  refine idx_ind ?_ ?_
  ·intro n
   have e:decide (∀j,j<len->len<=j->p j=true)=true:=decide_eq_true (λj h1 h2=>absurd h1 (by omega))
   rw[u0,e,Bool.true_and]
  ·intro i n hi ih
   rw[u n i hi,ih]
   cases hp:p i with
   |false=>
    have e:decide (∀j,j<len->i<=j->p j=true)=false:=decide_eq_false (λh=>by have:=h i hi (Nat.le_refl _);rw[hp]at this;cases this)
    rw[cond_f,e,Bool.false_and]
   |true=>
    rw[cond_t]
    have e:decide (∀j,j<len->i<=j->p j=true)=decide (∀j,j<len->i+1<=j->p j=true):=by
     refine decide_eq_decide.2 ⟨λh j h1 h2=>h j h1 (by omega),λh j h1 h2=> ?_⟩
     by_cases e:j=i
     ·subst e;exact hp
     ·exact h j h1 (by omega)
    rw[e]
 have:=hh 0 KK (Nat.zero_le _) (KK_gt (by omega))
 have e:decide (∀j,j<len->0<=j->p j=true)=QV p len:=decide_eq_decide.2 ⟨λh j h1=>h j h1 (Nat.zero_le _),λh j h1 _=>h j h1⟩
 rw[e]at this
 exact this
def lcS (c:Int):Bool:=(!(decide (c<97)||decide (c>122)))||(!(decide (c<48)||decide (c>57)))
def We (s:ByteArray)(i:Nat):Int:=V.bt s (i:Int)
theorem Z8I (s:ByteArray)(hs:s.size<=1050000):Zy.l7 s=some (QV (λi=>lcS (We s i)|| !(We s i !=(45:Int))) s.size&&true):=by
 refine Z1t (by omega) _ _ (Zy.l8 s) (λn=> ?_) (λn i hi=> ?_)
 ·rw[Zy.u8]
  simp only[Zy.g8,lt_f (Nat.le_refl _),cond_f]
 ·rw[Zy.u8]
  simp only[Zy.g8,lt_t hi,ge_t,cond_t,w64_succ (i:=i) (by omega)]
  rw[show V.bt s (i:Int)=We s i from rfl]
  generalize We s i=c
  unfold lcS
  cases decide (c<97)<;>cases decide (c>122)<;>cases decide (c<48)<;>cases decide (c>57)<;>cases(c !=(45:Int))<;>rfl
theorem Z70 (s:ByteArray)(hs:s.size<=1050000):ZZ.l4 s KK (s.size:Int) (0:Int)=some (QV (λi=>lcS (We s i)||((We s i==(45:Int))&&(decide ((i:Int)>0)&&decide ((i:Int)<IntKind.i64.wrap ((s.size:Int)-(1:Int)))))) s.size&&(decide ((1:Int)<=(s.size:Int))&&decide ((s.size:Int)<=8))):=by
 refine Z1t (by omega) _ _ (λn v=>ZZ.l4 s n (s.size:Int) v) (λn=> ?_) (λn i hi=> ?_)
 ·rw[ZZ.u4]
  simp only[ZZ.g4,lt_f (Nat.le_refl _),cond_f]
  exact Z8 (QI _ _ _) rfl
 ·rw[ZZ.u4]
  simp only[ZZ.g4,lt_t hi,ge_t,cond_t,w64_succ (i:=i) (by omega)]
  rw[show V.bt s (i:Int)=We s i from rfl]
  generalize We s i=c
  unfold lcS
  rw[show decide (c>=97)= !decide (c<97) by by_cases h:c<97<;>simp[h]<;>omega,show decide (c<=122)= !decide (c>122) by by_cases h:c>122<;>simp[h]<;>omega,show decide (c>=48)= !decide (c<48) by by_cases h:c<48<;>simp[h]<;>omega,show decide (c<=57)= !decide (c>57) by by_cases h:c>57<;>simp[h]<;>omega]
  generalize decide ((i:Int)<IntKind.i64.wrap ((s.size:Int)-(1:Int)))=g
  cases decide (c<97)<;>cases decide (c>122)<;>cases decide (c<48)<;>cases decide (c>57)<;>cases(c==(45:Int))<;>cases decide ((i:Int)>0)<;>cases g<;>rfl
def Xy (s:ByteArray):Bool:=(decide (1<=s.size)&&decide (s.size<=8))&&(QV (λi=>lcS (We s i)||((We s i==(45:Int))&&(decide (0<i)&&decide (i+1<s.size)))) s.size)
theorem Z4M (s:ByteArray)(h:Xy s=true):1<=s.size/\s.size<=8:=by
 unfold Xy at h
 simp only[Bool.and_eq_true,decide_eq_true_eq]at h
 exact h.1
theorem Z1H (s:ByteArray)(hs:s.size<=1050000):ZZ s=some (Xy s):=by
 refine(Z70 s hs).trans (congrArg some (Z1v ?_))
 unfold Xy
 simp only[Bool.and_eq_true,decide_eq_true_eq,Z0A,Bool.or_eq_true]
 constructor
 ·intro h
  have hw:IntKind.i64.wrap ((s.size:Int)-(1:Int))=(s.size:Int)-1:=wd (by omega)
  refine⟨by omega,λi hi=>(h.1 i hi).imp_right λg=>⟨g.1,by omega,?_⟩⟩
  have:=g.2.2;rw[hw]at this;omega
 ·intro h
  have hw:IntKind.i64.wrap ((s.size:Int)-(1:Int))=(s.size:Int)-1:=wd (by omega)
  refine⟨λi hi=>(h.2 i hi).imp_right λg=>⟨g.1,by omega,?_⟩,by omega⟩
  rw[hw];omega
theorem Z54 :lcS 45=false:=by decide
theorem Z1i (s:ByteArray)(hs:s.size<=1050000):Zy s=some (Xy s):=by
 unfold Zy
 rw[Z8I s hs]
 refine Z8 (QP _ _ _) ?_
 by_cases hl:1<=s.size/\s.size<=8
 ·have hw:IntKind.i64.wrap ((s.size:Int)-(1:Int))=((s.size-1:Nat):Int):=by rw[wd (by omega)];omega
  refine cF (by rw[decide_eq_true (by omega),decide_eq_true (by omega)];rfl) (cT rfl (cT (decide_eq_true (by omega)) ?_))
  rw[hw]
  rw[show V.bt s (0:Int)=We s 0 from rfl,show V.bt s ((s.size-1:Nat):Int)=We s (s.size-1)from rfl]
  have key:(bif We s 0==(45:Int)then false else bif We s (s.size-1)==(45:Int)then false else(QV (λi=>lcS (We s i)|| !(We s i !=(45:Int))) s.size&&true))=Xy s:=by
   unfold Xy
   rw[decide_eq_true hl.1,decide_eq_true hl.2,Bool.and_self,Bool.true_and,Bool.and_true]
   refine Z1v ?_
   rw[Z0A]
   constructor
   ·intro h i hi
    cases h0:(We s 0==(45:Int))with
    |true=>rw[h0]at h;cases h
    |false=>
     rw[h0,cond_f]at h
     cases h1:(We s (s.size-1)==(45:Int))with
     |true=>rw[h1]at h;cases h
     |false=>
      rw[h1,cond_f,Z0A]at h
      have:=h i hi
      simp only[Bool.or_eq_true,Bool.and_eq_true,decide_eq_true_eq,Bool.not_eq_true',bne_eq_false_iff_eq]at this⊢
      refine this.imp_right λg=>⟨by rw[g];rfl,?_,?_⟩
      ·refine Nat.pos_of_ne_zero λe=> ?_
       subst e
       rw[g]at h0;cases h0
      ·refine Nat.lt_of_not_le λe=> ?_
       have e2:i=s.size-1:=by omega
       subst e2
       rw[g]at h1;cases h1
   ·intro h
    have h0:(We s 0==(45:Int))=false:=by
     cases hc:(We s 0==(45:Int))with
     |false=>rfl
     |true=>
      have e:We s 0=45:=eq_of_beq hc
      have:=h 0 (by omega)
      rw[e,Z54]at this
      simp at this
    have h1:(We s (s.size-1)==(45:Int))=false:=by
     cases hc:(We s (s.size-1)==(45:Int))with
     |false=>rfl
     |true=>
      have e:We s (s.size-1)=45:=eq_of_beq hc
      have:=h (s.size-1) (by omega)
      rw[e,Z54]at this
      simp only[Bool.false_or,Bool.and_eq_true,decide_eq_true_eq]at this
      omega
    rw[h0,h1,cond_f,cond_f,Z0A]
    intro i hi
    have:=h i hi
    simp only[Bool.or_eq_true,Bool.and_eq_true]at this
    rw[Bool.or_eq_true]
    refine this.imp_right λg=> ?_
    have e:We s i=45:=eq_of_beq g.1
    rw[e];rfl
  rw[←key]
  cases(We s 0==(45:Int))with
  |true=>rfl
  |false=>
   refine cF rfl (cT ge_t (cT (lt_t (by omega)) ?_))
   cases(We s (s.size-1)==(45:Int))<;>rfl
 ·have e:Xy s=false:=by
   unfold Xy
   have:(decide (1<=s.size)&&decide (s.size<=8))=false:=by
    rw[←Bool.decide_and]
    exact decide_eq_false hl
   rw[this,Bool.false_and]
  rw[e]
  refine cT ?_ rfl
  by_cases h1:1<=s.size
  ·rw[decide_eq_true (show(1:Int)<=(s.size:Int) by omega),decide_eq_false (show¬(s.size:Int)<=8 by omega)];rfl
  ·rw[decide_eq_false (show¬(1:Int)<=(s.size:Int) by omega)];rfl
theorem Z2h (e:Z0){n:Nat}(hx:ZD e<=n):e.1.size<=n:=by
 unfold ZD Wh at hx;omega
theorem Z2X (e:Z0){n:Nat}(hx:ZD e<=n):Xp e.2.2.2<=n:=by
 unfold ZD at hx;omega
theorem Z3K {xs:List ByteArray}{i:Nat}(h:i<xs.length){n:Nat}(hx:Xp xs<=n):xs[i].size<=n:=by
 have:=Z21 Wh h
 unfold Xp X2 at hx
 unfold Wh at this hx
 omega
theorem Z61 {α:Type}(xs:List α)(p:α->Bool):(!(xs.any λx=> !p x))=xs.all p:=by
 induction xs with
 |nil=>rfl
 |cons x t ih=>rw[List.any_cons,List.all_cons,Bool.not_or,ih,Bool.not_not]
def Z0M (p:List ByteArray):Bool:=(decide ((1:Int)<=(p.length:Int))&&decide ((p.length:Int)<=4))&&p.all Xy
theorem Z60 {α:Type}(xs:List α)(p:α->Bool)(q:Nat->Bool)(h:∀i (hi:i<xs.length),q i=p xs[i]):QV q xs.length=xs.all p:=by
 refine Z1v ?_
 rw[Z0A,List.all_eq_true]
 constructor
 ·intro g x hx
  obtain⟨i,hi,rfl⟩:=List.getElem_of_mem hx
  rw[←h i hi]
  exact g i hi
 ·intro g i hi
  rw[h i hi]
  exact g _ (List.getElem_mem _)
theorem Z8J (p:List ByteArray)(hp:Xp p<=1050000):YH p=some (Z0M p):=by
 have hl:p.length<=1050000:=by unfold Xp X2 at hp;omega
 refine(Z1t (len:=p.length) (by omega) (λi=>Xy (p.getD i (⟨#[]⟩:ByteArray))) (decide ((1:Int)<=(p.length:Int))&&decide ((p.length:Int)<=4)) (YH.l4 p) (λn=> ?_) (λn i hi=> ?_)).trans ?_
 ·rw[YH.u4]
  simp only[YH.g4,lt_f (Nat.le_refl _),cond_f]
  exact Z8 (QP _ _ _) rfl
 ·rw[YH.u4]
  simp only[YH.g4,lt_t hi,ge_t,cond_t,w64_succ (i:=i) (by omega),Int.toNat_natCast,at_n hi]
  rw[Z1i _ (Z3K hi hp),bind_s]
  cases Xy p[i]<;>rfl
 ·unfold Z0M
  rw[Z60 p Xy _ (λi hi=>by rw[at_n hi]),Bool.and_comm]
theorem Z64 (p:List ByteArray)(hp:Xp p<=1050000):UZ p ((),())=some (p.any λs=> !Xy s):=by
 unfold UZ
 refine Z6k p _ ?_
 exact Z4J p (⟨#[]⟩:ByteArray) (λs=>Qg s) (λs=> !Xy s) (by unfold Xp X2 at hp;omega) (λi h=>Z8 (Z1H _ (Z3K h hp)) rfl) (X4.l4 p) (λn L a=>X4.u4 p n L a)
theorem Z71 (p:List ByteArray)(hp:Xp p<=1050000):UK p=some (Z0M p):=by
 unfold UK Z0M
 refine Z8 (QI _ _ _) ?_
 cases(decide ((1:Int)<=(p.length:Int))&&decide ((p.length:Int)<=4))with
 |false=>rfl
 |true=>exact cT rfl (Z8 (Z64 p hp) (by rw[Z61,Bool.true_and]))
def Yx (a b c:Int):Bool:=decide (b<=a)&&decide (a<=c)
def Qi (e:Z0):Bool:=Xy e.1&&(bif e.2.1==(1:Int)then Yx e.2.2.1 0 999999&&((e.2.2.2.length:Int)==(0:Int))else bif e.2.1==(2:Int)then Yx e.2.2.1 0 2147483646&&((e.2.2.2.length:Int)==(0:Int))else bif e.2.1==(3:Int)then Yx e.2.2.1 0 2147483646&&Z0M e.2.2.2 else false)
theorem Z5n (e:Z0)(hx:ZD e<=1050000):U8 e=some (Qi e):=by
 have h1:=Z1i e.1 (Z2h e hx)
 have h2:=Z8J e.2.2.2 (Z2X e hx)
 unfold U8 Qi
 cases e.2.1==(1:Int)with
 |true=>
  refine cT rfl (Z8 h1 ?_)
  cases Xy e.1 with
  |false=>rfl
  |true=>
   refine cT rfl (Z8 (QP _ _ _) ?_)
   show _=some (true&&(Yx e.2.2.1 0 999999&&_))
   unfold Yx
   cases(decide (0<=e.2.2.1)&&decide (e.2.2.1<=999999))<;>rfl
 |false=>
  refine cF rfl ?_
  cases e.2.1==(2:Int)with
  |true=>
   refine cT rfl (Z8 h1 ?_)
   cases Xy e.1 with
   |false=>rfl
   |true=>
    refine cT rfl (Z8 (QP _ _ _) ?_)
    show _=some (true&&(Yx e.2.2.1 0 2147483646&&_))
    unfold Yx
    cases(decide (0<=e.2.2.1)&&decide (e.2.2.1<=2147483646))<;>rfl
  |false=>
   refine cF rfl ?_
   cases e.2.1==(3:Int)with
   |true=>
    refine cT rfl (Z8 h1 ?_)
    cases Xy e.1 with
    |false=>rfl
    |true=>
     refine cT rfl (Z8 (QP _ _ _) ?_)
     show _=some (true&&(Yx e.2.2.1 0 2147483646&&_))
     unfold Yx
     cases(decide (0<=e.2.2.1)&&decide (e.2.2.1<=2147483646))with
     |false=>rfl
     |true=>exact cT rfl (Z8 h2 (by rw[Bool.true_and,Bool.true_and]))
   |false=>exact cF rfl (by rw[cond_f,cond_f,cond_f,Bool.and_false])
theorem Z4K (a:Int):Wz a=some (Yx a 0 2147483646):=Z8 (QI _ _ _) rfl
theorem Z4D (e:Z0)(hx:ZD e<=1050000):U2 e=some (Qi e):=by
 have h1:=Z1H e.1 (Z2h e hx)
 have h2:=Z71 e.2.2.2 (Z2X e hx)
 unfold U2 Qi
 refine Z8 h1 ?_
 cases Xy e.1 with
 |false=>rfl
 |true=>
  refine cF rfl ?_
  rw[Bool.true_and]
  cases e.2.1==(1:Int)with
  |true=>
   refine cT rfl (Z8 (QI _ _ _) ?_)
   show _=some (Yx e.2.2.1 0 999999&&_)
   unfold Yx
   cases(decide (0<=e.2.2.1)&&decide (e.2.2.1<=999999))<;>rfl
  |false=>
   refine cF rfl ?_
   cases e.2.1==(2:Int)with
   |true=>
    refine cT rfl (Z8 (Z4K _) ?_)
    show _=some (Yx e.2.2.1 0 2147483646&&_)
    cases Yx e.2.2.1 0 2147483646<;>rfl
   |false=>
    refine cF rfl ?_
    cases e.2.1==(3:Int)with
    |true=>
     refine cT rfl (Z8 (Z4K _) ?_)
     show _=some (Yx e.2.2.1 0 2147483646&&_)
     cases Yx e.2.2.1 0 2147483646 with
     |false=>rfl
     |true=>exact cT rfl (Z8 h2 (by rw[Bool.true_and]))
    |false=>rfl
theorem Z1V (a b:ByteArray):Wc a b=some (X5 a b):=by
 unfold Wc X5
 rw[Z2d,ByteArray.toList_eq,ByteArray.toList_eq]
 cases Op.bytesLess a.data.toList b.data.toList with
 |true=>rfl
 |false=>cases a.data.toList==b.data.toList<;>rfl
theorem Z1E (a b:ByteArray):Wq a b=some (X5 a b):=rfl
def W1 (xs:List Z0):Bool:=QV (λi=>Qi (xs.getD i Zt)&&(decide (i=0)||X5 (xs.getD (i-1) Zt).1 (xs.getD i Zt).1== -1)) xs.length&&decide ((xs.length:Int)<=(12:Int))
theorem Z12 (xs:List Z0)(h:W1 xs=true):xs.length<=12:=by
 unfold W1 at h
 rw[Bool.and_eq_true]at h
 have:=of_decide_eq_true h.2
 omega
theorem Z1g (xs:List Z0)(hx:Zv xs<=1050000):Y3 xs=some (W1 xs):=by
 have hl:xs.length<=1050000:=by unfold Zv X2 at hx;omega
 refine Z1t (len:=xs.length) (by omega) _ _ (Y3.l4 xs) (λn=> ?_) (λn i hi=> ?_)
 ·rw[Y3.u4]
  simp only[Y3.g4,lt_f (Nat.le_refl _),cond_f]
 ·rw[Y3.u4]
  simp only[Y3.g4,lt_t hi,ge_t,cond_t,w64_succ (i:=i) (by omega),Int.toNat_natCast,at_n hi]
  rw[Z5n _ (Z0E hi hx),bind_s]
  cases Qi xs[i]with
  |false=>rfl
  |true=>
   by_cases h0:i=0
   ·subst h0;rfl
   ·have ew:IntKind.i64.wrap ((i:Int)-1)=((i-1:Nat):Int):=by rw[w64 (by omega) (by omega)];omega
    rw[decide_eq_true (show(i:Int)>0 by omega),decide_eq_false h0,ew]
    refine cF rfl (cT rfl (cT ge_t (cT (lt_t (by omega)) (Z8 (Z1V _ _) ?_))))
    rw[Int.toNat_natCast,Bool.true_and,Bool.false_or]
    show _=bif(X5 (xs.getD (i-1) Zt).1 xs[i].1== -1)then _ else _
    show(bif !(X5 (xs.getD (i-1) Zt).1 xs[i].1== -1)then _ else _)=_
    cases(X5 (xs.getD (i-1) Zt).1 xs[i].1== -1)<;>rfl
theorem Z4y (xs:List Z0)(hx:Zv xs<=1050000):Yl xs=some (W1 xs):=by
 have hl:xs.length<=1050000:=by unfold Zv X2 at hx;omega
 refine Z1t (len:=xs.length) (by omega) _ _ (λn v=>Yl.l4 xs n (xs.length:Int) v) (λn=> ?_) (λn i hi=> ?_)
 ·rw[Yl.u4]
  simp only[Yl.g4,lt_f (Nat.le_refl _),cond_f]
 ·rw[Yl.u4]
  simp only[Yl.g4,lt_t hi,ge_t,cond_t,w64_succ (i:=i) (by omega),Int.toNat_natCast,at_n hi]
  rw[Z4D _ (Z0E hi hx),bind_s]
  cases Qi xs[i]with
  |false=>rfl
  |true=>
   by_cases h0:i=0
   ·subst h0;rfl
   ·have ew:IntKind.i64.wrap ((i:Int)-1)=((i-1:Nat):Int):=by rw[w64 (by omega) (by omega)];omega
    rw[decide_eq_true (show(i:Int)>0 by omega),decide_eq_false h0,ew]
    refine cF rfl (cT rfl (cT ge_t (cT (lt_t (by omega)) (Z8 (Z1E _ _) ?_))))
    rw[Int.toNat_natCast,Bool.true_and,Bool.false_or,Z6f (xs.getD (i-1) Zt).1 xs[i].1]
    show(bif !(X5 (xs.getD (i-1) Zt).1 xs[i].1== -1)then _ else _)=bif(X5 (xs.getD (i-1) Zt).1 xs[i].1== -1)then _ else _
    cases(X5 (xs.getD (i-1) Zt).1 xs[i].1== -1)<;>rfl
theorem Z2z {α β:Type}(xs:List α)(d:α)(f:α->Option β)(g:α->β)(pre:List β)(hl:xs.length<=1050000)(hp:pre.length<=1050000)(hf:∀i (h:i<xs.length),f xs[i]=some (g xs[i]))(l:Nat->List β->Int->Option (List β))(u:∀n ys a,l (n+1) ys a=(bif decide (a<(xs.length:Int))then bif decide (0<=a)then bif decide (a<(xs.length:Int))then(f (xs.getD a.toNat d)).bind λy1=>bif decide (ys.length+[y1].length<68719476736)then l n (ys++[y1]) (IntKind.i64.wrap (a+(1:Int)))else none else none else none else some ys)):l KK pre (0:Int)=some (pre++xs.map g):=by
 have hh:∀i n,i<=xs.length->xs.length-i<n->l n (pre++(xs.take i).map g) (i:Int)=some (pre++xs.map g):=by
  refine idx_ind ?_ ?_
  ·intro n
   rw[u]
   simp only[lt_f (Nat.le_refl _),cond_f,List.take_length]
  ·intro i n hi ih
   rw[u]
   have hg:(pre++(xs.take i).map g).length+[g xs[i]].length<68719476736:=by rw[List.length_append,List.length_map,List.length_take];show _+1<_;omega
   simp only[lt_t hi,ge_t,cond_t,Int.toNat_natCast,at_n hi,hf i hi,bind_s,w64_succ (i:=i) (by omega)]
   rw[decide_eq_true hg,cond_t]
   have e:pre++(xs.take i).map g++[g xs[i]]=pre++(xs.take (i+1)).map g:=by
    rw[List.append_assoc,←List.take_append_getElem hi,List.map_append];rfl
   rw[e]
   exact ih
 have:=hh 0 KK (Nat.zero_le _) (KK_gt (by omega))
 rw[List.take_zero,List.map_nil,List.append_nil]at this
 exact this
theorem Z6b {α β:Type}(xs:List α)(d:α)(f:α->Option (List β))(g:α->List β)(pre:List β)(B:Nat)(hB:pre.length+(xs.flatMap g).length<=B)(hB2:B<=1073741824)(hl:xs.length<=1050000)(hf:∀i (h:i<xs.length),f xs[i]=some (g xs[i]))(l:Nat->List β->Int->Option (List β))(u:∀n ys a,l (n+1) ys a=(bif decide (a<(xs.length:Int))then bif decide (0<=a)then bif decide (a<(xs.length:Int))then(f (xs.getD a.toNat d)).bind λy1=>bif decide (ys.length+y1.length<68719476736)then l n (ys++y1) (IntKind.i64.wrap (a+(1:Int)))else none else none else none else some ys)):l KK pre (0:Int)=some (pre++xs.flatMap g):=by
 have hh:∀i n,i<=xs.length->xs.length-i<n->l n (pre++(xs.take i).flatMap g) (i:Int)=some (pre++xs.flatMap g):=by
  refine idx_ind ?_ ?_
  ·intro n
   rw[u]
   simp only[lt_f (Nat.le_refl _),cond_f,List.take_length]
  ·intro i n hi ih
   rw[u]
   have e:pre++(xs.take i).flatMap g++g xs[i]=pre++(xs.take (i+1)).flatMap g:=by
    rw[List.append_assoc,←List.take_append_getElem hi,List.flatMap_append,List.flatMap_singleton]
   have hle:(pre++(xs.take (i+1)).flatMap g).length<=B:=by
    have:(xs.flatMap g).length=((xs.take (i+1)).flatMap g).length+((xs.drop (i+1)).flatMap g).length:=by
     rw[←List.length_append,←List.flatMap_append,List.take_append_drop]
    rw[List.length_append];omega
   have hg:(pre++(xs.take i).flatMap g).length+(g xs[i]).length<68719476736:=by
    rw[←List.length_append,e];omega
   simp only[lt_t hi,ge_t,cond_t,Int.toNat_natCast,at_n hi,hf i hi,bind_s,w64_succ (i:=i) (by omega)]
   rw[decide_eq_true hg,cond_t,e]
   exact ih
 have:=hh 0 KK (Nat.zero_le _) (KK_gt (by omega))
 rw[List.take_zero,List.flatMap_nil,List.append_nil]at this
 exact this
theorem Z2R (s:ByteArray):(V.bytesOf s).length=s.size:=by
 unfold V.bytesOf
 rw[List.length_map,Array.length_toList];rfl
def bti (xs:List Int):List Int:=(xs.length:Int)::xs.map IntKind.i64.wrap
theorem Z68 (xs:List Int):(bti xs).length=xs.length+1:=by unfold bti;rw[List.length_cons,List.length_map]
theorem Z8s (xs:List Int)(hx:xs.length<=1050000):YX xs=some (bti xs):=
 Z2z xs 0 (λa=>some (IntKind.i64.wrap a)) IntKind.i64.wrap [(xs.length:Int)] hx (by simp) (λi h=>rfl) (λn ys a=>YX.l6 xs n a ys) (λn ys a=>YX.u6 xs n a ys)
theorem Z6L (xs:List Int)(hx:xs.length<=1050000):YR xs=some (bti xs):=
 Z2z xs 0 (λa=>some (IntKind.i64.wrap a)) IntKind.i64.wrap [(xs.length:Int)] hx (by simp) (λi h=>rfl) (λn ys a=>YR.l6 xs n (xs.length:Int) a ys) (λn ys a=>YR.u6 xs n (xs.length:Int) a ys)
theorem Z5z {s:ByteArray}(hs:s.size<=1050000):V.smallS s=true:=by
 rw[V.smallS_eq]
 exact decide_eq_true (by show(s.size:Int)<68719476736;omega)
def QR (s:ByteArray):List Int:=bti (V.bytesOf s)
theorem Z2y (s:ByteArray):(QR s).length=s.size+1:=by unfold QR;rw[Z68,Z2R]
theorem Z8N (s:ByteArray)(hs:s.size<=1050000):Ut s=some (QR s):=by
 unfold Ut
 exact cT (Z5z hs) (Z8 (Z8s _ (by rw[Z2R];exact hs)) rfl)
theorem Z78 (s:ByteArray)(hs:s.size<=1050000):Uh s=some (QR s):=by
 unfold Uh
 exact cT (Z5z hs) (Z8 (Z6L _ (by rw[Z2R];exact hs)) rfl)
def Z04 (e:Z0):List Int:=(QR e.1++[e.2.1,e.2.2.1,(e.2.2.2.length:Int)])++e.2.2.2.flatMap QR
theorem Z4q (p:List ByteArray):(p.flatMap QR).length=Xp p:=by
 unfold Xp X2
 induction p with
 |nil=>rfl
 |cons x t ih=>
  rw[List.flatMap_cons,List.length_append,ih,Z2y,List.length_cons,List.map_cons,List.sum_cons]
  unfold Wh
  omega
theorem Z4g (e:Z0):(Z04 e).length=ZD e+4:=by
 unfold Z04 ZD Wh
 rw[List.length_append,List.length_append,Z2y,Z4q]
 show e.1.size+1+3+_=_
 omega
theorem eL (e:Z0)(hx:ZD e<=1050000)(f:ByteArray->Option (List Int))(hf:∀s,s.size<=1050000->f s=some (QR s))(l:Nat->List Int->Int->Option (List Int))(u:∀n ys a,l (n+1) ys a=(bif decide (a<(e.2.2.2.length:Int))then bif decide (0<=a)then bif decide (a<(e.2.2.2.length:Int))then(f (e.2.2.2.getD a.toNat (⟨#[]⟩:ByteArray))).bind λy1=>bif decide (ys.length+y1.length<68719476736)then l n (ys++y1) (IntKind.i64.wrap (a+(1:Int)))else none else none else none else some ys)):((f e.1).bind λy1=>bif decide (y1.length+[e.2.1,e.2.2.1,(e.2.2.2.length:Int)].length<68719476736)then l KK (y1++[e.2.1,e.2.2.1,(e.2.2.2.length:Int)]) (0:Int)else none)=some (Z04 e):=by
 have h1:=Z2h e hx
 have h2:=Z2X e hx
 refine Z8 (hf _ h1) (cT (decide_eq_true (by rw[Z2y];show _+3<_;omega)) ?_)
 exact Z6b e.2.2.2 (⟨#[]⟩:ByteArray) f QR _ 2200000 (by rw[List.length_append,Z2y,Z4q];show _+3+_<=_;omega) (by omega) (by unfold Xp X2 at h2;omega) (λi h=>hf _ (Z3K h h2)) l u
theorem Z8z (e:Z0)(hx:ZD e<=1050000):YY e=some (Z04 e):=
 eL e hx Ut Z8N (λn ys a=>YY.l6 e n a ys) (λn ys a=>YY.u6 e n a ys)
theorem Z6P (e:Z0)(hx:ZD e<=1050000):YS e=some (Z04 e):=
 eL e hx Uh Z78 (λn ys a=>YS.l6 e n (e.2.2.2.length:Int) a ys) (λn ys a=>YS.u6 e n (e.2.2.2.length:Int) a ys)
def hs (xs:List Int):Int:=xs.foldl WF 11
def WC (e:Z0):Int:=hs (227::Z04 e)
theorem Z5p (e:Z0)(hx:ZD e<=1050000):WS e=some (WC e):=by
 unfold WS
 have hl:=Z4g e
 exact Z8 (Z8z e hx) (cT (decide_eq_true (by show 1+_<_;omega)) (Z8 (Z0V _ (show([(227:Int)]++Z04 e).length<=_ by rw[List.length_append];show 1+_<=_;omega)) rfl))
theorem Z4E (e:Z0)(hx:ZD e<=1050000):WL e=some (WC e):=by
 unfold WL
 have hl:=Z4g e
 exact Z8 (Z6P e hx) (cT (decide_eq_true (by show 1+_<_;omega)) (Z8 (Z1G _ (show([(227:Int)]++Z04 e).length<=_ by rw[List.length_append];show 1+_<=_;omega)) rfl))
def leaves (xs:List Z0):List Int:=xs.map WC
theorem Z1d (xs:List Z0):(leaves xs).length=xs.length:=List.length_map ..
theorem Z5q (xs:List Z0)(hx:Zv xs<=1050000):YI xs=some (leaves xs):=
 Z2z xs Zt WS WC [] (by unfold Zv X2 at hx;omega) (by simp) (λi h=>Z5p _ (Z0E h hx)) (λn ys a=>YI.l6 xs n a ys) (λn ys a=>YI.u6 xs n a ys)
theorem Z4F (xs:List Z0)(hx:Zv xs<=1050000):YE xs=some (leaves xs):=
 Z2z xs Zt WL WC [] (by unfold Zv X2 at hx;omega) (by simp) (λi h=>Z4E _ (Z0E h hx)) (λn ys a=>YE.l6 xs n (xs.length:Int) a ys) (λn ys a=>YE.u6 xs n (xs.length:Int) a ys)
def U5 (a b:Int):Int:=hs [229,a,b]
theorem Z3E (a b:Int):WT a b=some (U5 a b):=Z8 (Z0V _ (by show 3<=_;omega)) rfl
theorem Z3e (xs:List Int)(hx:xs.length<=1050000):WH xs=some (hs xs):=Z8 (Z1G _ (by omega)) rfl
theorem Z3b (a b:Int):WM a b=some (U5 a b):=Z8 (Z3e _ (by show 3<=_;omega)) rfl
def up :List Int->List Int
 |a::b::t=>U5 a b::up t
 |[a]=>[a]
 |[]=>[]
theorem Z1p :∀xs:List Int,(up xs).length=(xs.length+1)/2
 |[]=>by rw[up];rfl
 |[a]=>by simp[up]
 |a::b::t=>by
  show(up t).length+1=(t.length+1+1+1)/2
  rw[Z1p t];omega
theorem upL (f:Int->Int->Option Int)(hf:∀a b,f a b=some (U5 a b))(xs:List Int)(hx:xs.length<=1050000)(l:Nat->Int->List Int->Option (List Int))(u:∀n a ys,l (n+1) a ys=(bif decide (a<(xs.length:Int))then bif decide ((IntKind.i64.wrap (a+(1:Int)))<(xs.length:Int))then bif decide (0<=a)then bif decide (a<(xs.length:Int))then bif decide (0<=(IntKind.i64.wrap (a+(1:Int))))then bif decide ((IntKind.i64.wrap (a+(1:Int)))<(xs.length:Int))then(f (xs.getD a.toNat (0:Int)) (xs.getD ((IntKind.i64.wrap (a+(1:Int))).toNat) (0:Int))).bind λy1=>bif decide (ys.length+[y1].length<68719476736)then l n (IntKind.i64.wrap (a+(2:Int))) (ys++[y1])else none else none else none else none else none else bif decide (0<=a)then bif decide (a<(xs.length:Int))then bif decide (ys.length+[xs.getD a.toNat (0:Int)].length<68719476736)then l n (IntKind.i64.wrap (a+(2:Int))) (ys++[xs.getD a.toNat (0:Int)])else none else none else none else some ys)):l KK (0:Int) []=some (up xs):=by
 have hh:∀(suf:List Int) (i n:Nat) (ys:List Int),suf=xs.drop i->suf.length<n->ys.length<=i->i<=xs.length+1->l n (i:Int) ys=some (ys++up suf):=by
  intro suf
  induction suf using up.induct with
  |case1 a b t ih=>
   intro i n ys hs hn hy hi0
   have hlen:(xs.drop i).length=t.length+2:=by rw[←hs];rfl
   rw[List.length_drop]at hlen
   have hi:i<xs.length:=by omega
   have hi':i+1<xs.length:=by omega
   have e1:=List.drop_eq_getElem_cons hi
   have e2:=List.drop_eq_getElem_cons hi'
   rw[e1,e2]at hs
   injection hs with ha hs
   injection hs with hb ht
   cases n with
   |zero=>simp at hn
   |succ n=>
    have ew:IntKind.i64.wrap ((i:Int)+2)=((i+2:Nat):Int):=by rw[w64 (by omega) (by omega)];omega
    have hg:ys.length+[U5 xs[i] xs[i+1]].length<68719476736:=by show _+1<_;omega
    rw[u]
    simp only[w64_succ (i:=i) (by omega),lt_t hi,lt_t hi',ge_t,cond_t,Int.toNat_natCast,at_n hi,at_n hi',hf,bind_s,ew]
    rw[decide_eq_true hg,cond_t]
    rw[ih (i+2) n _ ht (by simp at hn;omega) (by rw[List.length_append];show _+1<=_;omega) (by omega)]
    rw[List.append_assoc,ha,hb];rfl
  |case2 a=>
   intro i n ys hs hn hy hi0
   have hlen:(xs.drop i).length=1:=by rw[←hs];rfl
   rw[List.length_drop]at hlen
   have hi:i<xs.length:=by omega
   have e1:=List.drop_eq_getElem_cons hi
   rw[e1]at hs
   injection hs with ha hs
   match n,hn with
   |n+2,_=>
    have ew:IntKind.i64.wrap ((i:Int)+2)=((i+2:Nat):Int):=by rw[w64 (by omega) (by omega)];omega
    have hg:ys.length+[xs[i]].length<68719476736:=by show _+1<_;omega
    rw[u]
    simp only[w64_succ (i:=i) (by omega),lt_t hi,lt_f (show xs.length<=i+1 by omega),ge_t,cond_t,cond_f,Int.toNat_natCast,at_n hi,ew]
    rw[decide_eq_true hg,cond_t,u]
    simp only[lt_f (show xs.length<=i+2 by omega),cond_f]
    rw[ha];rfl
  |case3=>
   intro i n ys hs hn hy hi0
   have hlen:(xs.drop i).length=0:=by rw[←hs];rfl
   rw[List.length_drop]at hlen
   cases n with
   |zero=>simp at hn
   |succ n=>
    rw[u]
    simp only[lt_f (show xs.length<=i by omega),cond_f]
    rw[up,List.append_nil]
 have:=hh xs 0 KK [] (by rw[List.drop_zero]) (KK_gt (by omega)) (Nat.le_refl _) (Nat.zero_le _)
 exact this
theorem Z5w (xs:List Int)(hx:xs.length<=1050000):YA xs=some (up xs):=upL WT Z3E xs hx (YA.l6 xs) (λn a ys=>YA.u6 xs n a ys)
theorem Z3d (xs:List Int)(hx:xs.length<=1050000):Yp xs=some (up xs):=upL WM Z3b xs hx (Yp.l6 xs) (λn a ys=>Yp.u6 xs n a ys)
def Z1o :Nat->List Int->Int
 |0,_=>0
 |n+1,xs=>bif decide ((xs.length:Int)>(1:Int))then Z1o n (up xs)else xs.getD 0 0
def Z0t (xs:List Int):Int:=bif(xs.length:Int)==(0:Int)then hs [229]else Z1o KK xs
theorem Z5D (f:List Int->Option (List Int))(hf:∀xs:List Int,xs.length<=1050000->f xs=some (up xs))(l:Nat->List Int->Option Int)(u:∀n xs,l (n+1) xs=(bif decide ((xs.length:Int)>(1:Int))then(f xs).bind λy2=>l n y2 else bif decide (0<=(0:Int))then bif decide ((0:Int)<(xs.length:Int))then some (xs.getD ((0:Int).toNat) (0:Int))else none else none)):∀(n:Nat) (xs:List Int),0<xs.length->xs.length<n->xs.length<=1050000->l n xs=some (Z1o n xs):=by
 intro n
 induction n with
 |zero=>intro xs h0 h1;omega
 |succ n ih=>
  intro xs h0 h1 h2
  rw[u]
  show _=some (bif decide ((xs.length:Int)>(1:Int))then Z1o n (up xs)else xs.getD 0 0)
  by_cases h:1<xs.length
  ·rw[decide_eq_true (show(xs.length:Int)>1 by omega),cond_t,cond_t,hf xs h2,bind_s]
   have:=Z1p xs
   exact ih _ (by omega) (by omega) (by omega)
  ·rw[decide_eq_false (show¬(xs.length:Int)>1 by omega),cond_f,cond_f]
   exact cT rfl (cT (decide_eq_true (by omega)) rfl)
theorem Z93 (xs:List Int)(hx:xs.length<=1050000):YN xs=some (Z0t xs):=by
 unfold YN Z0t
 cases h:((xs.length:Int)==(0:Int))with
 |true=>exact cT h (Z8 (Z0V _ (by show 1<=_;omega)) rfl)
 |false=>
  have h0:(xs.length:Int)≠0:=by simpa using h
  exact cF h (Z5D YA Z5w YN.l8 (λn xs=>YN.u8 n xs) KK xs (by omega) (KK_gt (by omega)) hx)
theorem Z7k (xs:List Int)(hx:xs.length<=1050000):YL xs=some (Z0t xs):=by
 unfold YL Z0t
 cases h:((xs.length:Int)==(0:Int))with
 |true=>exact cT h (Z8 (Z3e _ (by show 1<=_;omega)) rfl)
 |false=>
  have h0:(xs.length:Int)≠0:=by simpa using h
  exact cF h (Z5D Yp Z3d YL.l6 (λn xs=>YL.u6 n xs) KK xs (by omega) (KK_gt (by omega)) hx)
def Z1f (n t:Int):Int:=hs [231,n,t]
def Ur (xs:List Z0):Int:=Z1f (xs.length:Int) (Z0t (leaves xs))
theorem Z5s (n t:Int):Uu n t=some (Z1f n t):=Z8 (Z0V _ (by show 3<=_;omega)) rfl
theorem Z4G (n t:Int):Um n t=some (Z1f n t):=Z8 (Z3e _ (by show 3<=_;omega)) rfl
theorem Z1Y (xs:List Z0)(hx:Zv xs<=1050000):W9 xs=some (Ur xs):=by
 unfold W9
 have hl:xs.length<=1050000:=by unfold Zv X2 at hx;omega
 exact Z8 (Z5q xs hx) (Z8 (Z93 _ (by rw[Z1d];exact hl)) (Z8 (Z5s _ _) rfl))
theorem Z4H (xs:List Z0)(hx:Zv xs<=1050000):U3 xs=some (Ur xs):=by
 unfold U3
 have hl:xs.length<=1050000:=by unfold Zv X2 at hx;omega
 exact Z8 (Z4F xs hx) (Z8 (Z7k _ (by rw[Z1d];exact hl)) (Z8 (Z4G _ _) rfl))
def setC (h:Z5)(n r:Int):Z5:=Wa (ZH h) (Yk h) (Yd h) (Zr h) (ZE h) n r (Xb h) (Ze h) (Zd h) (ZU h) (Zf h) (Zq h)
theorem setC_size (h:Z5)(n r:Int):ZP (setC h n r)=ZP h:=rfl
def QS (xs:List Z0)(h:Z5):Z5:=setC h (xs.length:Int) (Ur xs)
theorem Z97 (x0:Z5)(xs:List Z0)(h:Z5)(hh:ZP h=ZP x0)(hx:ZP x0<=1050000):ZP (QS xs h)<=1050000:=by
 unfold QS
 rw[setC_size,hh];exact hx
def Z2c (x0:Z5)(xs:List Z0)(x2 x3:Int):ZQ:=bif W1 xs&&(QH x0 x2 x3&&(X8 (Wl x0 1 x2 x3)&&X8 (QS xs (Wl x0 1 x2 x3))))then UH (QS xs (Wl x0 1 x2 x3)) true else Qk
theorem Z8t (x0:Z5)(xs:List Z0)(x2 x3:Int)(hx:ZP x0<=1050000)(he:Zv xs<=1050000):Y7 x0 xs x2 x3=some (Z2c x0 xs x2 x3):=by
 unfold Y7 Z2c
 refine Z8 (Z8R x0 1 x2 x3 hx) ?_
 rw[Z8b]
 cases hg:(QH x0 x2 x3&&X8 (Wl x0 1 x2 x3))with
 |false=>
  have e:(W1 xs&&(QH x0 x2 x3&&(X8 (Wl x0 1 x2 x3)&&X8 (QS xs (Wl x0 1 x2 x3)))))=false:=by
   rw[←Bool.and_assoc (QH x0 x2 x3),hg,Bool.false_and,Bool.and_false]
  rw[e];rfl
 |true=>
  have e:(W1 xs&&(QH x0 x2 x3&&(X8 (Wl x0 1 x2 x3)&&X8 (QS xs (Wl x0 1 x2 x3)))))=(W1 xs&&X8 (QS xs (Wl x0 1 x2 x3))):=by
   rw[←Bool.and_assoc (QH x0 x2 x3),hg,Bool.true_and]
  rw[e]
  refine cF rfl (Z8 (Z1g xs he) ?_)
  cases W1 xs with
  |false=>rfl
  |true=>
   have hs:ZP (QS xs (Wl x0 1 x2 x3))<=1050000:=Z97 x0 xs _ (Z89 ..) hx
   refine Z8 (Z1Y xs he) ?_
   rw[Z8a _ _ _ _ hg,Bool.true_and]
   refine Z8 (Z4T (QS xs (Wl x0 1 x2 x3)) hs) ?_
   unfold Z0X;rfl
theorem QA (z:Zm){n:Nat}(hx:U7 z<=n):YG z.1<=n:=by unfold U7 at hx;omega
theorem Z0Y (z:Zm){n:Nat}(hx:U7 z<=n):Zv z.2<=n:=by unfold U7 at hx;omega
def Z0C (r:Int)(xs:List Z0):Bool:=W1 xs&&(Ur xs==r)
theorem Z8u (r:Int)(xs:List Z0)(hx:Zv xs<=1050000):Q0 r xs=some (Z0C r xs):=by
 unfold Q0 Z0C
 refine Z8 (Z1g xs hx) ?_
 cases W1 xs with
 |false=>rfl
 |true=>exact cT rfl (Z8 (Z1Y xs hx) (by rw[Bool.true_and]))
theorem Z6M (r:Int)(xs:List Z0)(hx:Zv xs<=1050000):UJ r xs=some (Z0C r xs):=by
 unfold UJ Z0C
 refine Z8 (Z4y xs hx) ?_
 cases W1 xs with
 |false=>rfl
 |true=>exact cT rfl (Z8 (Z4H xs hx) (by rw[Bool.true_and]))
def Yg (z:Zm):Z5:=Z9 (Uo z.1)
def W2 (z:Zm):Bool:=XY z.1&&((ZK (Yg z)==(z.2.length:Int))&&Z0C (ZY (Yg z)) z.2)
theorem Z3h (z:Zm)(h:W2 z=true):XY z.1=true:=by unfold W2 at h;rw[Bool.and_eq_true]at h;exact h.1
theorem Z1X (z:Zm)(hx:U7 z<=1050000):Wi z=some (W2 z):=by
 unfold Wi W2
 refine Z8 (Z0q z.1 (QA z hx)) ?_
 rw[(QZ z.1).1]
 cases hc:XY z.1 with
 |false=>rfl
 |true=>
  rw[(QZ z.1).2 hc,cond_t,Bool.true_and]
  show(bif(ZK (Yg z)==(z.2.length:Int))then _ else _)=_
  cases(ZK (Yg z)==(z.2.length:Int))with
  |false=>rfl
  |true=>exact cT rfl (Z8 (Z8u _ z.2 (Z0Y z hx)) (by rw[Bool.true_and];rfl))
theorem Z74 (z:Zm)(hx:U7 z<=1050000):UN z=some (W2 z):=by
 unfold UN W2
 refine Z8 (Z4C z.1 (QA z hx)) ?_
 cases hc:XY z.1 with
 |false=>rfl
 |true=>
  refine cF rfl (Z8 (Z53 z.1 hc) ?_)
  rw[Bool.true_and]
  show(bif(ZK (Yg z)==(z.2.length:Int))then _ else _)=_
  cases(ZK (Yg z)==(z.2.length:Int))with
  |false=>rfl
  |true=>exact cT rfl (Z8 (Z6M _ z.2 (Z0Y z hx)) (by rw[Bool.true_and];rfl))
def Z0e (z:Zm):Int:=bif W2 z then ZH (Yg z)else-1
theorem Z94 (z:Zm)(hx:U7 z<=1050000):Q6 z=some (Z0e z):=by
 unfold Q6 Z0e
 refine Z8 (Z0q z.1 (QA z hx)) (Z8 (Z1X z hx) ?_)
 cases hz:W2 z with
 |false=>rfl
 |true=>
  rw[(QZ z.1).2 (Z3h z hz)]
  rfl
theorem Z2u (xs:List Z0)(hx:Zv xs<=1050000):Yf xs=some xs:=
 Z2V xs Zt W6 (by unfold Zv X2 at hx;omega) (λi h=>Z0N _ (Z0E h hx)) (λn ys a=>Yf.l6 xs n a ys) (λn ys a=>Yf.u6 xs n a ys)
def Z06 (k:Za)(s:Int)(xs:List Z0)(now u:Int):Z5:=Wa (Z1q k s) 0 1 now u (xs.length:Int) (Ur xs) s k Z03 0 Z03 false
theorem Z4n (k:Za)(s:Int)(xs:List Z0)(now u:Int):ZP (Z06 k s xs now u)=k.1.length:=by
 show k.1.length+(([]:List Int).length+([]:List Int).length)=_
 rfl
def Z0l (k:Za)(s:Int)(xs:List Z0)(now term:Int):Bool:=W1 xs&&((XX now 0 100000&&XX term 0 200)&&X8 (Z06 k s xs now (IntKind.i64.wrap (now+term))))
def Z16 (k:Za)(s:Int)(xs:List Z0)(now term:Int):ZQ:=bif Z0l k s xs now term then UH (Z06 k s xs now (IntKind.i64.wrap (now+term))) true else Qk
theorem Z3A (k:Za)(s:Int)(xs:List Z0)(now term:Int)(v:Bool)(hk:k.1.length<=1050000)(hx:Zv xs<=1050000):YM.l5 k s xs now term v=some (bif !v&&X8 (Z06 k s xs now (IntKind.i64.wrap (now+term)))then UH (Z06 k s xs now (IntKind.i64.wrap (now+term))) true else Qk):=by
 cases v with
 |true=>rfl
 |false=>
  refine Z8 (Z5x k s hk) (Z8 (Z1Y xs hx) (Z8 (Z1P k hk) (Z8 (Z1h (Z06 k s xs now (IntKind.i64.wrap (now+term))) (by rw[Z4n];exact hk)) ?_)))
  cases X8 (Z06 k s xs now (IntKind.i64.wrap (now+term)))<;>rfl
theorem Z5l (k:Za)(s:Int)(xs:List Z0)(now term:Int)(hk:k.1.length<=1050000)(hx:Zv xs<=1050000):YM k s xs now term=some (Z16 k s xs now term):=by
 unfold YM Z16 Z0l
 refine Z8 (Z1g xs hx) ?_
 cases W1 xs with
 |false=>exact Z3A k s xs now term true hk hx
 |true=>
  refine cF rfl (Z8 (Z1N _ _ _) ?_)
  cases XX now 0 100000 with
  |false=>exact Z3A k s xs now term true hk hx
  |true=>
   refine cF rfl (Z8 (Z1N _ _ _) ?_)
   rw[Z3A k s xs now term _ hk hx]
   cases XX term 0 200<;>rfl
def Z2A (k:Za)(s:Int)(xs:List Z0)(now term:Int):Z0z:=bif Z0l k s xs now term then Z1s ([Z20 k.1 k (Z06 k s xs now (IntKind.i64.wrap (now+term)))],xs) true else Z2g
theorem Z4p (k:Za)(s:Int)(xs:List Z0)(now term:Int):Qq (Z16 k s xs now term)=Z0l k s xs now term/\(Z0l k s xs now term=true->Z6 (Z16 k s xs now term)=Z06 k s xs now (IntKind.i64.wrap (now+term))):=Z3U _ _
theorem Z8P (k:Za)(s:Int)(xs:List Z0)(now term:Int)(hk:k.1.length<=1050000)(hx:Zv xs<=1050000):Xf k s xs now term=some (Z2A k s xs now term):=by
 unfold Xf Z2A
 refine Z8 (Z5l k s xs now term hk hx) ?_
 rw[(Z4p k s xs now term).1]
 cases hg:Z0l k s xs now term with
 |false=>rfl
 |true=>
  rw[(Z4p k s xs now term).2 hg]
  exact cF rfl (Z8 (Z1Z k.1 k _ hk hk (by rw[Z4n];exact hk)) (Z8 (Z2u xs hx) rfl))
theorem Z1M (a b c:Int):ZW a b c=some (Yx a b c):=QP a b c
theorem Z1r (a b c:Int):Ya a b c=some (Yx a b c):=QI a b c
theorem Z57 (p:Z5)(s:Z4)(h:Z0c p s=true):X8 p=true/\X8 (Z9 s)=true/\ZH (Z9 s)=ZH p/\Yk (Z9 s)=IntKind.i64.wrap ((Yk p)+(1:Int)):=by
 unfold Z0c Qv at h
 cases h1:(X8 p&&X8 (Z9 s))with
 |false=>rw[h1]at h;cases h
 |true=>
  cases h2:Z0L p (Z9 s)with
  |false=>rw[h1,h2]at h;cases h
  |true=>
   rw[Bool.and_eq_true]at h1
   unfold Z0L at h2
   simp only[Bool.and_eq_true]at h2
   exact⟨h1.1,h1.2,eq_of_beq h2.1,eq_of_beq h2.2.1⟩
theorem Z51 (xs:List Z4)(h:XY xs=true):∃hi:xs.length-1<xs.length,Uo xs=xs[xs.length-1]:=by
 have hl:=Z2q xs h
 refine⟨by omega,?_⟩
 unfold Uo
 rw[wl hl,show((xs.length:Int)-1).toNat=xs.length-1 by omega,at_n (by omega)]
theorem Z6B (xs:List Z4):∀(p:Z5) (k:Int),0<=k->fw (some p) xs k<0->∀i (hi:i<xs.length),X8 (Z9 xs[i])=true:=by
 induction xs with
 |nil=>intro p k _ _ i hi;simp at hi
 |cons s t ih=>
  intro p k hk h i hi
  unfold fw at h
  cases hf:Z0c p s with
  |false=>rw[hf]at h;exact absurd h (by show¬k<0;omega)
  |true=>
   rw[hf]at h
   have hm:=Z57 p s hf
   cases i with
   |zero=>exact hm.2.1
   |succ i=>
    have hi2:i<t.length:=by simpa using hi
    exact ih (Z9 s) (k+1) (by omega) h i hi2
theorem Z2S (xs:List Z4)(h:XY xs=true):∀i (hi:i<xs.length),X8 (Z9 xs[i])=true:=by
 unfold XY at h
 rw[Bool.and_eq_true]at h
 have h:=of_decide_eq_true h.2
 cases xs with
 |nil=>intro i hi;simp at hi
 |cons s t=>
  unfold fw at h
  cases hf:Z0b s with
  |false=>rw[hf]at h;exact absurd h (by show¬(0:Int)<0;omega)
  |true=>
   rw[hf]at h
   intro i hi
   cases i with
   |zero=>
    unfold Z0b at hf
    simp only[Bool.and_eq_true]at hf
    exact hf.1
   |succ i=>
    have hi2:i<t.length:=by simpa using hi
    exact Z6B t (Z9 s) _ (by omega) h i hi2
def Z1k (p h:Z5):Za:=bif Yd h==(2:Int)then Zd p else bif Yd h==(3:Int)then Zf p else Ze p
theorem Z9c (p h:Z5):(Z1k p h).1.length<=ZP p:=by
 unfold Z1k ZP UD
 cases(Yd h==(2:Int))<;>cases(Yd h==(3:Int))<;>simp only[cond_t,cond_f]<;>omega
def Qx (p h:Z5)(held:List Int):Z4:=Z20 held (Z1k p h) h
theorem Z5y (p h:Z5)(held:List Int):Xj (Qx p h held)<=ZP h+ZP p:=by
 have h1:=Z9b held (Z1k p h) h
 have h2:=Z9c p h
 unfold Qx
 omega
theorem Z90 (p h:Z5)(held:List Int)(h0:ZP p<=1050000)(h1:ZP h<=1050000)(h2:held.length<=1050000):XR p h held=some (Qx p h held):=by
 have hk:=Z0a p h0
 unfold XR Qx Z1k
 cases(Yd h==(2:Int))with
 |true=>exact cT rfl (Z8 (Z1Z _ _ _ h2 hk.2.1 h1) rfl)
 |false=>
  refine cF rfl ?_
  cases(Yd h==(3:Int))with
  |true=>exact cT rfl (Z8 (Z1Z _ _ _ h2 hk.2.2 h1) rfl)
  |false=>exact cF rfl (Z8 (Z1Z _ _ _ h2 hk.1 h1) rfl)
theorem Z3p (z:Zm)(hx:U7 z<=1050000):Uv z=some z:=by
 unfold Uv
 exact Z8 (Z1c _ (QA z hx)) (Z8 (Z2u _ (Z0Y z hx)) rfl)
def Uq (z:Zm)(held:List Int)(h:Z5):List Z4×Int:=ext z.1 (Qx (Yg z) h held)
def Z2C (z:Zm)(held:List Int)(h:Z5)(xs:List Z0):Z0f:=
 bif W2 z then bif(Uq z held h).2 !=(1:Int)then QJ z (Uq z held h).2 else bif W2 ((Uq z held h).1,xs)then QJ ((Uq z held h).1,xs) 1 else QJ z 2 else QJ z 2
theorem Z81 (p:Z5)(s:Z4)(hs:ZP (Z9 s)<=1050000)(h:Qv p s=1):X8 p=true/\ZP (Z9 s)<=12:=by
 have hm:=Z57 p s (by unfold Z0c;rw[h];rfl)
 exact⟨hm.1,Z3f _ hs hm.2.1⟩
theorem Z9g (xs:List Z4)(s:Z4):YG (xs++[s])=YG xs+1+Xj s:=by
 unfold YG X2
 simp only[List.length_append,List.map_append,List.sum_append,List.map_cons,List.map_nil,List.sum_cons,List.sum_nil,List.length_cons,List.length_nil]
 omega
theorem Z8i (z:Zm)(held:List Int)(h:Z5)(hz:U7 z<=1049500)(hh:ZP h<=1049500):YG (Uq z held h).1<=YG z.1+64:=by
 unfold Uq ext Z1z
 cases(!XY z.1||decide ((z.1.length:Int)>=(12:Int)))with
 |true=>show YG z.1<=_;omega
 |false=>
  cases hn:(Qv (Z9 (Uo z.1)) (Qx (Yg z) h held) !=(1:Int))with
  |true=>rw[cond_f,cond_t];show YG z.1<=_;omega
  |false=>
   rw[cond_f,cond_f]
   show YG (z.1++[Qx (Yg z) h held])<=_
   rw[Z9g]
   have h1:Qv (Z9 (Uo z.1)) (Qx (Yg z) h held)=1:=by simpa using hn
   have e:Z9 (Qx (Yg z) h held)=h:=rfl
   have h2:=Z81 _ _ (by rw[e];omega) h1
   rw[e]at h2
   have h3:=Z3f _ (Z1R z.1 (by have:=QA z hz;omega)) h2.1
   have h4:=Z5y (Yg z) h held
   have h5:ZP (Yg z)<=12:=h3
   omega
theorem Z8j (z:Zm)(held:List Int)(h:Z5)(xs:List Z0)(hz:U7 z+Zv xs<=1049500)(hh:ZP h<=1049500):U7 ((Uq z held h).1,xs)<=1050000:=by
 have h1:=Z8i z held h (by omega) hh
 unfold U7 at hz⊢
 show YG (Uq z held h).1+Zv xs<=_
 omega
theorem Z8k (z:Zm)(held:List Int)(h:Z5)(xs:List Z0)(hs:U7 z+(ZP h+Zv xs)<=1049500)(hl:held.length<=1050000)(hc:W2 z=true):ZP (Yg z)<=1050000/\Xj (Qx (Yg z) h held)<=1050000:=by
 have hz:=QA z (n:=1049500) (by omega)
 have h1:ZP (Yg z)<=1050000:=Z1R z.1 (by omega)
 refine⟨h1,?_⟩
 have hb:X8 (Yg z)=true:=by
  have hch:=Z3h z hc
  obtain⟨hlt,hle⟩:=Z51 z.1 hch
  unfold Yg
  rw[hle]
  exact Z2S z.1 hch _ hlt
 have h3:=Z3f _ h1 hb
 have h4:=Z5y (Yg z) h held
 omega
theorem Z8X (z:Zm)(held:List Int)(h:Z5)(xs:List Z0)(hs:U7 z+(ZP h+Zv xs)<=1049500)(hl:held.length<=1050000):XQ z held h xs=some (Z2C z held h xs):=by
 have hz:U7 z<=1050000:=by omega
 unfold XQ Z2C
 refine Z8 (Z0q z.1 (QA z hz)) (Z8 (Z1X z hz) ?_)
 cases hc:W2 z with
 |false=>exact cT rfl (Z8 (Z3p z hz) rfl)
 |true=>
  obtain⟨p1,p2⟩:=Z8k z held h xs hs hl hc
  rw[(QZ z.1).2 (Z3h z hc),cond_t]
  refine cF rfl (Z8 (Z90 _ h held p1 (by omega) (by omega)) (Z8 (Z5k z.1 _ (QA z hz) p2) ?_))
  show(bif(Uq z held h).2 !=(1:Int)then _ else _)=_
  cases(Uq z held h).2 !=(1:Int)with
  |true=>exact cT rfl (Z8 (Z3p z hz) rfl)
  |false=>
   refine cF rfl (Z8 (Z2u xs (by omega)) (Z8 (Z1X ((Uq z held h).1,xs) (Z8j z held h xs (by omega) (by omega))) ?_))
   cases W2 ((Uq z held h).1,xs)with
   |true=>rfl
   |false=>exact cT rfl (Z8 (Z3p z hz) rfl)
def tf :Nat->Int->Nat->Nat->List Int->Int×Bool
 |0,_,_,_,_=>(0,false)
 |k+1,leaf,i,n,path=>
  bif decide (n<=1)then bif decide (path.length=0)then(leaf,true)else(0,false)
  else bif decide (i%2=0)&&decide (n<=i+1)then tf k leaf (i/2) ((n+1)/2) path
  else match path with
   |[]=>(0,false)
   |p::t=>tf k (bif decide (i%2=0)then U5 leaf p else U5 p leaf) (i/2) ((n+1)/2) t
theorem Z1n (i:Nat)(h:i<=1000):IntKind.i64.wrap (Int.tdiv (i:Int) 2)=((i/2:Nat):Int):=by
 have e:Int.tdiv (i:Int) 2=((i/2:Nat):Int):=rfl
 rw[e,w64 (by omega) (by omega)]
theorem Z23 (i:Nat):Int.tmod (i:Int) 2=((i%2:Nat):Int):=rfl
theorem Z5K :∀i:Nat,i<12->IntKind.i64.wrap ((BitVec.ofInt IntKind.i64.bits (i:Int)^^^BitVec.ofInt IntKind.i64.bits (1:Int)).toNat:Int)=bif decide (i%2=0)then(i:Int)+1 else(i:Int)-1:=by
 intro i hi
 have h:i=0∨i=1∨i=2∨i=3∨i=4∨i=5∨i=6∨i=7∨i=8∨i=9∨i=10∨i=11:=by omega
 rcases h with rfl|rfl|rfl|rfl|rfl|rfl|rfl|rfl|rfl|rfl|rfl|rfl<;>(rw[w64 (by decide) (by decide)];decide)
theorem Z24 :((2:Int)==(0:Int))=false:=rfl
theorem Z7i :∀(m:Nat) (leaf:Int) (i n:Nat) (path:List Int),1<=n->n<m->n<=12->i<n->path.length<=1050000->Zu.l6 m leaf (i:Int) (n:Int) path=some (tf m leaf i n path):=by
 intro m
 induction m with
 |zero=>intro leaf i n path h0 h1;omega
 |succ m ih=>
  intro leaf i n path h0 h1 h2 h3 h4
  have hn:IntKind.i64.wrap ((n:Int)+1)=((n+1:Nat):Int):=w64_succ (by omega)
  rw[Zu.u6]
  unfold tf
  by_cases h:1<n
  ·refine cT (decide_eq_true (by omega)) ?_
   rw[decide_eq_false (show¬n<=1 by omega),cond_f,Z5K i (by omega)]
   have next:∀(l:Int) (p:List Int),p.length<=1050000->Zu.l9 (i:Int) (n:Int) (Zu.l6 m) l p=some (tf m l (i/2) ((n+1)/2) p):=by
    intro l p hp
    show Zu.l6 m l (IntKind.i64.wrap (Int.tdiv (i:Int) (2:Int))) (IntKind.i64.wrap (Int.tdiv (IntKind.i64.wrap ((n:Int)+(1:Int))) (2:Int))) p=_
    rw[Z1n i (by omega),hn,Z1n (n+1) (by omega)]
    exact ih l (i/2) ((n+1)/2) p (by omega) (by omega) (by omega) (by omega) hp
   by_cases he:i%2=0
   ·rw[decide_eq_true he,cond_t,Bool.true_and]
    by_cases hs:n<=i+1
    ·rw[decide_eq_true hs]
     exact cT (decide_eq_true (by omega)) (next leaf path h4)
    ·rw[decide_eq_false hs,cond_f]
     refine cF (decide_eq_false (by omega)) ?_
     cases path with
     |nil=>exact cT rfl rfl
     |cons p t=>
      refine cF (by rw[beq_eq_false_iff_ne,List.length_cons];omega) (cF Z24 (cT (by rw[Z23,he];rfl) (cT rfl (cT (decide_eq_true (by rw[List.length_cons];omega)) (Z8 (Z3b _ _) (cT rfl (cT (decide_eq_true (by rw[List.length_cons];omega)) (cT (decide_eq_true (Int.le_refl _)) ?_))))))))
      exact next _ t (by rw[List.length_cons]at h4;omega)
   ·rw[decide_eq_false he,cond_f,Bool.false_and,cond_f]
    refine cF (decide_eq_false (by omega)) ?_
    cases path with
    |nil=>exact cT rfl rfl
    |cons p t=>
     refine cF (by rw[beq_eq_false_iff_ne,List.length_cons];omega) (cF Z24 (cF (by rw[Z23,beq_eq_false_iff_ne];omega) (cT rfl (cT (decide_eq_true (by rw[List.length_cons];omega)) (Z8 (Z3b _ _) (cT rfl (cT (decide_eq_true (by rw[List.length_cons];omega)) (cT (decide_eq_true (Int.le_refl _)) ?_))))))))
     exact next _ t (by rw[List.length_cons]at h4;omega)
  ·refine cF (decide_eq_false (by omega)) ?_
   rw[decide_eq_true (show n<=1 by omega),cond_t]
   cases path with
   |nil=>rfl
   |cons p t=>
    rw[decide_eq_false (show¬(p::t).length=0 by simp),cond_f]
    exact cT (decide_eq_true (show((p::t).length:Int)>0 by rw[List.length_cons];omega)) rfl
theorem Z91 (path:List Int)(hp:path.length<=1050000):∀(m:Nat) (leaf:Int) (i n u:Nat),1<=n->n<m->n<=12->i<n->u<=path.length->Zj.l8 path m leaf (i:Int) (n:Int) (u:Int)=some (tf m leaf i n (path.drop u)):=by
 intro m
 induction m with
 |zero=>intro leaf i n u h0 h1;omega
 |succ m ih=>
  intro leaf i n u h0 h1 h2 h3 h4
  have hn:IntKind.i64.wrap ((n:Int)+1)=((n+1:Nat):Int):=w64_succ (by omega)
  have hi:IntKind.i64.wrap ((i:Int)+1)=((i+1:Nat):Int):=w64_succ (by omega)
  have hu:IntKind.i64.wrap ((u:Int)+1)=((u+1:Nat):Int):=w64_succ (by omega)
  have hd:=List.length_drop (i:=u) (l:=path)
  rw[Zj.u8]
  unfold tf
  by_cases h:1<n
  ·refine cT (decide_eq_true (by omega)) (cF Z24 ?_)
   rw[decide_eq_false (show¬n<=1 by omega),cond_f,Z23]
   have next:∀(l:Int) (u:Nat),u<=path.length->Zj.l25 path (i:Int) (n:Int) (Zj.l8 path m) l (u:Int)=some (tf m l (i/2) ((n+1)/2) (path.drop u)):=by
    intro l u hu
    show Zj.l8 path m l (IntKind.i64.wrap (Int.tdiv (i:Int) (2:Int))) (IntKind.i64.wrap (Int.tdiv (IntKind.i64.wrap ((n:Int)+(1:Int))) (2:Int))) (u:Int)=_
    rw[Z1n i (by omega),hn,Z1n (n+1) (by omega)]
    exact ih l (i/2) ((n+1)/2) u (by omega) (by omega) (by omega) (by omega) hu
   have take:∀b:Bool,b= !(decide (i%2=0)&&decide (n<=i+1))->Zj.l13 path leaf (i:Int) (n:Int) (u:Int) (Zj.l8 path m) b=some (bif decide (i%2=0)&&decide (n<=i+1)then tf m leaf (i/2) ((n+1)/2) (path.drop u)else match path.drop u with|[]=>(0,false)|p::t=>tf m (bif decide (i%2=0)then U5 leaf p else U5 p leaf) (i/2) ((n+1)/2) t):=by
    intro b hb
    cases hc:(decide (i%2=0)&&decide (n<=i+1))with
    |true=>
     rw[hc]at hb;subst hb
     exact next leaf u h4
    |false=>
     rw[hc]at hb;subst hb
     rw[cond_f]
     unfold Zj.l13
     refine cT (c:= !false) rfl ?_
     by_cases hl:u<path.length
     ·have e:=List.drop_eq_getElem_cons hl
      rw[e]
      refine cF (decide_eq_false (by omega)) (cF Z24 ?_)
      rw[Z23]
      by_cases he:i%2=0
      ·rw[he]
       show _=some (tf m (U5 leaf path[u]) (i/2) ((n+1)/2) (path.drop (u+1)))
       refine cF rfl (cT ge_t (cT (lt_t hl) (Z8 (Z3E _ _) ?_)))
       rw[hu,Int.toNat_natCast,at_n hl]
       exact next _ (u+1) (by omega)
      ·have e1:i%2=1:=by omega
       rw[e1]
       show _=some (tf m (U5 path[u] leaf) (i/2) ((n+1)/2) (path.drop (u+1)))
       refine cT rfl (cT ge_t (cT (lt_t hl) (Z8 (Z3E _ _) ?_)))
       rw[hu,Int.toNat_natCast,at_n hl]
       exact next _ (u+1) (by omega)
     ·have e:path.drop u=[]:=List.drop_eq_nil_of_le (by omega)
      rw[e]
      exact cT (decide_eq_true (by omega)) rfl
   by_cases he:i%2=0
   ·rw[he]
    refine cF rfl ?_
    rw[hi]
    refine(take _ ?_).trans (by rw[he])
    rw[decide_eq_true he,Bool.true_and]
    by_cases hs:n<=i+1
    ·rw[decide_eq_true hs,decide_eq_false (by omega)];rfl
    ·rw[decide_eq_false hs,decide_eq_true (by omega)];rfl
   ·have e1:i%2=1:=by omega
    rw[e1]
    refine cT rfl ((take _ ?_).trans (by rw[e1]))
    rw[decide_eq_false he];rfl
  ·refine cF (decide_eq_false (by omega)) ?_
   rw[decide_eq_true (show n<=1 by omega),cond_t,hd]
   by_cases hl:u=path.length
   ·subst hl
    rw[decide_eq_true (by omega),cond_t]
    exact cF (bne_self _) rfl
   ·rw[decide_eq_false (by omega),cond_f]
    exact cT (by rw[bne_iff_ne];omega) rfl
def Qz (leaf i n:Int)(path:List Int):Int×Bool:=bif Yx n 1 12&&Yx i 0 (n-1)then tf KK leaf i.toNat n.toNat path else(0,false)
theorem Wf (a b c:Int):Yx a b c=true↔b<=a/\a<=c:=by unfold Yx;rw[Bool.and_eq_true,decide_eq_true_eq,decide_eq_true_eq]
theorem Z92 (leaf i n:Int)(path:List Int)(hp:path.length<=1050000):Zj leaf i n path=some (Qz leaf i n path):=by
 unfold Zj Qz
 refine Z8 (Z1M _ _ _) ?_
 cases hn:Yx n 1 12 with
 |false=>rfl
 |true=>
  have h1:=(Wf _ _ _).1 hn
  refine cF rfl (Z8 (Z1M _ _ _) ?_)
  rw[wd (n:=n-1) (by omega),Bool.true_and]
  cases hi:Yx i 0 (n-1)with
  |false=>rfl
  |true=>
   have h2:=(Wf _ _ _).1 hi
   refine cF rfl ?_
   have:=Z91 path hp KK leaf i.toNat n.toNat 0 (by omega) (KK_gt (by omega)) (by omega) (by omega) (Nat.zero_le _)
   rw[Int.toNat_of_nonneg h2.1,Int.toNat_of_nonneg (by omega),List.drop_zero]at this
   exact this
theorem Z7j (leaf i n:Int)(path:List Int)(hp:path.length<=1050000):Zu leaf i n path=some (Qz leaf i n path):=by
 unfold Zu Qz
 cases hn:Yx n 1 12 with
 |false=>
  by_cases h:n<1
  ·exact cT (decide_eq_true h) rfl
  ·refine cF (decide_eq_false h) (cT (decide_eq_true ?_) rfl)
   rcases Int.lt_or_le 12 n with g|g
   ·exact g
   ·have:Yx n 1 12=true:=(Wf _ _ _).2 ⟨by omega,g⟩
    rw[hn]at this;cases this
 |true=>
  have h1:=(Wf _ _ _).1 hn
  refine cF (decide_eq_false (by omega)) (cF (decide_eq_false (by omega)) (Z8 (Z1r _ _ _) ?_))
  rw[wd (n:=n-1) (by omega),Bool.true_and]
  cases hi:Yx i 0 (n-1)with
  |false=>rfl
  |true=>
   have h2:=(Wf _ _ _).1 hi
   refine cF rfl ?_
   have:=Z7i KK leaf i.toNat n.toNat path (by omega) (KK_gt (by omega)) (by omega) (by omega) hp
   rw[Int.toNat_of_nonneg h2.1,Int.toNat_of_nonneg (by omega)]at this
   exact this
def Ww (root count:Int)(e:Z0)(p:YC):Bool:=Qi e&&((Qz (WC e) p.1 count p.2).2&&(Z1f count (Qz (WC e) p.1 count p.2).1==root))
theorem Z3x (root count:Int)(e:Z0)(p:YC)(he:ZD e<=1050000)(hp:XA p<=1050000):WP root count e p=some (Ww root count e p):=by
 unfold WP Ww
 refine Z8 (Z5p e he) (Z8 (Z92 _ _ _ _ hp) (Z8 (Z5n e he) ?_))
 generalize Qz (WC e) p.1 count p.2=y
 cases Qi e with
 |false=>rfl
 |true=>
  refine cT rfl ?_
  cases hy:y.2 with
  |false=>rfl
  |true=>exact cT rfl (Z8 (Z5s _ _) rfl)
theorem Z4z (root count:Int)(e:Z0)(p:YC)(he:ZD e<=1050000)(hp:XA p<=1050000):U0 root count e p=some (Ww root count e p):=by
 unfold U0 Ww
 refine Z8 (Z4E e he) (Z8 (Z7j _ _ _ _ hp) ?_)
 generalize Qz (WC e) p.1 count p.2=y
 cases hy:y.2 with
 |false=>rw[Bool.false_and,Bool.and_false];rfl
 |true=>
  refine cT rfl (Z8 (Z4D e he) ?_)
  cases Qi e with
  |false=>rfl
  |true=>exact cT rfl (Z8 (Z4G _ _) rfl)
def eZ :Z0:=((⟨#[]⟩:ByteArray),(0:Int),(0:Int),[])
def pZ :YC:=((0:Int),[])
def UG (e:Z0)(p:YC):Bool:=Uz e eZ&&Qr p pZ
theorem Z3u (e:Z0)(p:YC)(he:ZD e<=1050000)(hp:XA p<=1050000):WW e p=some (UG e p):=by
 unfold WW UG
 refine Z8 (Z3y e eZ he) ?_
 cases Uz e eZ with
 |false=>rfl
 |true=>exact cT rfl (Z8 (Z3z p pZ hp) rfl)
theorem Z4N (e:Z0)(he:ZD e<=1050000):Uk e=some (Uz e eZ):=Z8 (Z1F e eZ he) rfl
theorem Z4O (p:YC)(hp:XA p<=1050000):Ul p=some (Qr p pZ):=Z8 (Z2l p pZ hp) rfl
def Z0R (root count:Int)(e:Z0)(p:YC)(at_:Int):Bool:=bif Yx at_ 0 (IntKind.i64.wrap (count-1))then Ww root count e p&&(p.1==at_)else UG e p
theorem Z58 (root count:Int)(e:Z0)(p:YC)(at_:Int)(he:ZD e<=1050000)(hp:XA p<=1050000):UB root count e p at_=some (Z0R root count e p at_):=by
 unfold UB Z0R
 refine Z8 (Z1r _ _ _) ?_
 cases Yx at_ 0 (IntKind.i64.wrap (count-1))with
 |false=>
  refine cT rfl (Z8 (Z4N e he) ?_)
  unfold UG
  cases Uz e eZ with
  |false=>rfl
  |true=>exact cT rfl (Z8 (Z4O p hp) rfl)
 |true=>
  refine cF rfl (Z8 (Z4z root count e p he hp) ?_)
  cases Ww root count e p<;>rfl
def Z0g (root count:Int)(label:ByteArray)(g:Zp):Bool:=bif ZB g==(0:Int)then UG (ZC g) (Yu g)else Ww root count (ZC g) (Yu g)&&(((Yu g).1==ZB g-1)&&(X5 (ZC g).1 label== -1))
def QK (root count:Int)(label:ByteArray)(g:Zp):Bool:=bif ZB g==count then UG (Zz g) (Yj g)else Ww root count (Zz g) (Yj g)&&(((Yj g).1==ZB g)&&(X5 (Zz g).1 label==1))
def QL (root count:Int)(label:ByteArray)(g:Zp):Bool:=Xy label&&(Yx (ZB g) 0 count&&(!((count==(0:Int))&&(root !=Ur []))&&(Z0g root count label g&&QK root count label g)))
theorem Z35 (g:Zp)(hx:W4 g<=1050000):ZD (ZC g)<=1050000/\ZD (Zz g)<=1050000/\XA (Yu g)<=1050000/\XA (Yj g)<=1050000:=by
 unfold W4 at hx
 exact⟨by omega,by omega,by omega,by omega⟩
theorem Z8p (root count:Int)(label:ByteArray)(g:Zp)(hx:W4 g<=1050000):ZM.l17 root count label g=some (QK root count label g):=by
 obtain⟨h1,h2,h3,h4⟩:=Z35 g hx
 unfold ZM.l17 QK
 show(bif(ZB g==count)then _ else _)=_
 cases(ZB g==count)with
 |true=>exact cT rfl (Z8 (Z3u _ _ h2 h4) rfl)
 |false=>
  refine cF rfl (Z8 (Z3x root count _ _ h2 h4) ?_)
  cases Ww root count (Zz g) (Yj g)with
  |false=>rfl
  |true=>
   refine cT rfl ?_
   cases((Yj g).1==ZB g)with
   |false=>rfl
   |true=>exact cT rfl (Z8 (Z1V _ _) rfl)
theorem Z8q (root count:Int)(label:ByteArray)(g:Zp)(hx:W4 g<=1050000)(hc:0<=count/\count<=12)(ha:Yx (ZB g) 0 count=true):ZM.l7 root count label g=some (Z0g root count label g&&QK root count label g):=by
 obtain⟨h1,h2,h3,h4⟩:=Z35 g hx
 have hr:=(Wf _ _ _).1 ha
 have h17:=Z8p root count label g hx
 have ew:IntKind.i64.wrap (ZB g-(1:Int))=ZB g-1:=w64 (by omega) (by omega)
 unfold ZM.l7 Z0g
 show(bif(ZB g==(0:Int))then _ else _)=_
 cases(ZB g==(0:Int))with
 |true=>
  refine cT rfl (Z8 (Z3u _ _ h1 h3) ?_)
  rw[cond_t]
  cases UG (ZC g) (Yu g)with
  |false=>rfl
  |true=>exact h17
 |false=>
  refine cF rfl (Z8 (Z3x root count _ _ h1 h3) ?_)
  rw[cond_f]
  cases Ww root count (ZC g) (Yu g)with
  |false=>rfl
  |true=>
   refine cF rfl ?_
   rw[ew]
   cases hq:((Yu g).1==ZB g-1)with
   |false=>exact cT (congrArg (λz=> !z) hq) rfl
   |true=>
    refine cF (congrArg (λz=> !z) hq) (Z8 (Z1V _ _) ?_)
    cases hm:(X5 (ZC g).1 label== -1)with
    |false=>exact cT (congrArg (λz=> !z) hm) rfl
    |true=>exact cF (congrArg (λz=> !z) hm) h17
theorem Z4h :Zv []<=1050000:=by show 0<=_;omega
theorem Z8r (root count:Int)(label:ByteArray)(g:Zp)(hl:label.size<=1050000)(hx:W4 g<=1050000)(hc:0<=count/\count<=12):ZM root count label g=some (QL root count label g):=by
 unfold ZM QL
 refine Z8 (Z1i label hl) ?_
 cases Xy label with
 |false=>rfl
 |true=>
  refine cF rfl (Z8 (Z1M _ _ _) ?_)
  cases ha:Yx (ZB g) 0 count with
  |false=>rfl
  |true=>
   have h7:=Z8q root count label g hx hc ha
   refine cF rfl ?_
   cases(count==(0:Int))with
   |false=>exact cF rfl h7
   |true=>
    refine cT rfl (Z8 (Z1Y [] Z4h) ?_)
    cases(root !=Ur [])with
    |true=>rfl
    |false=>exact cF rfl h7
theorem Z6i (a b:ByteArray):decide (X5 a b<0)=(X5 a b== -1):=by
 rcases Z13 a b with h|h|h<;>rw[h]<;>rfl
theorem Z49 (a b:ByteArray):decide (X5 a b>0)=(X5 a b==1):=by
 rcases Z13 a b with h|h|h<;>rw[h]<;>rfl
def Z29 (count:Int)(label:ByteArray)(g:Zp):Bool:=((ZB g==(0:Int))||(X5 (ZC g).1 label== -1))&&((ZB g==count)||(X5 (Zz g).1 label==1))
theorem Z6I (count:Int)(label:ByteArray)(g:Zp):ZL.l11 count label g=some (Z29 count label g):=by
 unfold ZL.l11 Z29
 show(bif(ZB g==(0:Int))then _ else _)=_
 cases(ZB g==(0:Int))with
 |true=>
  refine cT rfl ?_
  cases(ZB g==count)with
  |true=>rfl
  |false=>exact cF rfl (Z8 (Z1E _ _) (by rw[Z49];rfl))
 |false=>
  refine cF rfl (Z8 (Z1E _ _) ?_)
  rw[Z6i]
  cases(X5 (ZC g).1 label== -1)with
  |false=>rfl
  |true=>
   refine cT rfl ?_
   cases(ZB g==count)with
   |true=>rfl
   |false=>exact cF rfl (Z8 (Z1E _ _) (by rw[Z49];rfl))
theorem Z6J (root count:Int)(label:ByteArray)(g:Zp)(hl:label.size<=1050000)(hx:W4 g<=1050000)(hc:0<=count/\count<=12):ZL root count label g=some (QL root count label g):=by
 obtain⟨h1,h2,h3,h4⟩:=Z35 g hx
 unfold ZL QL
 refine Z8 (Z1H label hl) ?_
 cases Xy label with
 |false=>rfl
 |true=>
  refine cF rfl (Z8 (Z1r _ _ _) ?_)
  cases ha:Yx (ZB g) 0 count with
  |false=>rfl
  |true=>
   have hr:=(Wf _ _ _).1 ha
   have ew:IntKind.i64.wrap (ZB g-(1:Int))=ZB g-1:=w64 (by omega) (by omega)
   have ec:IntKind.i64.wrap (count-(1:Int))=count-1:=w64 (by omega) (by omega)
   have h7:ZL.l7 root count label g=some (Z0g root count label g&&QK root count label g):=by
    unfold ZL.l7
    refine Z8 (Z58 root count _ _ _ h1 h3) ?_
    rw[ew]
    have key:(bif !Z0R root count (ZC g) (Yu g) (ZB g-1)then some false else bif !Z0R root count (Zz g) (Yj g) (ZB g)then some false else some (Z29 count label g))=some (Z0g root count label g&&QK root count label g):=by
     unfold Z0R Z0g QK Z29
     rw[ec]
     by_cases e0:ZB g=0
     ·have i1:Yx (ZB g-1) 0 (count-1)=false:=by
       cases hb:Yx (ZB g-1) 0 (count-1)with
       |false=>rfl
       |true=>have:=(Wf _ _ _).1 hb;omega
      have b0:(ZB g==(0:Int))=true:=by rw[e0];rfl
      rw[i1,b0,cond_f,cond_t,Bool.true_or,Bool.true_and]
      by_cases e1:ZB g=count
      ·have i2:Yx (ZB g) 0 (count-1)=false:=by
        cases hb:Yx (ZB g) 0 (count-1)with
        |false=>rfl
        |true=>have:=(Wf _ _ _).1 hb;omega
       have b1:(ZB g==count)=true:=by rw[e1];exact beq_self_eq_true _
       rw[i2,b1,cond_f,cond_t,Bool.true_or]
       cases UG (ZC g) (Yu g)<;>cases UG (Zz g) (Yj g)<;>rfl
      ·have i2:Yx (ZB g) 0 (count-1)=true:=(Wf _ _ _).2 (by omega)
       have b1:(ZB g==count)=false:=by rw[beq_eq_false_iff_ne];exact e1
       rw[i2,b1,cond_t,cond_f,Bool.false_or]
       cases UG (ZC g) (Yu g)<;>cases Ww root count (Zz g) (Yj g)<;>cases((Yj g).1==ZB g)<;>cases(X5 (Zz g).1 label==1)<;>rfl
     ·have i1:Yx (ZB g-1) 0 (count-1)=true:=(Wf _ _ _).2 (by omega)
      have b0:(ZB g==(0:Int))=false:=by rw[beq_eq_false_iff_ne];exact e0
      rw[i1,b0,cond_t,cond_f,Bool.false_or]
      by_cases e1:ZB g=count
      ·have i2:Yx (ZB g) 0 (count-1)=false:=by
        cases hb:Yx (ZB g) 0 (count-1)with
        |false=>rfl
        |true=>have:=(Wf _ _ _).1 hb;omega
       have b1:(ZB g==count)=true:=by rw[e1];exact beq_self_eq_true _
       rw[i2,b1,cond_f,cond_t,Bool.true_or,Bool.and_true]
       cases Ww root count (ZC g) (Yu g)<;>cases((Yu g).1==ZB g-1)<;>cases(X5 (ZC g).1 label== -1)<;>cases UG (Zz g) (Yj g)<;>rfl
      ·have i2:Yx (ZB g) 0 (count-1)=true:=(Wf _ _ _).2 (by omega)
       have b1:(ZB g==count)=false:=by rw[beq_eq_false_iff_ne];exact e1
       rw[i2,b1,cond_t,cond_f,Bool.false_or]
       cases Ww root count (ZC g) (Yu g)<;>cases((Yu g).1==ZB g-1)<;>cases(X5 (ZC g).1 label== -1)<;>cases Ww root count (Zz g) (Yj g)<;>cases((Yj g).1==ZB g)<;>cases(X5 (Zz g).1 label==1)<;>rfl
    refine Eq.trans ?_ key
    cases Z0R root count (ZC g) (Yu g) (ZB g-1)with
    |false=>rfl
    |true=>
     refine cF rfl (Z8 (Z58 root count _ _ _ h2 h4) ?_)
     cases Z0R root count (Zz g) (Yj g) (ZB g)with
     |false=>rfl
     |true=>exact Z6I count label g
   refine cF rfl ?_
   cases(count==(0:Int))with
   |false=>exact cF rfl h7
   |true=>
    refine cT rfl (Z8 (Z4H [] Z4h) ?_)
    cases(root !=Ur [])with
    |true=>rfl
    |false=>exact cF rfl h7
theorem Z1u (a:Zi){n:Nat}(hx:W3 a<=n):YG (ZO a)<=n/\ZD (Zx a)<=n/\XA (Xc a)<=n/\W4 (Zh a)<=n:=by
 unfold W3 at hx
 exact⟨by omega,by omega,by omega,by omega⟩
def proved (h:Z5)(label:ByteArray)(a:Zi):Bool:=bif Xk a then((Zx a).1.toList==label.toList)&&(Ww (ZY h) (ZK h) (Zx a) (Xc a)&&Z0k (Zh a) Wo)else QL (ZY h) (ZK h) label (Zh a)&&UG (Zx a) (Xc a)
theorem Z8W (h:Z5)(label:ByteArray)(a:Zi)(hl:label.size<=1050000)(hx:W3 a<=1050000)(hc:0<=ZK h/\ZK h<=12):XV h label a=some (proved h label a):=by
 obtain⟨h1,h2,h3,h4⟩:=Z1u a hx
 unfold XV proved
 cases Xk a with
 |true=>
  refine cT rfl ?_
  rw[cond_t]
  cases((Zx a).1.toList==label.toList)with
  |false=>rfl
  |true=>
   refine cT rfl (Z8 (Z3x _ _ _ _ h2 h3) ?_)
   cases Ww (ZY h) (ZK h) (Zx a) (Xc a)with
   |false=>rfl
   |true=>exact cT rfl (Z8 (Z8A _ _ h4) rfl)
 |false=>
  refine cF rfl (Z8 (Z8r _ _ label _ hl h4 hc) ?_)
  rw[cond_f]
  cases QL (ZY h) (ZK h) label (Zh a)with
  |false=>rfl
  |true=>exact cT rfl (Z8 (Z3u _ _ h2 h3) rfl)
theorem Z7f (h:Z5)(label:ByteArray)(a:Zi)(hl:label.size<=1050000)(hx:W3 a<=1050000)(hc:0<=ZK h/\ZK h<=12):XK h label a=some (proved h label a):=by
 obtain⟨h1,h2,h3,h4⟩:=Z1u a hx
 unfold XK proved
 cases Xk a with
 |true=>
  refine cT rfl ?_
  rw[cond_t]
  cases((Zx a).1.toList==label.toList)with
  |false=>rfl
  |true=>
   refine cT rfl (Z8 (Z4z _ _ _ _ h2 h3) ?_)
   cases Ww (ZY h) (ZK h) (Zx a) (Xc a)with
   |false=>rfl
   |true=>exact cT rfl (Z8 (Z4A _ _ h4) rfl)
 |false=>
  refine cF rfl (Z8 (Z6J _ _ label _ hl h4 hc) ?_)
  rw[cond_f]
  unfold UG
  cases QL (ZY h) (ZK h) label (Zh a)with
  |false=>rfl
  |true=>
   refine cT rfl (Z8 (Z4N _ h2) ?_)
   cases Uz (Zx a) eZ with
   |false=>rfl
   |true=>exact cT rfl (Z8 (Z4O _ h3) rfl)
def WE (a:Zi):Z5:=Z9 (Uo (ZO a))
def Uf (zone:Int)(label:ByteArray)(a:Zi)(now:Int):Int:=bif !XY (ZO a)then 3 else bif ZH (WE a) !=zone then 2 else bif !Yx now (Zr (WE a)) (ZE (WE a))then 4 else bif Zq (WE a)then 5 else bif !proved (WE a) label a then 6 else 1
theorem Z7o (x:Z5)(h:X8 x=true):0<=ZK x/\ZK x<=12:=by
 unfold X8 at h
 simp only[Bool.and_eq_true]at h
 have h1:=h.2.2.1
 unfold XX at h1
 simp only[Bool.and_eq_true,decide_eq_true_eq]at h1
 exact h1
theorem Z52 (xs:List Z4)(h:XY xs=true):0<=ZK (Z9 (Uo xs))/\ZK (Z9 (Uo xs))<=12:=by
 obtain⟨hlt,hle⟩:=Z51 xs h
 rw[hle]
 exact Z7o _ (Z2S xs h _ hlt)
theorem caL (f:Option Bool)(zone now:Int)(h:Z5)(v:Bool)(hf:f=some v)(fr:Option Bool)(hr:fr=some (Yx now (Zr h) (ZE h))):(bif ZH h !=zone then some (2:Int)else fr.bind λy2=>bif !y2 then some (4:Int)else bif Zq h then some (5:Int)else f.bind λy3=>bif !y3 then some (6:Int)else some (1:Int))=some (bif ZH h !=zone then 2 else bif !Yx now (Zr h) (ZE h)then 4 else bif Zq h then 5 else bif !v then 6 else 1):=by
 subst hf hr
 rw[bind_s,bind_s]
 cases(ZH h !=zone)<;>cases Yx now (Zr h) (ZE h)<;>cases Zq h<;>cases v<;>rfl
theorem Z8v (zone:Int)(label:ByteArray)(a:Zi)(now:Int)(hl:label.size<=1050000)(hx:W3 a<=1050000):XM zone label a now=some (Uf zone label a now):=by
 obtain⟨h1,h2,h3,h4⟩:=Z1u a hx
 unfold XM Uf
 refine Z8 (Z0q _ h1) ?_
 rw[(QZ (ZO a)).1]
 cases hc:XY (ZO a)with
 |false=>rfl
 |true=>
  rw[(QZ (ZO a)).2 hc]
  exact caL _ zone now (WE a) _ (Z8W (WE a) label a hl hx (Z52 _ hc)) _ (Z8 (Z1M _ _ _) rfl)
theorem Z0J (zone:Int)(label:ByteArray)(a:Zi)(now:Int)(hl:label.size<=1050000)(hx:W3 a<=1050000):Xl zone label a now=some (Uf zone label a now):=by
 obtain⟨h1,h2,h3,h4⟩:=Z1u a hx
 unfold Xl Uf
 refine Z8 (Z77 _ h1) ?_
 rw[(QZ (ZO a)).1]
 cases hc:XY (ZO a)with
 |false=>rfl
 |true=>
  rw[(QZ (ZO a)).2 hc]
  exact caL _ zone now (WE a) _ (Z7f (WE a) label a hl hx (Z52 _ hc)) _ (Z8 (Z1r _ _ _) rfl)
def Z0j (zone:Int)(label:ByteArray)(a:Zi)(now:Int):QE:=bif Xk a&&(Uf zone label a now==(1:Int))then Z0v (Zx a) true else Z0D
theorem Z6Q (zone:Int)(label:ByteArray)(a:Zi)(now:Int)(hl:label.size<=1050000)(hx:W3 a<=1050000):Yv zone label a now=some (Z0j zone label a now):=by
 obtain⟨h1,h2,h3,h4⟩:=Z1u a hx
 have e5:∀v:Bool,Yv.l5 a v=some (bif v then Z0D else Z0v (Zx a) true):=by
  intro v
  cases v with
  |true=>rfl
  |false=>exact Z8 (Z2e _ h2) rfl
 unfold Yv Z0j
 show(bif !(Xk a)then Yv.l5 a true else _)=_
 cases Xk a with
 |false=>exact e5 true
 |true=>
  refine cF rfl (Z8 (Z0J zone label a now hl hx) ?_)
  rw[e5]
  show some (bif !(Uf zone label a now==(1:Int))then _ else _)=_
  cases(Uf zone label a now==(1:Int))<;>rfl
theorem Z6A {α:Type}(p:α->Bool)(xs:List α):∀k:Int,Ug p xs k= -1∨Ug p xs k<k+xs.length:=by
 induction xs with
 |nil=>intro k;exact .inl rfl
 |cons x t ih=>
  intro k
  rw[Z17,List.length_cons]
  cases p x with
  |true=>rw[cond_t];right;omega
  |false=>rw[cond_f];rcases ih (k+1)with h|h
          ·exact .inl h
          ·right;omega
theorem Z9p {α:Type}(f:α->Nat)(B:Nat)(xs:List α)(h:∀x∈xs,f x<=B):(xs.map f).sum<=xs.length*B:=by
 induction xs with
 |nil=>simp
 |cons x t ih=>
  have h1:=h x (List.mem_cons_self)
  have h2:=ih (λy hy=>h y (List.mem_cons_of_mem _ hy))
  rw[List.map_cons,List.sum_cons,List.length_cons,Nat.add_mul]
  omega
theorem Z7s (p:List ByteArray)(h:Z0M p=true):Xp p<=36:=by
 unfold Z0M at h
 simp only[Bool.and_eq_true,decide_eq_true_eq,List.all_eq_true]at h
 have:=Z9p Wh 8 p (λx hx=>(Z4M x (h.2 x hx)).2)
 unfold Xp X2
 omega
theorem Z7n (e:Z0)(h:Qi e=true):ZD e<=44:=by
 unfold Qi at h
 rw[Bool.and_eq_true]at h
 have h1:=(Z4M e.1 h.1).2
 have h0:∀p:List ByteArray,((p.length:Int)==(0:Int))=true->Xp p<=36:=by
  intro p hp
  have:p=[]:=List.eq_nil_of_length_eq_zero (by have:=eq_of_beq hp;omega)
  subst this
  exact Nat.zero_le _
 have h2:Xp e.2.2.2<=36:=by
  have h:=h.2
  revert h
  cases e.2.1==(1:Int)with
  |true=>rw[cond_t,Bool.and_eq_true];exact λh=>h0 _ h.2
  |false=>
   cases e.2.1==(2:Int)with
   |true=>rw[cond_f,cond_t,Bool.and_eq_true];exact λh=>h0 _ h.2
   |false=>
    cases e.2.1==(3:Int)with
    |true=>rw[cond_f,cond_f,cond_t,Bool.and_eq_true];exact λh=>Z7s _ h.2
    |false=>rw[cond_f,cond_f,cond_f];exact λh=>nomatch h
 unfold ZD Wh
 omega
theorem Z2Q (xs:List Z0)(h:W1 xs=true):∀x∈xs,Qi x=true:=by
 unfold W1 at h
 rw[Bool.and_eq_true,Z0A]at h
 intro x hx
 obtain⟨i,hi,rfl⟩:=List.getElem_of_mem hx
 have:=h.1 i hi
 rw[at_n hi,Bool.and_eq_true]at this
 exact this.1
theorem Z3i (z:Zm)(h:W2 z=true):W1 z.2=true:=by
 unfold W2 Z0C at h
 simp only[Bool.and_eq_true]at h
 exact h.2.2.1
def Xv (xs:List Z0)(l:ByteArray):Int:=Ug (λe=>e.1.toList==l.toList) xs 0
def Us (i:Nat):Nat:=bif decide (i%2=0)then i+1 else i-1
def pf :Nat->List Int->Nat->List Int
 |0,_,_=>[]
 |k+1,l,i=>bif decide ((l.length:Int)>(1:Int))then(bif decide (Us i<l.length)then [l.getD (Us i) 0]else [])++pf k (up l) (i/2)else []
def U6 (l:List Int)(i:Int):List Int:=bif Yx i 0 ((l.length:Int)-1)then pf KK l i.toNat else []
theorem Z5d :∀(k:Nat) (l:List Int) (i:Nat),(pf k l i).length<=l.length
 |0,l,i=>Nat.zero_le _
 |k+1,l,i=>by
  unfold pf
  by_cases h:(l.length:Int)>1
  ·rw[decide_eq_true h,cond_t,List.length_append]
   have h1:=Z5d k (up l) (i/2)
   have h2:=Z1p l
   have h3:(bif decide (Us i<l.length)then [l.getD (Us i) 0]else []).length<=1:=by cases decide (Us i<l.length)<;>simp
   omega
  ·rw[decide_eq_false h,cond_f];exact Nat.zero_le _
theorem Z8f (l:List Int)(i:Int):(U6 l i).length<=l.length:=by
 unfold U6
 cases Yx i 0 ((l.length:Int)-1)with
 |false=>exact Nat.zero_le _
 |true=>exact Z5d _ _ _
theorem Z99 (i:Nat)(h:i<12):(bif decide (i%2=0)then(i:Int)+1 else(i:Int)-1)=((Us i:Nat):Int):=by
 unfold Us
 by_cases e:i%2=0
 ·rw[decide_eq_true e,cond_t,cond_t];omega
 ·rw[decide_eq_false e,cond_f,cond_f];omega
theorem Z98 (i:Nat)(h:i<12):IntKind.i64.wrap ((IntKind.i64.wrap ((i:Int)+(1:Int)))-(IntKind.i64.wrap ((2:Int)*(Int.tmod (i:Int) (2:Int)))))=((Us i:Nat):Int):=by
 rw[Z23,w64 (n:=(i:Int)+1) (by omega) (by omega),w64 (n:=(2:Int)*((i%2:Nat):Int)) (by omega) (by omega),w64 (by omega) (by omega)]
 unfold Us
 by_cases e:i%2=0
 ·rw[decide_eq_true e,cond_t];omega
 ·rw[decide_eq_false e,cond_f];omega
theorem Z7d :∀(m:Nat) (l:List Int) (i:Nat) (out:List Int),l.length<m->l.length<=12->i<12->out.length+l.length<=1000->YK.l8 m l (i:Int) out=some (out++pf m l i):=by
 intro m
 induction m with
 |zero=>intro l i out h0;omega
 |succ m ih=>
  intro l i out h0 h1 h2 h3
  have hu:=Z1p l
  rw[YK.u8]
  unfold pf
  by_cases h:(l.length:Int)>1
  ·refine cT (decide_eq_true h) ?_
   rw[decide_eq_true h,cond_t,Z5K i h2,Z99 i h2]
   have next:∀o:List Int,o.length<=out.length+1->YK.l8 m (up l) (IntKind.i64.wrap (Int.tdiv (i:Int) (2:Int))) o=some (o++pf m (up l) (i/2)):=by
    intro o ho
    rw[Z1n i (by omega)]
    exact ih (up l) (i/2) o (by omega) (by omega) (by omega) (by omega)
   by_cases hs:Us i<l.length
   ·rw[decide_eq_true hs]
    refine cT (lt_t hs) (cT ge_t (cT (lt_t hs) (cT (decide_eq_true (by show _+1<_;omega)) (Z8 (Z3d l (by omega)) ?_))))
    rw[Int.toNat_natCast]
    refine(next (out++[l.getD (Us i) 0]) (by rw[List.length_append];show _+1<=_;omega)).trans ?_
    rw[List.append_assoc];rfl
   ·rw[decide_eq_false hs]
    refine cF (lt_f (by omega)) (Z8 (Z3d l (by omega)) ?_)
    exact next out (by omega)
  ·refine cF (decide_eq_false h) ?_
   rw[decide_eq_false h,cond_f,List.append_nil]
theorem Z8U :∀(m:Nat) (l:List Int) (i:Nat) (out:List Int),l.length<m->l.length<=12->i<12->out.length+l.length<=1000->ZF.l10 m (i:Int) l out=some (out++pf m l i):=by
 intro m
 induction m with
 |zero=>intro l i out h0;omega
 |succ m ih=>
  intro l i out h0 h1 h2 h3
  have hu:=Z1p l
  rw[ZF.u10]
  unfold pf
  by_cases h:(l.length:Int)>1
  ·refine cT (decide_eq_true h) ?_
   rw[decide_eq_true h,cond_t,Z98 i h2]
   have next:∀o:List Int,o.length<=out.length+1->ZF.l19 (i:Int) l (ZF.l10 m) o=some (o++pf m (up l) (i/2)):=by
    intro o ho
    refine Z8 (Z5w l (by omega)) ?_
    show ZF.l10 m (IntKind.i64.wrap (Int.tdiv (i:Int) (2:Int))) (up l) o=_
    rw[Z1n i (by omega)]
    exact ih (up l) (i/2) o (by omega) (by omega) (by omega) (by omega)
   refine cF Z24 ?_
   by_cases hs:Us i<l.length
   ·rw[decide_eq_true hs]
    refine cT (lt_t hs) (cT ge_t (cT (lt_t hs) (cT (decide_eq_true (by show _+1<_;omega)) ?_)))
    rw[Int.toNat_natCast]
    refine(next (out++[l.getD (Us i) 0]) (by rw[List.length_append];show _+1<=_;omega)).trans ?_
    rw[List.append_assoc];rfl
   ·rw[decide_eq_false hs]
    refine cF (lt_f (by omega)) ?_
    exact next out (by omega)
  ·refine cF (decide_eq_false h) ?_
   rw[decide_eq_false h,cond_f,List.append_nil]
theorem Z8T (l:List Int)(i:Int)(hl:l.length<=12):ZF l i=some (U6 l i):=by
 unfold ZF U6
 refine Z8 (Z1M _ _ _) ?_
 rw[w64 (n:=(l.length:Int)-1) (by omega) (by omega)]
 cases hi:Yx i 0 ((l.length:Int)-1)with
 |false=>rfl
 |true=>
  have h2:=(Wf _ _ _).1 hi
  refine cF rfl ?_
  have:=Z8U KK l i.toNat [] (KK_gt (by omega)) hl (by omega) (by show 0+_<=_;omega)
  rw[Int.toNat_of_nonneg h2.1]at this
  exact this
theorem Z7c (l:List Int)(i:Int)(hl:l.length<=12):YK l i=some (U6 l i):=by
 unfold YK U6
 refine Z8 (Z1r _ _ _) ?_
 rw[w64 (n:=(l.length:Int)-1) (by omega) (by omega)]
 cases hi:Yx i 0 ((l.length:Int)-1)with
 |false=>rfl
 |true=>
  have h2:=(Wf _ _ _).1 hi
  refine cF rfl ?_
  have:=Z7d KK l i.toNat [] (KK_gt (by omega)) hl (by omega) (by show 0+_<=_;omega)
  rw[Int.toNat_of_nonneg h2.1]at this
  exact this
theorem Z2E (xs:List Z0)(l:ByteArray)(hx:xs.length<=1050000):Yb xs l=some (Xv xs l):=by
 have hh:∀i n,i<=xs.length->xs.length-i<n->Yb.l4 xs l n (i:Int)=some (Ug (λe=>e.1.toList==l.toList) (xs.drop i) (i:Int)):=by
  refine idx_ind ?_ ?_
  ·intro n
   rw[Yb.u4]
   simp only[Yb.g4,lt_f (Nat.le_refl _),cond_f,Z31]
  ·intro i n hi ih
   rw[Yb.u4]
   simp only[Yb.g4,lt_t hi,ge_t,cond_t,w64_succ (i:=i) (by omega),Int.toNat_natCast,at_n hi,Z33 _ hi,ih]
   cases(xs[i].1.toList==l.toList)<;>rfl
 have h:=hh 0 KK (Nat.zero_le _) (KK_gt (by omega))
 rw[List.drop_zero]at h
 exact h
theorem Z39 (xs:List Z0)(l:ByteArray)(hx:xs.length<=1050000):WG xs l=some (Xv xs l):=
 Z8 (Z4J xs Zt (λe=>Qf e l) (λe=>e.1.toList==l.toList) hx (λi h=>rfl) (X3.l4 xs ((),l)) (λn L a=>X3.u4 xs ((),l) n L a)) rfl
theorem Z6y (xs:List Z0)(l:ByteArray):Xv xs l<(xs.length:Int):=by
 rcases Z6A (λe:Z0=>e.1.toList==l.toList) xs 0 with e|e
 ·unfold Xv;omega
 ·unfold Xv;omega
def Qw (xs:List Z0)(l:ByteArray):Z01:=bif decide (Xv xs l<0)then Z1x else Z10 (Xv xs l,U6 (leaves xs) (Xv xs l)) true
theorem Z3F (xs:List Z0)(l:ByteArray)(hx:Zv xs<=1050000)(hl:xs.length<=12):WU xs l=some (Qw xs l):=by
 unfold WU Qw
 refine Z8 (Z2E xs l (by omega)) ?_
 cases decide (Xv xs l<0)with
 |true=>rfl
 |false=>exact cF rfl (Z8 (Z5q xs hx) (Z8 (Z8T _ _ (by rw[Z1d];exact hl)) rfl))
theorem Z3c (xs:List Z0)(l:ByteArray)(hx:Zv xs<=1050000)(hl:xs.length<=12):WN xs l=some (Qw xs l):=by
 unfold WN Qw
 refine Z8 (Z39 xs l (by omega)) ?_
 cases decide (Xv xs l<0)with
 |true=>rfl
 |false=>exact cF rfl (Z8 (Z4F xs hx) (Z8 (Z7c _ _ (by rw[Z1d];exact hl)) rfl))
theorem Z8h (xs:List Z0)(l:ByteArray):XA (Uw (Qw xs l))<=xs.length:=by
 unfold Qw
 cases decide (Xv xs l<0)with
 |true=>exact Nat.zero_le _
 |false=>
  rw[cond_f,(Z3T _ _).1]
  have:=Z8f (leaves xs) (Xv xs l)
  rw[Z1d]at this
  exact this
def rk (xs:List Z0)(l:ByteArray):Nat:=xs.countP λe=>decide (X5 e.1 l<0)
theorem Z3v (xs:List Z0)(l:ByteArray):rk xs l<=xs.length:=List.countP_le_length
theorem Z5g (xs:List Z0)(l:ByteArray)(hx:xs.length<=1050000)(f:ByteArray->ByteArray->Option Int)(hf:∀a b,f a b=some (X5 a b))(g:Nat->Int->Int->Option Int)(u:∀n c a,g (n+1) c a=(bif decide (a<(xs.length:Int))then bif decide (0<=a)then bif decide (a<(xs.length:Int))then(f (xs.getD a.toNat Zt).1 l).bind λy1=>bif decide (y1<(0:Int))then g n (IntKind.i64.wrap (c+(1:Int))) (IntKind.i64.wrap (a+(1:Int)))else g n c (IntKind.i64.wrap (a+(1:Int)))else none else none else some c)):g KK (0:Int) (0:Int)=some (rk xs l:Int):=by
 have hh:∀i n,i<=xs.length->xs.length-i<n->∀c:Nat,c<=i->g n (c:Int) (i:Int)=some ((c+rk (xs.drop i) l:Nat):Int):=by
  refine idx_ind ?_ ?_
  ·intro n c hc
   rw[u]
   simp only[lt_f (Nat.le_refl _),cond_f,List.drop_length]
   rfl
  ·intro i n hi ih c hc
   rw[u]
   simp only[lt_t hi,ge_t,cond_t,Int.toNat_natCast,at_n hi,hf,bind_s,w64_succ (i:=i) (by omega),w64_succ (i:=c) (by omega)]
   rw[ih c (by omega),ih (c+1) (by omega),List.drop_eq_getElem_cons hi]
   unfold rk
   rw[List.countP_cons]
   cases decide (X5 xs[i].1 l<0)with
   |true=>rw[cond_t,if_pos rfl];congr 1;omega
   |false=>rw[cond_f,if_neg (by decide)];rfl
 have:=hh 0 KK (Nat.zero_le _) (KK_gt (by omega)) 0 (Nat.le_refl _)
 rw[List.drop_zero,Nat.zero_add]at this
 exact this
theorem Z8Y (xs:List Z0)(l:ByteArray)(hx:xs.length<=1050000):YZ xs l=some (rk xs l:Int):=Z5g xs l hx Wc Z1V (λn c a=>YZ.l6 xs l n c a) (λn c a=>YZ.u6 xs l n c a)
theorem Z7g (xs:List Z0)(l:ByteArray)(hx:xs.length<=1050000):YT xs l=some (rk xs l:Int):=Z5g xs l hx Wq Z1E (λn c a=>YT.l6 xs l n c (xs.length:Int) a) (λn c a=>YT.u6 xs l n c (xs.length:Int) a)
def Qu (xs:List Z0)(k:Nat)(B:Z0)(L:YC):Zp:=bif decide (k<xs.length)then Qj (k:Int) B (xs.getD k Zt) L (Uw (Qw xs (xs.getD k Zt).1))else Qj (k:Int) B Zt L Wp
def Z0G (xs:List Z0)(k:Nat):Zp:=bif decide (0<k)then Qu xs k (xs.getD (k-1) Zt) (Uw (Qw xs (xs.getD (k-1) Zt).1))else Qu xs k Zt Wp
def Z00 (xs:List Z0)(l:ByteArray):Wn:=bif W1 xs&&(Xy l&& !decide (Xv xs l>=0))then QB (Z0G xs (rk xs l)) true else Z0h
theorem Z1y (xs:List Z0)(i:Nat)(hx:Zv xs<=1050000):ZD (xs.getD i Zt)<=1050000:=by
 by_cases h:i<xs.length
 ·rw[at_n h];exact Z0E h hx
 ·have e:xs.getD i Zt=Zt:=by simp[List.getD,show xs.length<=i by omega]
  rw[e];exact Nat.zero_le _
theorem Z5m (xs:List Z0)(k:Nat)(B:Z0)(L:YC)(hx:Zv xs<=1050000)(hl:xs.length<=12):Y4.l17 xs (k:Int) B.1 B.2.1 B.2.2.1 L.1 B.2.2.2 L.2=some (QB (Qu xs k B L) true):=by
 unfold Y4.l17 Qu
 by_cases h:k<xs.length
 ·rw[decide_eq_true h,cond_t]
  refine cT (lt_t h) (cT ge_t (cT (lt_t h) (Z8 (Z0N _ (Z1y xs _ hx)) (cT ge_t (cT (lt_t h) (Z8 (Z3F xs _ hx hl) ?_))))))
  rw[Int.toNat_natCast]
 ·rw[decide_eq_false h,cond_f]
  exact cF (lt_f (by omega)) rfl
theorem Z4B (xs:List Z0)(k:Nat)(B:Z0)(L:YC)(hx:Zv xs<=1050000)(hl:xs.length<=12):Y0.l15 xs (k:Int) B.1 B.2.1 B.2.2.1 L.1 B.2.2.2 L.2=some (QB (Qu xs k B L) true):=by
 unfold Y0.l15 Qu
 by_cases h:k<xs.length
 ·rw[decide_eq_true h,cond_t]
  refine cT (lt_t h) (cT ge_t (cT (lt_t h) (Z8 (Z2e _ (Z1y xs _ hx)) (Z8 (Z3c xs _ hx hl) ?_))))
  rw[Int.toNat_natCast]
 ·rw[decide_eq_false h,cond_f]
  exact cF (lt_f (by omega)) rfl
theorem Z3w (xs:List Z0)(l:ByteArray)(v:Bool)(hx:Zv xs<=1050000)(hl:xs.length<=12):Y4.l5 xs l v=some (bif v then Z0h else QB (Z0G xs (rk xs l)) true):=by
 cases v with
 |true=>rfl
 |false=>
  refine Z8 (Z8Y xs l (by omega)) ?_
  have hr:=Z3v xs l
  rw[cond_f]
  unfold Z0G
  by_cases h:0<rk xs l
  ·have e:IntKind.i64.wrap ((rk xs l:Int)-(1:Int))=((rk xs l-1:Nat):Int):=by rw[w64 (by omega) (by omega)];omega
   rw[decide_eq_true h,cond_t,e]
   refine cT (decide_eq_true (by omega)) (cT ge_t (cT (lt_t (by omega)) (Z8 (Z0N _ (Z1y xs _ hx)) (cT ge_t (cT (lt_t (by omega)) (Z8 (Z3F xs _ hx hl) ?_))))))
   rw[Int.toNat_natCast]
   exact Z5m xs (rk xs l) _ _ hx hl
  ·rw[decide_eq_false h,cond_f]
   exact cF (decide_eq_false (by omega)) (Z5m xs (rk xs l) Zt Wp hx hl)
theorem Z38 (xs:List Z0)(l:ByteArray)(v:Bool)(hx:Zv xs<=1050000)(hl:xs.length<=12):Y0.l5 xs l v=some (bif v then Z0h else QB (Z0G xs (rk xs l)) true):=by
 cases v with
 |true=>rfl
 |false=>
  refine Z8 (Z7g xs l (by omega)) ?_
  have hr:=Z3v xs l
  rw[cond_f]
  unfold Z0G
  by_cases h:0<rk xs l
  ·have e:IntKind.i64.wrap ((rk xs l:Int)-(1:Int))=((rk xs l-1:Nat):Int):=by rw[w64 (by omega) (by omega)];omega
   rw[decide_eq_true h,cond_t,e]
   refine cT (decide_eq_true (by omega)) (cT ge_t (cT (lt_t (by omega)) (Z8 (Z2e _ (Z1y xs _ hx)) (Z8 (Z3c xs _ hx hl) ?_))))
   rw[Int.toNat_natCast]
   exact Z4B xs (rk xs l) _ _ hx hl
  ·rw[decide_eq_false h,cond_f]
   exact cF (decide_eq_false (by omega)) (Z4B xs (rk xs l) Zt Wp hx hl)
theorem Z8V (xs:List Z0)(l:ByteArray)(hx:Zv xs<=1050000)(hl:xs.length<=12)(hs:l.size<=1050000):Y4 xs l=some (Z00 xs l):=by
 unfold Y4 Z00
 refine Z8 (Z1g xs hx) ?_
 cases W1 xs with
 |false=>exact Z3w xs l true hx hl
 |true=>
  refine cF rfl (Z8 (Z1i l hs) ?_)
  cases Xy l with
  |false=>exact Z3w xs l true hx hl
  |true=>
   refine cF rfl (Z8 (Z2E xs l (by omega)) ?_)
   rw[Z3w xs l _ hx hl]
   cases decide (Xv xs l>=0)<;>rfl
theorem Z7e (xs:List Z0)(l:ByteArray)(hx:Zv xs<=1050000)(hl:xs.length<=12)(hs:l.size<=1050000):Y0 xs l=some (Z00 xs l):=by
 unfold Y0 Z00
 refine Z8 (Z4y xs hx) ?_
 cases W1 xs with
 |false=>exact Z38 xs l true hx hl
 |true=>
  refine cF rfl (Z8 (Z1H l hs) ?_)
  cases Xy l with
  |false=>exact Z38 xs l true hx hl
  |true=>
   refine cF rfl (Z8 (Z39 xs l (by omega)) ?_)
   rw[Z38 xs l _ hx hl]
   cases decide (Xv xs l>=0)<;>rfl
def Wd (z:Zm)(l:ByteArray):Zi:=bif decide (Xv z.2 l>=0)then WJ z.1 true (z.2.getD (Xv z.2 l).toNat Zt) (Uw (Qw z.2 l)) Wo else WJ z.1 false Zt Wp (QU (Z00 z.2 l))
def QW (z:Zm)(l:ByteArray):Zi:=bif W2 z&&Xy l then Wd z l else QN
theorem afL (z:Zm)(l:ByteArray)(hx:U7 z<=1050000)(hs:l.size<=1050000)(cc:Option (List Z4))(h1:cc=some z.1)(ff:Option Int)(h2:ff=some (Xv z.2 l))(ce:Z0->Option Z0)(h3:∀e,ZD e<=1050000->ce e=some e)(pe:Option Z01)(h4:pe=some (Qw z.2 l))(pa:Option Wn)(h5:pa=some (Z00 z.2 l)):(cc.bind λy3=>ff.bind λy4=>bif decide (y4>=(0:Int))then bif decide (0<=y4)then bif decide (y4<(z.2.length:Int))then(ce (z.2.getD y4.toNat Zt)).bind λy5=>pe.bind λy6=>some (WJ y3 true y5 (Uw y6) Wo)else none else none else pa.bind λy7=>some (WJ y3 false Zt Wp (QU y7)))=some (Wd z l):=by
 subst h1 h2 h4 h5
 rw[bind_s,bind_s,bind_s]
 unfold Wd
 by_cases h:Xv z.2 l>=0
 ·have h':0<=Xv z.2 l:=h
  rw[decide_eq_true (Z6y z.2 l),h3 _ (Z1y z.2 _ (Z0Y z hx)),bind_s,bind_s]
  simp only[ge_iff_le,decide_eq_true h',cond_t]
 ·rw[decide_eq_false h,cond_f,cond_f]
theorem Z5i (z:Zm)(l:ByteArray)(hx:U7 z<=1050000)(hs:l.size<=1050000):X7 z l=some (QW z l):=by
 unfold X7 QW
 refine Z8 (Z1X z hx) ?_
 cases hz:W2 z with
 |false=>rfl
 |true=>
  have he:=Z0Y z hx
  have hl:=Z12 z.2 (Z3i z hz)
  refine cF rfl (Z8 (Z1i l hs) ?_)
  cases Xy l with
  |false=>rfl
  |true=>exact cF rfl (afL z l hx hs _ (Z1c _ (QA z hx)) _ (Z2E z.2 l (by omega)) W6 Z0N _ (Z3F z.2 l he hl) _ (Z8V z.2 l he hl hs))
theorem Z6K (z:Zm)(l:ByteArray)(hx:U7 z<=1050000)(hs:l.size<=1050000):Xd z l=some (QW z l):=by
 unfold Xd QW
 refine Z8 (Z74 z hx) ?_
 cases hz:W2 z with
 |false=>rfl
 |true=>
  have he:=Z0Y z hx
  have hl:=Z12 z.2 (Z3i z hz)
  refine cF rfl (Z8 (Z1H l hs) ?_)
  cases Xy l with
  |false=>rfl
  |true=>exact cF rfl (afL z l hx hs _ (Z6l _ (QA z hx)) _ (Z39 z.2 l (by omega)) Ws Z2e _ (Z3c z.2 l he hl) _ (Z7e z.2 l he hl hs))
def Z0Q (y:Zi):Zi:=WJ (ZO y) (Xk y) ((Zx y).1,(Zx y).2.1,IntKind.i64.wrap ((Zx y).2.2.1+(1:Int)),(Zx y).2.2.2) (Xc y) (Zh y)
def Z55 (y:Zi):Zi:=WJ ((ZO y).take ((ZO y).length-1)) (Xk y) (Zx y) (Xc y) (Zh y)
def Z0P (y:Zi):Zi:=WJ (ZO y) false Zt Wp Wo
def lie (k:Int)(y:Zi):Zi:=bif k==(1:Int)then Z0Q y else bif k==(2:Int)then Z55 y else bif k==(3:Int)then Z0P y else y
theorem Z5B (xs:List Z4):∀k,YG (xs.take k)<=YG xs:=by
 have h:∀(xs:List Z4) k,((xs.take k).map Xj).sum<=(xs.map Xj).sum:=by
  intro xs
  induction xs with
  |nil=>intro k;simp
  |cons x t ih=>
   intro k
   cases k with
   |zero=>simp
   |succ k=>have:=ih k;simp only[List.take_succ_cons,List.map_cons,List.sum_cons];omega
 intro k
 have:=h xs k
 unfold YG X2
 rw[List.length_take]
 omega
theorem Z56 (k:Int)(y:Zi):W3 (lie k y)<=W3 y:=by
 have e1:ZD Zt=0:=rfl
 have e2:XA Wp=0:=rfl
 have e3:W4 Wo=0:=rfl
 have ht:=Z5B (ZO y) ((ZO y).length-1)
 unfold lie
 cases(k==(1:Int))with
 |true=>exact Nat.le_refl _
 |false=>
  cases(k==(2:Int))with
  |true=>
   rw[cond_f,cond_t]
   unfold Z55 W3
   rw[(Xh _ _ _ _ _).1,(Xh _ _ _ _ _).2.2.1,(Xh _ _ _ _ _).2.2.2.1,(Xh _ _ _ _ _).2.2.2.2]
   omega
  |false=>
   cases(k==(3:Int))with
   |true=>
    rw[cond_f,cond_f,cond_t]
    unfold Z0P W3
    rw[(Xh _ _ _ _ _).1,(Xh _ _ _ _ _).2.2.1,(Xh _ _ _ _ _).2.2.2.1,(Xh _ _ _ _ _).2.2.2.2]
    omega
   |false=>exact Nat.le_refl _
def Ok {α:Type}(o:Option α)(Q:α->Prop):Prop:=∃a,o=some a/\Q a
theorem Ok.bind {α β:Type}{e:Option α}{P:α->Prop}{f:α->Option β}{Q:β->Prop}(h:Ok e P)(hf:∀a,P a->Ok (f a) Q):Ok (e.bind f) Q:=by
 obtain⟨a,rfl,ha⟩:=h
 rw[bind_s]
 exact hf a ha
theorem Ok.ret {α:Type}{a:α}{Q:α->Prop}(h:Q a):Ok (some a) Q:=⟨a,rfl,h⟩
theorem Ok.of {α:Type}{e:Option α}{a:α}{Q:α->Prop}(h:e=some a)(hq:Q a):Ok e Q:=⟨a,h,hq⟩
theorem Ok.mono {α:Type}{e:Option α}{P Q:α->Prop}(h:Ok e P)(hq:∀a,P a->Q a):Ok e Q:=by
 obtain⟨a,h1,h2⟩:=h
 exact⟨a,h1,hq a h2⟩
theorem Ok.ite {α:Type}{c:Bool}{a b:Option α}{Q:α->Prop}(h1:c=true->Ok a Q)(h2:c=false->Ok b Q):Ok (bif c then a else b) Q:=by
 cases c with
 |true=>rw[cond_t];exact h1 rfl
 |false=>rw[cond_f];exact h2 rfl
theorem Ok.chk {α:Type}{c:Bool}{a b:Option α}{Q:α->Prop}(h:c=true)(h1:Ok a Q):Ok (bif c then a else b) Q:=by
 subst h
 rw[cond_t]
 exact h1
theorem Ok.both {α:Type}{x:Option α}{Q:α->Prop}(h:Ok x Q):Ok (V.both x x) Q:=by
 rw[both_eq]
 exact h
def Cu (code:List Int)(c:Z3):Prop:=c.1=code/\0<=c.2.1/\c.2.1<=(code.length:Int)/\code.length<=1050000
theorem Cu.re {code:List Int}{c d:Z3}(h:Cu code c)(h':Cu code d):Cu code (c.1,d.2.1,d.2.2):=⟨h.1,h'.2⟩
theorem Z3X (a:Int):0<=IntKind.i64.wrap ((BitVec.ofInt IntKind.i64.bits a&&&BitVec.ofInt IntKind.i64.bits (255:Int)).toNat:Int)/\IntKind.i64.wrap ((BitVec.ofInt IntKind.i64.bits a&&&BitVec.ofInt IntKind.i64.bits (255:Int)).toNat:Int)<=255:=by
 have h:(BitVec.ofInt IntKind.i64.bits a&&&BitVec.ofInt IntKind.i64.bits (255:Int)).toNat<=255:=by
  rw[BitVec.toNat_and]
  exact Nat.le_trans Nat.and_le_right (by decide)
 rw[w64 (by omega) (by omega)]
 omega
theorem Z2a {code:List Int}{c:Z3}(hc:Cu code c):Ok (Uc c) (λr=>Cu code r.1/\0<=r.2/\r.2<=255):=by
 obtain⟨h1,h2,h3,h4⟩:=hc
 unfold Uc
 refine Ok.chk (by decide) (Ok.chk (by decide) (Ok.ite (λh=> ?_) (λ_=>Ok.ret ⟨⟨h1,h2,h3,h4⟩,Z3X _⟩)))
 have h:=of_decide_eq_true h
 rw[h1]at h
 refine Ok.chk (decide_eq_true h2) (Ok.chk (decide_eq_true (by rw[h1];exact h)) (Ok.ret ⟨⟨h1,?_,?_,h4⟩,Z3X _⟩))
 ·show 0<=IntKind.i64.wrap (c.2.1+1)
  rw[w64 (by omega) (by omega)]
  omega
 ·show IntKind.i64.wrap (c.2.1+1)<=_
  rw[w64 (by omega) (by omega)]
  omega
theorem Yn {code:List Int}{c:Z3}(hc:Cu code c)(n:Int):Ok (Zb c n) (λr=>Cu code r.1/\0<=r.2/\(0<n->r.2<n)/\(n<=0->r.2=0)):=by
 unfold Zb
 refine Ok.ite (λh=> ?_) (λh=> ?_)
 ·have h:=of_decide_eq_true h
  exact Ok.ret ⟨hc,Int.le_refl 0,λh'=>by omega,λ_=>rfl⟩
 ·have h:=of_decide_eq_false h
  have hn:(n==(0:Int))=false:=by rw[beq_eq_false_iff_ne];omega
  refine Ok.ite (λ_=>(Z2a hc).bind λy hy=> ?_) (λ_=>(Z2a hc).bind λy hy=>(Z2a (hc.re hy.1)).bind λz hz=>(Z2a (hc.re hz.1)).bind λu hu=> ?_)
  ·rw[hn,cond_f]
   exact Ok.ret ⟨hc.re hy.1,Int.tmod_nonneg n hy.2.1,λh'=>Int.tmod_lt_of_pos _ h',λh'=>by omega⟩
  ·rw[hn,cond_f]
   obtain⟨_,y1,y2⟩:=hy
   obtain⟨_,z1,z2⟩:=hz
   obtain⟨_,u1,u2⟩:=hu
   have e1:IntKind.i64.wrap (y.2*65536)=y.2*65536:=w64 (by omega) (by omega)
   have e2:IntKind.i64.wrap (z.2*256)=z.2*256:=w64 (by omega) (by omega)
   have e3:IntKind.i64.wrap (y.2*65536+z.2*256)=y.2*65536+z.2*256:=w64 (by omega) (by omega)
   have e4:IntKind.i64.wrap (y.2*65536+z.2*256+u.2)=y.2*65536+z.2*256+u.2:=w64 (by omega) (by omega)
   rw[e1,e2,e3,e4]
   exact Ok.ret ⟨hc.re ‹_›,Int.tmod_nonneg n (by omega),λh'=>Int.tmod_lt_of_pos _ h',λh'=>by omega⟩
theorem Z0T {code:List Int}{c:Z3}(hc:Cu code c)(n:Int):Ok (W5 c n) (λr=>Cu code r.1):=by
 unfold W5
 exact(Yn hc n).bind λy hy=>Ok.ret (hc.re hy.1)
theorem QO {code:List Int}{c:Z3}(hc:Cu code c){xs:List Int}(hx:0<xs.length):Ok (Xq c xs) (λr=>Cu code r.1/\r.2∈xs):=by
 unfold Xq
 refine(Yn hc _).bind λy hy=> ?_
 obtain⟨h1,h2,h3,_⟩:=hy
 have h3:=h3 (by omega)
 refine Ok.chk (decide_eq_true h2) (Ok.chk (decide_eq_true h3) (Ok.ret ⟨hc.re h1,?_⟩))
 show xs.getD y.2.toNat 0∈xs
 rw[List.getD_eq_getElem?_getD,List.getElem?_eq_getElem (show y.2.toNat<xs.length by omega)]
 exact List.getElem_mem _
theorem Z9o {code:List Int}{c:Z3}(hc:Cu code c){xs:List ByteArray}(hx:0<xs.length):Ok (WX c xs) (λr=>Cu code r.1/\r.2∈xs):=by
 unfold WX
 refine(Yn hc _).bind λy hy=> ?_
 obtain⟨h1,h2,h3,_⟩:=hy
 have h3:=h3 (by omega)
 refine Ok.chk (decide_eq_true h2) (Ok.chk (decide_eq_true h3) (Ok.ret ⟨hc.re h1,?_⟩))
 show xs.getD y.2.toNat _∈xs
 rw[List.getD_eq_getElem?_getD,List.getElem?_eq_getElem (show y.2.toNat<xs.length by omega)]
 exact List.getElem_mem _
theorem ge0 {v:Int}(h:decide (v>(0:Int))=true):0<v:=of_decide_eq_true h
theorem Z1U {v:Int}(h0:0<v)(h1:v<=1000):IntKind.i64.wrap (v-(1:Int))=v-1:=w64 (by omega) (by omega)
theorem QM {α:Type}{xs:List α}{x:α}(h:xs.length<=1050000):decide (xs.length+[x].length<68719476736)=true:=decide_eq_true (by show xs.length+1<_;omega)
theorem QQ {α:Type}(xs:List α)(x:α):(xs++[x]).length=xs.length+1:=by simp
theorem Z22 {α:Type}(f:α->Nat)(xs:List α)(x:α):X2 f (xs++[x])=X2 f xs+1+f x:=by
 unfold X2
 simp only[List.length_append,List.map_append,List.sum_append,List.map_cons,List.map_nil,List.sum_cons,List.sum_nil,List.length_cons,List.length_nil]
 omega
theorem Z5A {code:List Int}{c:Z3}(hc:Cu code c){xs:List ByteArray}{n:Nat}(hx:0<xs.length)(hs:(xs.all λs=>decide (s.size<=n))=true):Ok (WX c xs) (λr=>Cu code r.1/\r.2.size<=n):=
 (Z9o hc hx).mono λr h=>⟨h.1,of_decide_eq_true (List.all_eq_true.1 hs r.2 h.2)⟩
theorem Z2t {code:List Int}{c:Z3}(hc:Cu code c):Ok (Wm c) (λr=>Cu code r.1/\r.2.size<=9):=by
 unfold Wm
 exact(Z5A (n:=9) hc (by decide) (by decide)).bind λy hy=>Ok.ret ⟨hc.re hy.1,hy.2⟩
theorem Z7I {code:List Int}{x0:Z3}:∀(n:Nat) (v a b:Int) (acc:List ByteArray),v<(n:Int)->0<=v->v<=1000->acc.length+v.toNat<=1000->Cu code (x0.1,a,b)->Ok (YB.l6 x0 n v a b acc) (λr=>Cu code r.1/\Xp r.2<=Xp acc+10*v.toNat):=by
 intro n
 induction n with
 |zero=>intro v a b acc h0 h1;omega
 |succ n ih=>
  intro v a b acc h0 h1 h2 ha hc
  rw[YB.u6]
  refine Ok.ite (λh=> ?_) (λh=>Ok.ret ⟨hc,by show Xp acc<=_;omega⟩)
  have h:=ge0 h
  refine(Z2t hc).bind λy hy=>Ok.chk (QM (by omega)) ?_
  rw[Z1U h h2]
  refine(ih (v-1) _ _ (acc++[y.2]) (by omega) (by omega) (by omega) (by rw[QQ];omega) (hc.re hy.1)).mono λr hr=>⟨hr.1,?_⟩
  have e:Xp (acc++[y.2])=Xp acc+1+Wh y.2:=Z22 _ _ _
  have e2:Wh y.2<=9:=hy.2
  have:=hr.2
  omega
theorem Z4Y {code:List Int}{c:Z3}(hc:Cu code c):Ok (YB c) (λr=>Cu code r.1/\Xp r.2<=30):=by
 unfold YB
 refine(Yn hc 3).bind λy hy=> ?_
 obtain⟨h1,h2,h3,_⟩:=hy
 have h3:=h3 (by omega)
 have e:IntKind.i64.wrap ((1:Int)+y.2)=1+y.2:=w64 (by omega) (by omega)
 rw[e]
 have hk:=KK_gt (n:=1000) (by omega)
 refine(Z7I KK (1+y.2) _ _ [] (by omega) (by omega) (by omega) (by show 0+_<=_;omega) (hc.re h1)).mono λr hr=>⟨hr.1,?_⟩
 have e0:Xp []=0:=rfl
 have:=hr.2
 omega
theorem Z50 {code:List Int}{c:Z3}(hc:Cu code c):Ok (Ue c) (λr=>Cu code r.1/\ZD r.2<=39):=by
 unfold Ue
 refine(Z2t hc).bind λy1 h1=>(Yn (hc.re h1.1) 5).bind λy2 h2=>Ok.ite (λ_=> ?_) λ_=>Ok.ite (λ_=> ?_) λ_=> ?_
 ·refine(Yn (hc.re h2.1) 5000).bind λy3 h3=>Ok.bind (P:=λe=>ZD e<=39) ?_ λe he=>Ok.ret ⟨hc.re h3.1,he⟩
  exact Ok.ret (by show Wh y1.2+0<=39;have:Wh y1.2<=9:=h1.2;omega)
 ·refine(Yn (hc.re h2.1) 5000).bind λy3 h3=>(Z4Y (hc.re h3.1)).bind λy6 h6=>Ok.bind (P:=λe=>ZD e<=39) ?_ λe he=>Ok.ret ⟨hc.re h6.1,he⟩
  have hl:y6.2.length<=1050000:=by have:=h6.2;unfold Xp X2 at this;omega
  exact Ok.of (Z8 (Z4X y6.2 hl) rfl) (by show Wh y1.2+Xp y6.2<=39;have:Wh y1.2<=9:=h1.2;have:=h6.2;omega)
 ·refine(Yn (hc.re h2.1) 50).bind λy3 h3=>Ok.bind (P:=λe=>ZD e<=39) ?_ λe he=>Ok.ret ⟨hc.re h3.1,he⟩
  exact Ok.ret (by show Wh y1.2+0<=39;have:Wh y1.2<=9:=h1.2;omega)
theorem Z9r {α:Type}(f:α->Nat){xs:List α}{i:Nat}(h:i<xs.length):X2 f (xs.drop i)=1+f xs[i]+X2 f (xs.drop (i+1)):=by
 rw[List.drop_eq_getElem_cons h]
 unfold X2
 simp only[List.map_cons,List.sum_cons,List.length_cons]
 omega
theorem Z1m {α:Type}(f:α->Nat)(xs:List α):xs.length<=X2 f xs:=by unfold X2;omega
theorem Z8m (xs:List Z0)(e:Z0)(hx:Zv xs+ZD e<=100000):∀(n i:Nat) (done:Bool) (out:List Z0),xs.length-i<n->i<=xs.length->Zv out+(bif done then 0 else ZD e+1)+Zv (xs.drop i)<=Zv xs+ZD e+1->
 Ok (Zg.l8 xs e n done (i:Int) out) (λr=>Zv r.1<=Zv xs+ZD e+1):=by
 have hlx:=Z1m ZD xs
 have hl:xs.length<=100000:=by unfold Zv at hx;omega
 have fin:∀out:List Z0,Zv out<=Zv xs+ZD e+1->Ok (Zg.l29 xs out) (λr=>Zv r.1<=Zv xs+ZD e+1):=by
  intro out ho
  have tail:∀v:Bool,Ok (Zg.l31 xs out v) (λr=>Zv r.1<=Zv xs+ZD e+1):=by
   intro v
   refine Ok.ite (λ_=> ?_) λ_=>Ok.ret ho
   exact Ok.of (Z8 (Z2u xs (by omega)) rfl) (by show Zv xs<=_;omega)
  refine Ok.bind (P:=λ_=>True) (Ok.of (Z1g xs (by omega)) trivial) λy _=>Ok.ite (λ_=>tail _) λ_=> ?_
  exact Ok.bind (P:=λ_=>True) (Ok.of (Z1g out (by omega)) trivial) λy _=>tail _
 intro n
 induction n with
 |zero=>intro i done out h0;omega
 |succ n ih=>
  intro i done out h0 h1 hi
  have hlo:=Z1m ZD out
  have hou:Zv out<=100001:=by omega
  have hlo:out.length<=100001:=by unfold Zv at hou;omega
  rw[Zg.u8]
  refine Ok.ite (λh=> ?_) (λh=> ?_)
  ·have hlt:i<xs.length:=by have:=of_decide_eq_true h;omega
   have hd:=Z9r ZD hlt
   have hd:Zv (xs.drop i)=1+ZD xs[i]+Zv (xs.drop (i+1)):=hd
   refine Ok.chk (decide_eq_true (by omega)) (Ok.chk h ?_)
   rw[Int.toNat_natCast,at_n hlt]
   refine Ok.bind (P:=λ_=>True) (Ok.of (Z1V _ _) trivial) λk _=> ?_
   have hei:ZD xs[i]<=1050000:=by omega
   have nx:∀(d:Bool) (o:List Z0),Zv o+(bif d then 0 else ZD e+1)+Zv (xs.drop i)<=Zv xs+ZD e+1->Ok (Zg.l21 xs e (i:Int) k (Zg.l8 xs e n) d o) (λr=>Zv r.1<=Zv xs+ZD e+1):=by
    intro d o ho
    have hlo:o.length<=Zv o:=Z1m ZD o
    have hlo:o.length<=1050000:=by omega
    refine Ok.ite (λ_=> ?_) λ_=> ?_
    ·refine Ok.chk (decide_eq_true (by omega)) (Ok.chk h ?_)
     rw[Int.toNat_natCast,at_n hlt,w64_succ (by omega)]
     refine Ok.bind (P:=λy=>y=xs[i]) (Ok.of (Z0N _ hei) rfl) λy hy=>Ok.chk (QM hlo) ?_
     subst hy
     refine ih (i+1) d _ (by omega) (by omega) ?_
     have e2:Zv (o++[xs[i]])=Zv o+1+ZD xs[i]:=Z22 _ _ _
     omega
    ·rw[w64_succ (by omega)]
     exact ih (i+1) d o (by omega) (by omega) (by omega)
   have cs:∀v:Bool,(v=true->done=false)->Ok (Zg.l17 xs e done (i:Int) out k (Zg.l8 xs e n) v) (λr=>Zv r.1<=Zv xs+ZD e+1):=by
    intro v hv
    refine Ok.ite (λh=> ?_) λ_=>nx _ _ hi
    have hd:=hv h
    subst hd
    rw[cond_f]at hi
    refine Ok.bind (P:=λy=>y=e) (Ok.of (Z0N _ (by omega)) rfl) λy hy=>Ok.chk (QM (by omega)) (nx _ _ ?_)
    subst hy
    have e2:Zv (out++[y])=Zv out+1+ZD y:=Z22 _ _ _
    rw[cond_t]
    omega
   exact Ok.ite (λ_=>cs _ (λh=>by cases done<;>simp_all)) (λ_=>cs _ (λh=>by cases h))
  ·have e0:i=xs.length:=by have:=of_decide_eq_false h;omega
   subst e0
   rw[List.drop_length]at hi
   have e0:Zv []=0:=rfl
   refine Ok.ite (λh=> ?_) (λh=>fin _ (by omega))
   have hd:done=false:=by cases done<;>simp_all
   subst hd
   rw[cond_f]at hi
   refine Ok.bind (P:=λy=>y=e) (Ok.of (Z0N _ (by omega)) rfl) λy hy=>Ok.chk (QM (by omega)) (fin _ ?_)
   subst hy
   have e2:Zv (out++[y])=Zv out+1+ZD y:=Z22 _ _ _
   omega
theorem Z5f (xs:List Z0)(e:Z0)(hx:Zv xs+ZD e<=100000):Ok (Zg xs e) (λr=>Zv r.1<=Zv xs+ZD e+1):=by
 have hlx:=Z1m ZD xs
 have hlx:xs.length<=100000:=by unfold Zv at hx;omega
 refine Z8m xs e hx KK 0 false [] (KK_gt (by omega)) (Nat.zero_le _) ?_
 have e0:Zv []=0:=rfl
 rw[cond_f,List.drop_zero]
 omega
theorem Z7T {code:List Int}{x0:Z3}:∀(n:Nat) (v a b:Int) (acc:List Z0),v<(n:Int)->0<=v->v<=1000->Zv acc+40*v.toNat<=50000->Cu code (x0.1,a,b)->Ok (ZS.l6 x0 n v a b acc) (λr=>Cu code r.1/\Zv r.2<=Zv acc+40*v.toNat):=by
 intro n
 induction n with
 |zero=>intro v a b acc h0 h1;omega
 |succ n ih=>
  intro v a b acc h0 h1 h2 ha hc
  rw[ZS.u6]
  refine Ok.ite (λh=> ?_) (λh=>Ok.ret ⟨hc,by show Zv acc<=_;omega⟩)
  have h:=ge0 h
  refine(Z50 hc).bind λy hy=> ?_
  have hy2:=hy.2
  refine(Z5f acc y.2 (by omega)).bind λz hz=> ?_
  rw[Z1U h h2]
  refine(ih (v-1) _ _ z.1 (by omega) (by omega) (by omega) (by omega) (hc.re hy.1)).mono λr hr=>⟨hr.1,?_⟩
  have:=hr.2
  omega
theorem Z1Q {code:List Int}{c:Z3}(hc:Cu code c):Ok (ZS c) (λr=>Cu code r.1/\Zv r.2<=240):=by
 unfold ZS
 refine(Yn hc 7).bind λy hy=> ?_
 obtain⟨h1,h2,h3,_⟩:=hy
 have h3:=h3 (by omega)
 have hk:=KK_gt (n:=1000) (by omega)
 have e0:Zv []=0:=rfl
 refine(Z7T KK y.2 _ _ [] (by omega) (by omega) (by omega) (by omega) (hc.re h1)).mono λr hr=>⟨hr.1,?_⟩
 have:=hr.2
 omega
theorem Z7N {code:List Int}{x0:Z3}{m:Int}(hm:m<=1000):∀(n:Nat) (t i a b:Int) (acc:List Int),m-i<(n:Int)->0<=i->i<=m->(acc.length:Int)=i->Cu code (x0.1,a,b)->Ok (ZT.l10 x0 n m t i a b acc) (λr=>Cu code r.1/\(r.2.1.length:Int)=m):=by
 intro n
 induction n with
 |zero=>intro t i a b acc h0 h1 h2;omega
 |succ n ih=>
  intro t i a b acc h0 h1 h2 ha hc
  rw[ZT.u10]
  refine Ok.ite (λh=> ?_) (λh=> ?_)
  ·have h:=of_decide_eq_true h
   refine(Yn hc 3).bind λy hy=>Ok.chk (QM (by omega)) ?_
   have e:IntKind.i64.wrap (i+(1:Int))=i+1:=w64 (by omega) (by omega)
   rw[e]
   exact ih _ (i+1) _ _ _ (by omega) (by omega) (by omega) (by rw[QQ];omega) (hc.re hy.1)
  ·have h:=of_decide_eq_false h
   exact(Yn hc m).bind λy hy=>Ok.ret ⟨hc.re hy.1,by show(acc.length:Int)=m;omega⟩
theorem QG {code:List Int}{c:Z3}(hc:Cu code c):Ok (ZT c) (λr=>Cu code r.1/\r.2.1.length<=3):=by
 unfold ZT
 refine(Yn hc 3).bind λy hy=>(Yn (hc.re hy.1) 4).bind λz hz=> ?_
 obtain⟨h1,h2,h3,_⟩:=hy
 have h3:=h3 (by omega)
 have e:IntKind.i64.wrap ((1:Int)+y.2)=1+y.2:=w64 (by omega) (by omega)
 rw[e]
 have hk:=KK_gt (n:=2000) (by omega)
 refine(Z7N (m:=1+y.2) (by omega) KK z.2 0 _ _ [] (by omega) (by omega) (by omega) rfl (hc.re hz.1)).mono λr hr=>⟨hr.1,?_⟩
 have:=hr.2
 omega
theorem Z4Z {code:List Int}{c:Z3}(hc:Cu code c):Ok (UF c) (λr=>Cu code r.1/\r.2.1.length<=4):=by
 unfold UF
 refine(QG hc).bind λy1 h1=>(Yn (hc.re h1.1) 10).bind λy2 h2=>Ok.ite (λ_=> ?_) λ_=>Ok.ite (λ_=> ?_) λ_=>Ok.ite (λ_=> ?_) λ_=> ?_
 ·exact(QO (hc.re h2.1) (by decide)).bind λy3 h3=>Ok.ret ⟨hc.re h3.1,Nat.le_succ_of_le h1.2⟩
 ·have one:Ok ((Xq (c.1,y2.1.2.1,y2.1.2.2) [(1:Int),(99:Int),(100:Int)]).bind λy4=>bif decide (y1.2.1.length+[y4.2].length<68719476736)then some ((c.1,y4.1.2.1,y4.1.2.2),y1.2.1++[y4.2],y1.2.2)else none) (λr=>Cu code r.1/\r.2.1.length<=4):=
   (QO (hc.re h2.1) (by decide)).bind λy3 h3=>Ok.chk (QM (Nat.le_trans h1.2 (by decide))) (Ok.ret ⟨hc.re h3.1,by show(y1.2.1++[y3.2]).length<=4;rw[QQ];have:=h1.2;omega⟩)
  simp only[both_eq]
  exact one
 ·exact Ok.ret ⟨hc.re h2.1,by show([]:List Int).length<=4;decide⟩
 ·exact Ok.ret ⟨hc.re h2.1,Nat.le_succ_of_le h1.2⟩
theorem Z7E {code:List Int}(hl:code.length<=1050000):∀(n i:Nat) (v:Int),code.length-i<n->i<=code.length->Ok (ZG.l6 code n v (i:Int)) (Cu code):=by
 intro n
 induction n with
 |zero=>intro i v h0;omega
 |succ n ih=>
  intro i v h0 h1
  rw[ZG.u6]
  have ret:∀v:Int,Ok (some ((code,(0:Int),v):Z3)) (Cu code):=λv=>Ok.ret ⟨rfl,Int.le_refl 0,by show(0:Int)<=_;omega,hl⟩
  refine Ok.ite (λh=>Ok.ite (λ_=> ?_) λ_=>ret v) λ_=>ret v
  have hlt:i<code.length:=by have:=of_decide_eq_true h;omega
  unfold ZG.l11
  refine Ok.chk (decide_eq_true (by omega)) (Ok.chk h ?_)
  rw[w64_succ (by omega)]
  exact ih (i+1) _ (by omega) (by omega)
theorem Z4U {code:List Int}(hl:code.length<=1050000):Ok (ZG code) (Cu code):=
 Z7E hl KK 0 _ (KK_gt (by omega)) (Nat.zero_le _)
def kB (h:Z5):Prop:=(Ze h).1.length<=4/\(Zd h).1.length<=4/\(Zf h).1.length<=4
theorem Z19 {h:Z5}(hk:kB h):ZP h<=12:=by
 obtain⟨h1,h2,h3⟩:=hk
 unfold ZP UD
 omega
def sB (s:Z4):Prop:=kB (Z9 s)/\(WD s).length<=8
theorem Z5j {s:Z4}(hs:sB s):Xj s<=20:=by
 have h1:=Z19 hs.1
 have h2:=hs.2
 unfold Xj
 omega
theorem Z3G {sk:List Int}{k:Za}{h:Z5}(hh:kB h)(hk:k.1.length<=4):sB (Z20 sk k h):=by
 have:=Z3I sk (WB h) k.1 []
 rw[List.length_nil,Nat.zero_add]at this
 exact⟨hh,by show(QT sk (WB h) k.1 []).length<=8;omega⟩
theorem Z3H {sk:List Int}{k:Za}{h:Z5}(hh:kB h)(hk:k.1.length<=4)(hs:sk.length<=4):Ok (X9 sk k h) sB:=
 Ok.of (Z1Z sk k h (by omega) (by omega) (Nat.le_trans (Z19 hh) (by decide))) (Z3G hh hk)
theorem Z4Q {code:List Int}{x0:Z3}{a b v1 v2 v25 v26:Int}{y1 y2 y4 y5 y6 y7:Z3×Int}{y8:Z3×List Int×Int}{l:List Int}(hc:Cu code (x0.1,v1,v2))(h8:y8.2.1.length<=3)(hl:l.length<=3):Ok (Y6.l13 x0 a b y1 y2 y4 y5 y6 y7 y8 v1 v2 v25 v26 l) (λr=>Cu code r.1/\kB r.2):=by
 refine(Z0T hc 2).bind λy h=>Ok.ite (λ_=> ?_) λ_=>Ok.ret ⟨hc.re h,Nat.le_succ_of_le h8,Nat.le_succ_of_le hl,Nat.zero_le _⟩
 exact(QG (hc.re h)).bind λz hz=>(Z0T (hc.re hz.1) 3).bind λu hu=>Ok.ret ⟨hc.re hu,Nat.le_succ_of_le h8,Nat.le_succ_of_le hl,Nat.le_succ_of_le hz.2⟩
theorem Z7z {code:List Int}{c:Z3}(hc:Cu code c):Ok (Y6 c) (λr=>Cu code r.1/\kB r.2):=by
 unfold Y6 Y6.b
 simp only[both_eq]
 refine(Yn hc 50).bind λy1 h1=>(Yn (hc.re h1.1) 4).bind λy2 h2=>(Yn (hc.re h2.1) 3).bind λy3 h3=>(Yn (hc.re h3.1) 40).bind λy4 h4=>(Yn (hc.re h4.1) 90).bind λy5 h5=>(Yn (hc.re h5.1) 9).bind λy6 h6=>(Yn (hc.re h6.1) 5).bind λy7 h7=>(QG (hc.re h7.1)).bind λy8 h8=>(Yn (hc.re h8.1) 60).bind λy9 h9=> ?_
 refine(Z0T (hc.re h9.1) 2).bind λy h=>Ok.ite (λ_=> ?_) λ_=>Z4Q (hc.re h) h8.2 (Nat.zero_le _)
 exact(QG (hc.re h)).bind λz hz=>(Yn (hc.re hz.1) 30).bind λu hu=>Z4Q (hc.re hu.1) h8.2 hz.2
theorem Z7y {code:List Int}{c:Z3}(hc:Cu code c):Ok (Q7 c) (λr=>Cu code r.1/\kB r.2):=by
 unfold Q7
 refine(Z7z hc).bind λy1 h1=>(Yn (hc.re h1.1) 14).bind λy2 h2=>Ok.ite (λ_=> ?_) λ_=>Ok.ite (λ_=> ?_) λ_=>Ok.ite (λ_=> ?_) λ_=>Ok.ite (λ_=> ?_) λ_=>Ok.ite (λ_=> ?_) λ_=>Ok.ite (λ_=> ?_) λ_=>Ok.ite (λ_=> ?_) λ_=> ?_
 ·exact(QO (hc.re h2.1) (by decide)).bind λy h=>Ok.ret ⟨hc.re h.1,h1.2⟩
 ·exact(QO (hc.re h2.1) (by decide)).bind λy h=>Ok.ret ⟨hc.re h.1,h1.2⟩
 ·exact(QO (hc.re h2.1) (by decide)).bind λy h=>Ok.ret ⟨hc.re h.1,h1.2⟩
 ·exact(Z4Z (hc.re h2.1)).bind λy h=>Ok.ret ⟨hc.re h.1,h.2,h1.2.2.1,h1.2.2.2⟩
 ·exact(QO (hc.re h2.1) (by decide)).bind λy h=>Ok.ret ⟨hc.re h.1,h1.2⟩
 ·exact Ok.ret ⟨hc.re h2.1,h1.2⟩
 ·exact(Z4Z (hc.re h2.1)).bind λy h=>Ok.ret ⟨hc.re h.1,h1.2.1,h1.2.2.1,h.2⟩
 ·exact Ok.ret ⟨hc.re h2.1,h1.2⟩
theorem Z7L {code:List Int}{x0:Z3}:∀(n:Nat) (v a b:Int) (acc:List Int),v<(n:Int)->0<=v->v<=1000->acc.length+v.toNat<=1000->Cu code (x0.1,a,b)->Ok (YP.l6 x0 n v a b acc) (λr=>Cu code r.1/\r.2.length<=acc.length+v.toNat):=by
 intro n
 induction n with
 |zero=>intro v a b acc h0 h1;omega
 |succ n ih=>
  intro v a b acc h0 h1 h2 ha hc
  rw[YP.u6]
  refine Ok.ite (λh=> ?_) (λh=>Ok.ret ⟨hc,by show acc.length<=_;omega⟩)
  have h:=ge0 h
  refine(Yn hc 9).bind λy hy=>Ok.chk (QM (by omega)) ?_
  rw[Z1U h h2]
  refine(ih (v-1) _ _ _ (by omega) (by omega) (by omega) (by rw[QQ];omega) (hc.re hy.1)).mono λr hr=>⟨hr.1,?_⟩
  have:=hr.2
  rw[QQ]at this
  omega
theorem Z7M {code:List Int}{c:Z3}(hc:Cu code c):Ok (YP c) (λr=>Cu code r.1/\r.2.length<=6):=by
 unfold YP
 refine(Yn hc 6).bind λy hy=> ?_
 obtain⟨h1,h2,h3,_⟩:=hy
 have h3:=h3 (by omega)
 have hk:=KK_gt (n:=1000) (by omega)
 refine(Z7L KK y.2 _ _ [] (by omega) (by omega) (by omega) (by show 0+_<=_;omega) (hc.re h1)).mono λr hr=>⟨hr.1,?_⟩
 have:r.2.length<=0+y.2.toNat:=hr.2
 omega
theorem Z5I {α:Type}(xs:List α)(i:Nat)(f:α->α):(V.upd xs i f).length=xs.length:=by
 induction xs generalizing i with
 |nil=>rfl
 |cons x xs ih=>
  cases i with
  |zero=>rfl
  |succ i=>show(V.upd xs i f).length+1=xs.length+1;rw[ih]
theorem Z7O {code:List Int}{x0:Z3}{v1 v2:Int}{s:List Z7}(hc:Cu code (x0.1,v1,v2))(hs:s.length<=4):Ok (Xa.l5 x0 v1 v2 s) (λr=>Cu code r.1/\r.2.length<=8):=by
 refine(Yn hc 6).bind λy3 h3=>Ok.ite (λ_=> ?_) λ_=>Ok.ite (λ_=> ?_) λ_=>Ok.ite (λ_=> ?_) λ_=> ?_
 ·exact(QO (hc.re h3.1) (by decide)).bind λy4 h4=>(Yn (hc.re h4.1) 9).bind λy5 h5=>Ok.chk (QM (by omega)) (Ok.ret ⟨hc.re h5.1,by show(s++[_]).length<=8;rw[QQ];omega⟩)
 ·exact Ok.chk (decide_eq_true (by omega)) (Ok.ret ⟨hc.re h3.1,by show(s++s).length<=8;rw[List.length_append];omega⟩)
 ·refine Ok.ite (λh=> ?_) λ_=>Ok.ret ⟨hc.re h3.1,by show s.length<=8;omega⟩
  exact Ok.chk (by decide) (Ok.chk h (Ok.chk (by decide) (Ok.chk h (Ok.ret ⟨hc.re h3.1,by show(V.upd s _ _).length<=8;rw[Z5I];omega⟩))))
 ·exact Ok.ret ⟨hc.re h3.1,by show s.length<=8;omega⟩
theorem Z7P {code:List Int}{c:Z3}(hc:Cu code c){k:Za}{m:List Int}(hk:k.1.length<=4)(hm:m.length<=8388608):Ok (Xa c k m) (λr=>Cu code r.1/\r.2.length<=8):=by
 unfold Xa Xa.b
 simp only[both_eq]
 refine(Z7M hc).bind λy hy=>Ok.bind (P:=λs=>s.length<=4) ?_ λs hs=>Z7O (hc.re hy.1) hs
 have hl:=hy.2
 refine Ok.of (Z5u y.2 k m (by omega) (by omega) hm) ?_
 have:=Z3I y.2 m k.1 []
 rw[List.length_nil,Nat.zero_add]at this
 omega
theorem Z3o {code:List Int}{x0:Z3}{v18 v19 v20 v21 v22 v23 v24 v25 v26 v1 v2 v27 v28 v29:Int}{b:Bool}{l1 l2 l3:List Int}{y1:Z3×List Int×Int}(hc:Cu code (x0.1,v1,v2))(h1:y1.2.1.length<=3)(hl1:l1.length<=4)(hl2:l2.length<=4)(hl3:l3.length<=4):Ok (ZV.l25 x0 v18 v19 v20 v21 v22 v23 v24 v25 v26 b l1 y1 v1 v2 v27 v28 v29 l2 l3) (λr=>Cu code r.1/\sB r.2):=by
 refine(Z3H ?_ ?_ ?_).bind λy hy=>Ok.ret ⟨hc,hy⟩
 ·exact⟨hl1,hl2,hl3⟩
 ·exact Nat.le_succ_of_le h1
 ·exact Nat.le_succ_of_le h1
theorem Z6z {k:Za}{s:Int}{xs:List Z0}{now term:Int}(hk:k.1.length<=3):kB (Z6 (Z16 k s xs now term)):=by
 unfold Z16
 cases Z0l k s xs now term with
 |true=>exact⟨Nat.le_succ_of_le hk,Nat.zero_le _,Nat.zero_le _⟩
 |false=>exact⟨Nat.zero_le _,Nat.zero_le _,Nat.zero_le _⟩
theorem Z4S {code:List Int}{c:Z3}(hc:Cu code c):Ok (ZV c) (λr=>Cu code r.1/\sB r.2):=by
 unfold ZV ZV.b
 simp only[both_eq]
 refine(QG hc).bind λy1 h1=>(Yn (hc.re h1.1) 9).bind λy2 h2=>(Z1Q (hc.re h2.1)).bind λy3 h3=>(Yn (hc.re h3.1) 40).bind λy4 h4=>(Yn (hc.re h4.1) 60).bind λy5 h5=>Ok.bind (P:=λy=>kB (Z6 y)) ?_ λy6 h6=> ?_
 ·have hx:=h3.2
  have hk:=h1.2
  exact Ok.of (Z5l y1.2 y2.2 y3.2 y4.2 y5.2 (by show y1.2.1.length<=_;omega) (by omega)) (Z6z h1.2)
 ·refine(Yn (hc.re h5.1) 4).bind λy7 h7=>Ok.ite (λ_=> ?_) λ_=>Ok.ite (λ_=> ?_) λ_=>Z3o (hc.re h7.1) h1.2 h6.1 h6.2.1 h6.2.2
  ·exact(QG (hc.re h7.1)).bind λy8 h8=>(Yn (hc.re h8.1) 30).bind λy9 h9=>Z3o (hc.re h9.1) h1.2 h6.1 (Nat.le_succ_of_le h8.2) h6.2.2
  ·exact(QG (hc.re h7.1)).bind λy8 h8=>Z3o (hc.re h8.1) h1.2 h6.1 h6.2.1 (Nat.le_succ_of_le h8.2)
theorem Z7A {code:List Int}{c:Z3}(hc:Cu code c):Ok (Q8 c) (λr=>Cu code r.1/\sB r.2):=by
 unfold Q8
 refine(Z4S hc).bind λy1 h1=>(Yn (hc.re h1.1) 8).bind λy2 h2=>Ok.ite (λ_=> ?_) λ_=>Ok.ite (λ_=> ?_) λ_=>Ok.ite (λ_=> ?_) λ_=> ?_
 ·exact(Z7y (hc.re h2.1)).bind λy3 h3=>Ok.ret ⟨hc.re h3.1,h3.2,h1.2.2⟩
 ·refine Ok.bind (P:=λm=>m.length<=8388608) ?_ λm hm=>(Z7P (hc.re h2.1) (show _<=4 from h1.2.1.1) hm).bind λy5 h5=>Ok.ret ⟨hc.re h5.1,h1.2.1,h5.2⟩
  have hz:=Z19 h1.2.1
  have hm:(WB (Z9 y1.2)).length<=8388608:=by rw[Z0H];omega
  exact Ok.of (Z1W _ (Nat.le_trans hz (by decide))) hm
 ·refine(Z3H ?_ ?_ ?_).bind λy6 h6=>Ok.ret ⟨hc.re h2.1,h6⟩
  ·exact h1.2.1
  ·exact h1.2.1.1
  ·exact h1.2.1.1
 ·exact Ok.ret ⟨hc.re h2.1,h1.2⟩
theorem Z0S {code:List Int}{x0:Z3}{a b v1 v2 v18 v19 v20 v21 v22 v24 v25 v26 v27 v33:Int}{h:Z5}{f:Bool}{l1 l2 l3 l4:List Int}(hc:Cu code (x0.1,v1,v2))(h1:l1.length<=4)(h2:l2.length<=4)(h3:l3.length<=4)(h4:l4.length<=4):Ok (Zc.l63 x0 a h b v1 v2 v18 v19 v20 v21 v22 v24 v25 v26 v27 f l1 l2 l3 l4 v33) (λr=>Cu code r.1/\sB r.2):=by
 refine(Z3H ?_ ?_ ?_).bind λy hy=>Ok.ret ⟨hc,hy⟩
 ·exact⟨h1,h2,h3⟩
 ·exact h4
 ·exact h4
theorem Z87 {code:List Int}{x0:Z3}{x1 y1:Z5}{a b v1 v2 v35 v36:Int}(hc:Cu code (x0.1,v1,v2))(hx:kB x1)(hy:kB y1):Ok (Zc.l27 x0 x1 a v35 y1 b v1 v2 v36) (λr=>Cu code r.1/\sB r.2):=by
 refine Ok.bind (P:=λk=>k=Zd x1) (Ok.of (Z1P _ (by have:=hx.2.1;omega)) rfl) λk hk=> ?_
 subst hk
 exact Z0S hc hx.2.1 hy.2.1 hy.2.2 hx.2.1
theorem Z86 {code:List Int}{x0:Z3}{x1 y1:Z5}{a b v1 v2 v35 v36:Int}(hc:Cu code (x0.1,v1,v2))(hx:kB x1)(hy:kB y1):Ok (Zc.l25 x0 x1 a v36 y1 b v1 v2 v35) (λr=>Cu code r.1/\sB r.2):=by
 unfold Zc.l25 Zc.g25
 simp only[both_eq]
 exact(Yn hc 60).bind λy h=>Z87 (hc.re h.1) hx hy
theorem Z5a {code:List Int}{x0:Z3}{x1 y1:Z5}{a b v1 v2 v35 v36:Int}{f g:Bool}(hc:Cu code (x0.1,v1,v2))(hx:kB x1)(hy:kB y1):Ok (Zc.l41 x0 x1 a v35 v36 y1 b f v1 v2 g) (λr=>Cu code r.1/\sB r.2):=
 Ok.ite (λ_=>(QG hc).bind λy h=>Z0S (hc.re h.1) (Nat.le_succ_of_le h.2) hy.2.1 hy.2.2 hx.2.2) λ_=>Z0S hc hy.1 hy.2.1 hy.2.2 hx.2.2
theorem Z85 {code:List Int}{x0:Z3}{x1 y1:Z5}{a b v1 v2 v35 v36:Int}(hc:Cu code (x0.1,v1,v2))(hx:kB x1)(hy:kB y1):Ok (Zc.l13 x0 x1 a v35 y1 b v1 v2 v36) (λr=>Cu code r.1/\sB r.2):=by
 unfold Zc.l13 Zc.g13
 simp only[both_eq]
 refine(Yn hc 6).bind λy5 h5=>Ok.ite (λ_=> ?_) λ_=>Ok.ite (λ_=>Ok.ite (λ_=> ?_) λ_=> ?_) λ_=>Ok.ite (λ_=> ?_) λ_=>Ok.ite (λ_=> ?_) λ_=>Ok.ite (λ_=> ?_) λ_=> ?_
 ·exact(Yn (hc.re h5.1) 3).bind λy h=>Z86 (hc.re h.1) hx hy
 ·exact(Z0T (hc.re h5.1) 2).bind λy h=>Z5a (hc.re h) hx hy
 ·exact Z5a (hc.re h5.1) hx hy
 ·exact(QG (hc.re h5.1)).bind λy h=>Z0S (hc.re h.1) (Nat.le_succ_of_le h.2) hy.2.1 hy.2.2 hx.1
 ·refine(Z1Q (hc.re h5.1)).bind λy h=>Ok.bind (P:=λ_=>True) (Ok.of (Z1Y _ (by have:=h.2;omega)) trivial) λz _=>Z0S (hc.re h.1) hy.1 hy.2.1 hy.2.2 hx.1
 ·exact(QG (hc.re h5.1)).bind λy h=>(Yn (hc.re h.1) 20).bind λz hz=>(QG (hc.re hz.1)).bind λu hu=>Z0S (hc.re hu.1) hy.1 (Nat.le_succ_of_le h.2) (Nat.le_succ_of_le hu.2) hx.1
 ·exact Z0S (hc.re h5.1) hy.1 hy.2.1 hy.2.2 hx.1
theorem Z5b {code:List Int}{c:Z3}(hc:Cu code c){p:Z5}(hp:kB p):Ok (Zc c p) (λr=>Cu code r.1/\sB r.2):=by
 have hz:=Z19 hp
 unfold Zc Zc.b
 simp only[both_eq]
 refine Ok.bind (P:=λh=>h=p) (Ok.of (Z1L p (by omega)) rfl) λh hh=> ?_
 subst hh
 refine Ok.bind (P:=λ_=>True) (Ok.of (Z3B h (by omega)) trivial) λd _=>(Yn hc 40).bind λy3 h3=> ?_
 unfold Zc.l11 Zc.g11
 simp only[both_eq]
 exact(Yn (hc.re h3.1) 60).bind λy4 h4=>Z85 (hc.re h4.1) hp hp
def lB (xs:List Z4):Prop:=∀s∈xs,sB s
theorem Z2v :∀{xs:List Z4},lB xs->YG xs<=21*xs.length
 |[],_=>Nat.le_refl _
 |s::xs,h=>by
  have ih:=Z2v (xs:=xs) λt ht=>h t (List.mem_cons_of_mem _ ht)
  have hs:=Z5j (h s (List.mem_cons_self ..))
  unfold YG X2 at ih⊢
  simp only[List.map_cons,List.sum_cons,List.length_cons]
  omega
theorem Z3q {xs:List Z4}{s:Z4}(h:lB xs)(hs:sB s):lB (xs++[s]):=by
 intro t ht
 rcases List.mem_append.1 ht with ht|ht
 ·exact h t ht
 ·rw[List.mem_singleton.1 ht];exact hs
theorem Z2Z (xs:List Z4)(s:Z4):(ext xs s).1=xs∨(ext xs s).1=xs++[s]:=by
 unfold ext Z1z
 cases(!XY xs||decide ((xs.length:Int)>=(12:Int)))with
 |true=>exact .inl rfl
 |false=>
  cases Qv (Z9 (Uo xs)) s !=(1:Int)with
  |true=>exact .inl rfl
  |false=>exact .inr rfl
theorem Z6w {xs:List Z4}{s:Z4}(h:lB xs)(hs:sB s):lB (ext xs s).1/\xs.length<=(ext xs s).1.length/\(ext xs s).1.length<=xs.length+1:=by
 rcases Z2Z xs s with e|e<;>rw[e]
 ·exact⟨h,Nat.le_refl _,Nat.le_succ _⟩
 ·exact⟨Z3q h hs,by rw[QQ];omega,by rw[QQ];omega⟩
theorem Z6n :sB Xo:=⟨⟨Nat.zero_le _,Nat.zero_le _,Nat.zero_le _⟩,Nat.zero_le _⟩
theorem Z3r {xs:List Z4}(h:lB xs)(i:Nat):sB (xs.getD i Xo):=by
 by_cases hi:i<xs.length
 ·rw[at_n hi];exact h _ (List.getElem_mem _)
 ·have e:xs.getD i Xo=Xo:=by simp[List.getD,show xs.length<=i by omega]
  rw[e];exact Z6n
theorem Z7C {code:List Int}{x0:Z3}:∀(n:Nat) (v a b:Int) (xs:List Z4),v<(n:Int)->0<=v->v<=1000->1<=xs.length->xs.length+v.toNat<=1000->lB xs->Cu code (x0.1,a,b)->Ok (YO.l6 x0 n v a b xs) (λr=>Cu code r.1/\lB r.2/\1<=r.2.length/\r.2.length<=xs.length+v.toNat):=by
 intro n
 induction n with
 |zero=>intro v a b xs h0 h1;omega
 |succ n ih=>
  intro v a b xs h0 h1 h2 hx ha hl hc
  rw[YO.u6]
  refine Ok.ite (λh=> ?_) (λh=>Ok.ret ⟨hc,hl,hx,by show xs.length<=_;omega⟩)
  have h:=ge0 h
  have e:IntKind.i64.wrap ((xs.length:Int)-(1:Int))=(xs.length:Int)-1:=w64 (by omega) (by omega)
  rw[e]
  refine Ok.chk (decide_eq_true (by omega)) (Ok.chk (decide_eq_true (by omega)) ?_)
  refine(Z5b hc (Z3r hl _).1).bind λy hy=>Ok.bind (P:=λz=>z=ext xs y.2) (Ok.of (Z5k xs y.2 ?_ ?_) rfl) λz hz=> ?_
  ·have:=Z2v hl;omega
  ·have:=Z5j hy.2;omega
  ·subst hz
   rw[Z1U h h2]
   obtain⟨k1,k2,k3⟩:=Z6w hl hy.2
   refine(ih (v-1) _ _ (ext xs y.2).1 (by omega) (by omega) (by omega) (by omega) (by omega) k1 (hc.re hy.1)).mono λr hr=>⟨hr.1,hr.2.1,hr.2.2.1,?_⟩
   have:=hr.2.2.2
   omega
theorem Z7D {code:List Int}{c:Z3}(hc:Cu code c):Ok (YO c) (λr=>Cu code r.1/\lB r.2/\1<=r.2.length/\r.2.length<=5):=by
 unfold YO
 refine(Z4S hc).bind λy1 h1=>(Yn (hc.re h1.1) 5).bind λy hy=> ?_
 obtain⟨k1,k2,k3,_⟩:=hy
 have k3:=k3 (by omega)
 have hk:=KK_gt (n:=1000) (by omega)
 refine(Z7C KK y.2 _ _ [y1.2] (by omega) (by omega) (by omega) (Nat.le_refl 1) (by show 1+_<=_;omega) (λs hs=>by rw[List.mem_singleton.1 hs];exact h1.2) (hc.re k1)).mono λr hr=>⟨hr.1,hr.2.1,hr.2.2.1,?_⟩
 have:r.2.length<=1+y.2.toNat:=hr.2.2.2
 omega
theorem Z7U {xs:List Z4}(h:lB xs)(f:Z4->Z4)(hf:∀s,sB s->sB (f s))(i:Nat):lB (V.upd xs i f):=by
 induction xs generalizing i with
 |nil=>exact h
 |cons x xs ih=>
  cases i with
  |zero=>
   intro s hs
   rcases List.mem_cons.1 (show s∈f x::xs from hs)with rfl|hs
   ·exact hf x (h x (List.mem_cons_self ..))
   ·exact h s (List.mem_cons_of_mem _ hs)
  |succ i=>
   intro s hs
   rcases List.mem_cons.1 (show s∈x::V.upd xs i f from hs)with rfl|hs
   ·exact h s (List.mem_cons_self ..)
   ·exact ih (λt ht=>h t (List.mem_cons_of_mem _ ht)) i s hs
theorem Z7B {code:List Int}{c:Z3}(hc:Cu code c):Ok (Q9 c) (λr=>Cu code r.1/\lB r.2/\r.2.length<=6):=by
 unfold Q9
 refine(Z7D hc).bind λy1 h1=>(Yn (hc.re h1.1) 10).bind λy2 h2=> ?_
 obtain⟨_,hl,k1,k2⟩:=h1
 have e:IntKind.i64.wrap ((y1.2.length:Int)-(1:Int))=(y1.2.length:Int)-1:=w64 (by omega) (by omega)
 refine Ok.ite (λ_=> ?_) λ_=>Ok.ite (λ_=> ?_) λ_=>Ok.ite (λ_=> ?_) λ_=>Ok.ite (λ_=> ?_) λ_=> ?_
 ·rw[e]
  exact Ok.chk (by decide) (Ok.chk (decide_eq_true (by omega)) (Ok.chk (decide_eq_true (by omega)) (Ok.ret ⟨hc.re h2.1,λs hs=>hl s (List.mem_of_mem_take hs),by show(y1.2.take _).length<=6;rw[List.length_take];omega⟩)))
 ·exact(Z7A (hc.re h2.1)).bind λy3 h3=>Ok.chk (QM (by omega)) (Ok.ret ⟨hc.re h3.1,Z3q hl h3.2,by show(y1.2++[y3.2]).length<=6;rw[QQ];omega⟩)
 ·have hp:decide ((0:Int)<(y1.2.length:Int))=true:=decide_eq_true (by omega)
  exact Ok.chk (by decide) (Ok.chk hp (Ok.chk (by decide) (Ok.chk hp (Ok.ret ⟨hc.re h2.1,by refine Z7U hl _ ?_ _;intro s hs;exact hs,by show(V.upd y1.2 _ _).length<=6;rw[Z5I];omega⟩))))
 ·exact Ok.chk (by decide) (Ok.chk (decide_eq_true (by omega)) (Ok.chk (decide_eq_true (by omega)) (Ok.ret ⟨hc.re h2.1,λs hs=>hl s (List.mem_of_mem_drop hs),by show(y1.2.drop _).length<=6;rw[List.length_drop];omega⟩)))
 ·exact Ok.ret ⟨hc.re h2.1,hl,by show y1.2.length<=6;omega⟩
theorem Z1O {code:List Int}{c:Z3}(hc:Cu code c):Ok (Wj c) (λr=>Cu code r.1/\r.2.size<=9):=by
 unfold Wj
 refine(Z0T hc 4).bind λy1 h1=>Ok.ite (λ_=> ?_) λ_=> ?_
 ·exact(Z5A (n:=9) (hc.re h1) (by decide) (by decide)).bind λy2 h2=>Ok.ret ⟨hc.re h2.1,h2.2⟩
 ·exact(Z2t (hc.re h1)).bind λy2 h2=>Ok.ret ⟨hc.re h2.1,h2.2⟩
theorem Z9q {α:Type}(f:α->Nat)(xs:List α)(x y:α):X2 f (xs++[x,y])=X2 f xs+2+f x+f y:=by
 unfold X2
 simp only[List.length_append,List.map_append,List.sum_append,List.map_cons,List.map_nil,List.sum_cons,List.sum_nil,List.length_cons,List.length_nil]
 omega
theorem Z7H {code:List Int}{c:Z3}(hc:Cu code c):Ok (Qb c) (λr=>Cu code r.1/\Xp r.2<=50):=by
 unfold Qb
 refine(Z4Y hc).bind λy1 h1=>(Yn (hc.re h1.1) 8).bind λy2 h2=>Ok.ite (λ_=> ?_) λ_=>Ok.ite (λ_=> ?_) λ_=> ?_
 ·refine(Z1O (hc.re h2.1)).bind λy3 h3=>(Z1O (hc.re h3.1)).bind λy4 h4=> ?_
  have hl:y1.2.length<=Xp y1.2:=Z1m Wh y1.2
  have h1:=h1.2
  refine Ok.chk (decide_eq_true (by show y1.2.length+2<_;omega)) (Ok.ret ⟨hc.re h4.1,?_⟩)
  have e:Xp (y1.2++[y3.2,y4.2])=Xp y1.2+2+Wh y3.2+Wh y4.2:=Z9q _ _ _ _
  have e3:Wh y3.2<=9:=h3.2
  have e4:Wh y4.2<=9:=h4.2
  show Xp (y1.2++[y3.2,y4.2])<=50
  omega
 ·exact Ok.ret ⟨hc.re h2.1,by show Xp []<=50;decide⟩
 ·exact Ok.ret ⟨hc.re h2.1,Nat.le_trans h1.2 (by decide)⟩
theorem Z7Q {code:List Int}{c:Z3}(hc:Cu code c):Ok (Qc c) (λr=>Cu code r.1/\ZD r.2<=89):=by
 unfold Qc
 refine(Z50 hc).bind λy1 h1=>(Yn (hc.re h1.1) 10).bind λy2 h2=> ?_
 have hz:Wh y1.2.1+Xp y1.2.2.2.2<=39:=h1.2
 refine Ok.ite (λ_=> ?_) λ_=>Ok.ite (λ_=> ?_) λ_=>Ok.ite (λ_=> ?_) λ_=>Ok.ite (λ_=> ?_) λ_=> ?_
 ·exact(QO (hc.re h2.1) (by decide)).bind λy h=>Ok.ret ⟨hc.re h.1,Nat.le_trans hz (by decide)⟩
 ·exact(QO (hc.re h2.1) (by decide)).bind λy h=>Ok.ret ⟨hc.re h.1,Nat.le_trans hz (by decide)⟩
 ·refine(Z1O (hc.re h2.1)).bind λy h=>Ok.ret ⟨hc.re h.1,?_⟩
  have h3:Wh y.2<=9:=h.2
  show Wh y.2+Xp y1.2.2.2.2<=89
  omega
 ·refine(Z7H (hc.re h2.1)).bind λy h=>Ok.ret ⟨hc.re h.1,?_⟩
  have h3:=h.2
  show Wh y1.2.1+Xp y.2<=89
  omega
 ·exact Ok.ret ⟨hc.re h2.1,Nat.le_trans hz (by decide)⟩
theorem Z7R {code:List Int}{x0:Z3}{y2:Z3×Int}(hc:Cu code (x0.1,y2.1.2.1,y2.1.2.2))(ss:List ByteArray)(hs:∀s∈ss,s.size<=1)(hl:ss.length<=12):∀(n i:Nat) (acc:List Z0),ss.length-i<n->i<=ss.length->Zv acc<=240+2*i->
 Ok (YQ.l14 x0 y2 n (ss.length:Int) (i:Int) acc ss) (λr=>Cu code r.1/\Zv r.2<=330):=by
 intro n
 induction n with
 |zero=>intro i acc h0;omega
 |succ n ih=>
  intro i acc h0 h1 h2
  rw[YQ.u14]
  refine Ok.ite (λh=> ?_) λ_=>Ok.ret ⟨hc,by show Zv acc<=330;omega⟩
  have hi:i<ss.length:=by have:=of_decide_eq_true h;omega
  refine Ok.chk (decide_eq_true (by omega)) (Ok.chk h ?_)
  rw[Int.toNat_natCast,at_n hi,w64_succ (by omega)]
  have hq:Wh ss[i]<=1:=hs _ (List.getElem_mem hi)
  refine Ok.bind (P:=λe=>ZD e<=1) (Ok.ret hq) λe he=>(Z5f acc e (by omega)).bind λz hz=> ?_
  exact ih (i+1) _ (by omega) (by omega) (by omega)
theorem Z7S {code:List Int}{c:Z3}(hc:Cu code c):Ok (YQ c) (λr=>Cu code r.1/\Zv r.2<=330):=by
 unfold YQ
 refine(Z1Q hc).bind λy1 h1=>(Yn (hc.re h1.1) 10).bind λy2 h2=>Ok.ite (λ_=> ?_) λ_=>Ok.ite (λ_=> ?_) λ_=> ?_
 ·refine(Z7Q (hc.re h2.1)).bind λy3 h3=> ?_
  have hl:y1.2.length<=Zv y1.2:=Z1m ZD y1.2
  have h1:=h1.2
  refine Ok.chk (QM (by omega)) (Ok.ret ⟨hc.re h3.1,?_⟩)
  have e:Zv (y1.2++[y3.2])=Zv y1.2+1+ZD y3.2:=Z22 _ _ _
  have h3:=h3.2
  show Zv (y1.2++[y3.2])<=330
  omega
 ·have hk:=KK_gt (n:=100) (by omega)
  refine Z7R (hc.re h2.1) _ ?_ (by decide) KK 0 y1.2 (Nat.lt_of_le_of_lt (by decide) hk) (Nat.zero_le _) h1.2
  intro s hs
  exact of_decide_eq_true (List.all_eq_true.1 (by decide:([(⟨#[99]⟩:ByteArray),(⟨#[100]⟩:ByteArray),(⟨#[101]⟩:ByteArray),(⟨#[102]⟩:ByteArray),(⟨#[103]⟩:ByteArray),(⟨#[104]⟩:ByteArray),(⟨#[105]⟩:ByteArray),(⟨#[106]⟩:ByteArray),(⟨#[107]⟩:ByteArray),(⟨#[108]⟩:ByteArray),(⟨#[109]⟩:ByteArray),(⟨#[110]⟩:ByteArray)].all λs=>decide (s.size<=1))=true) s hs)
 ·exact Ok.ret ⟨hc.re h2.1,Nat.le_trans h1.2 (by decide)⟩
def zB (n m:Nat)(z:Zm):Prop:=lB z.1/\z.1.length<=n/\Zv z.2<=m
theorem Z2J {n m:Nat}{z:Zm}(h:zB n m z):U7 z<=21*n+m:=by
 have h1:=Z2v h.1
 have h2:=h.2.1
 have h3:=h.2.2
 unfold U7
 omega
theorem Z9t {n m:Nat}{z:Zm}(h:zB n m z):YG z.1<=21*n:=by
 have h1:=Z2v h.1
 have h2:=h.2.1
 omega
theorem Z7W {xs:List Z4}(h:lB xs):kB (Z6 (Ql xs)):=by
 unfold Ql
 cases XY xs with
 |true=>rw[cond_t,(Z27 _ _).1];exact(Z3r h _).1
 |false=>exact⟨Nat.zero_le _,Nat.zero_le _,Nat.zero_le _⟩
theorem Z7t {h p:Z5}(hp:kB p)(e1:Ze h=Ze p)(e2:Zd h=Zd p)(e3:Zf h=Zf p):kB h:=by
 unfold kB
 rw[e1,e2,e3]
 exact hp
theorem Z88 (p:Z5)(k a b:Int):Ze (Wl p k a b)=Ze p/\Zd (Wl p k a b)=Zd p/\Zf (Wl p k a b)=Zf p:=by
 unfold Wl nhD
 generalize Z09 p=d
 generalize IntKind.i64.wrap (Yk p+1)=e
 generalize IntKind.i64.wrap (a+b)=u
 exact⟨rfl,rfl,rfl⟩
theorem Z96 (h:Z5)(n r:Int):Ze (setC h n r)=Ze h/\Zd (setC h n r)=Zd h/\Zf (setC h n r)=Zf h:=⟨rfl,rfl,rfl⟩
theorem Z6c {p:Z5}{xs:List Z0}{a b:Int}(h:kB p):kB (Z6 (Z2c p xs a b)):=by
 unfold Z2c
 cases(W1 xs&&(QH p a b&&(X8 (Wl p 1 a b)&&X8 (QS xs (Wl p 1 a b)))))with
 |false=>exact⟨Nat.zero_le _,Nat.zero_le _,Nat.zero_le _⟩
 |true=>
  obtain⟨e1,e2,e3⟩:=Z88 p 1 a b
  rw[cond_t,(Z27 _ _).1]
  unfold QS
  obtain⟨f1,f2,f3⟩:=Z96 (Wl p 1 a b) (xs.length:Int) (Ur xs)
  exact Z7t h (f1.trans e1) (f2.trans e2) (f3.trans e3)
theorem Z9d {p h:Z5}{held:List Int}(hp:kB p)(hh:kB h):sB (Qx p h held):=by
 refine Z3G hh ?_
 unfold Z1k
 cases(Yd h==(2:Int))with
 |true=>exact hp.2.1
 |false=>
  cases(Yd h==(3:Int))with
  |true=>exact hp.2.2
  |false=>exact hp.1
theorem Z8l {z:Zm}{held:List Int}{h:Z5}{xs:List Z0}{n m:Nat}(hz:zB n m z)(hh:kB h)(hx:Zv xs<=m):zB (n+1) m (Z11 (Z2C z held h xs)):=by
 have keep:zB (n+1) m z:=⟨hz.1,Nat.le_succ_of_le hz.2.1,hz.2.2⟩
 unfold Z2C
 cases W2 z with
 |false=>exact keep
 |true=>
  cases(Uq z held h).2 !=(1:Int)with
  |true=>exact keep
  |false=>
   cases W2 ((Uq z held h).1,xs)with
   |false=>exact keep
   |true=>
    show zB (n+1) m ((Uq z held h).1,xs)
    refine⟨?_,?_,hx⟩
    ·show lB (Uq z held h).1
     unfold Uq
     rcases Z2Z z.1 (Qx (Yg z) h held)with e|e<;>rw[e]
     ·exact hz.1
     ·exact Z3q hz.1 (Z9d (Z3r hz.1 _).1 hh)
    ·show(Uq z held h).1.length<=_
     have:=hz.2.1
     unfold Uq
     rcases Z2Z z.1 (Qx (Yg z) h held)with e|e<;>rw[e]
     ·omega
     ·rw[QQ];omega
theorem Z4x {code:List Int}{x0:Z3}{z:Zm}{y1:ZQ}{xs:List Z0}{a b v22 v23 v24 v25 v26 v27 v28 v29 v31 v33 v34 v36:Int}{l1 l2 l3:List Int}{f:Bool}{n m:Nat}(hm0:240<=m)(hm:m<=1000)(hc:Cu code (x0.1,a,b))(hz:zB n m z)(hn:n<=20)(hx:Zv xs<=m)(hy:kB (Z6 y1))(h1:l1.length<=4)(h2:l2.length<=4)(h3:l3.length<=4):
 Ok (Zw.l25 x0 z y1 xs a b v22 v23 v24 v25 v26 v27 v28 v29 l1 v31 l2 v33 v34 l3 v36 f) (λr=>Cu code r.1/\zB (n+1) m r.2):=by
 obtain⟨k1,k2,k3⟩:=hy
 unfold Zw.l25 Zw.g25
 simp only[both_eq]
 refine Ok.chk (decide_eq_true ?_) (Ok.chk (decide_eq_true ?_) (Ok.chk (decide_eq_true ?_) ?_))
 ·rw[List.length_nil];omega
 ·rw[List.nil_append];omega
 ·rw[List.nil_append,List.length_append];omega
 ·have hs:=Z2J hz
  have hh:kB (Wa v22 v23 v24 v25 v26 v27 v28 v29 (l1,v31) (l2,v33) v34 (l3,v36) f):=⟨h1,h2,h3⟩
  have hh2:=Z19 hh
  have hl:((([]++(Ze (Z6 y1)).1)++(Zd (Z6 y1)).1)++(Zf (Z6 y1)).1).length<=1050000:=by
   rw[List.nil_append,List.length_append,List.length_append];omega
  refine Ok.bind (Ok.of (Z8X z _ _ xs (by omega) hl) (Z8l hz hh hx)) λy hy=>Ok.ret ⟨hc,hy⟩
theorem Z6E {code:List Int}{x0:Z3}{z:Zm}{y1:ZQ}{y2:Z3×Z4}{y4:Z3×List Z0}{n m:Nat}(hm0:240<=m)(hm:m<=1000)(hc:Cu code (x0.1,y4.1.2.1,y4.1.2.2))(hz:zB n m z)(hn:n<=20)(hx:Zv y4.2<=m)(hy:kB (Z6 y1)):
 Ok (Zw.l19 x0 z y1 y2 y4) (λr=>Cu code r.1/\zB (n+1) m r.2):=by
 unfold Zw.l19 Zw.g19
 simp only[both_eq]
 have hs:=Z19 hy
 refine(Yn hc 30).bind λy5 h5=>(Yn (hc.re h5.1) 100).bind λy6 h6=>Ok.bind (P:=λy=>kB (Z6 y)) (Ok.of (Z8t _ _ _ _ (by omega) (by omega)) (Z6c hy)) λy7 h7=> ?_
 exact Z4x hm0 hm (hc.re h6.1) hz hn hx hy h7.1 h7.2.1 h7.2.2
theorem Z6F {code:List Int}{c:Z3}{z:Zm}{n m:Nat}(hm0:240<=m)(hm:m<=1000)(hc:Cu code c)(hz:zB n m z)(hn:n<=20):Ok (Zw c z) (λr=>Cu code r.1/\zB (n+1) m r.2):=by
 have hs:=Z9t hz
 have hk:=Z7W hz.1
 unfold Zw
 refine Ok.bind (P:=λy=>y=Ql z.1) (Ok.of (Z0q z.1 (by omega)) rfl) λy1 h1=> ?_
 subst h1
 refine Ok.ite (λ_=>Ok.ret ⟨hc,hz.1,Nat.le_succ_of_le hz.2.1,hz.2.2⟩) λ_=> ?_
 refine(Z5b hc hk).bind λy2 h2=>(Z0T (hc.re h2.1) 2).bind λy3 h3=>Ok.ite (λ_=> ?_) λ_=> ?_
 ·exact(Z1Q (hc.re h3)).bind λy4 h4=>Z6E hm0 hm (hc.re h4.1) hz hn (Nat.le_trans h4.2 hm0) hk
 ·exact Z4x hm0 hm (hc.re h3) hz hn hz.2.2 hk h2.2.1.1 h2.2.1.2.1 h2.2.1.2.2
theorem Z9w {code:List Int}{x0:Z3}:∀(n:Nat) (v a b:Int) (c:List Z4) (e:List Z0) (k:Nat),v<(n:Int)->0<=v->v<=1000->k+v.toNat<=20->zB k 240 (c,e)->Cu code (x0.1,a,b)->Ok (ZN.l8 x0 n v a b c e) (λr=>Cu code r.1/\zB (k+v.toNat) 240 r.2):=by
 intro n
 induction n with
 |zero=>intro v a b c e k h0 h1;omega
 |succ n ih=>
  intro v a b c e k h0 h1 h2 h3 hz hc
  rw[ZN.u8]
  refine Ok.ite (λh=> ?_) (λh=>Ok.ret ⟨hc,hz.1,Nat.le_trans hz.2.1 (Nat.le_add_right ..),hz.2.2⟩)
  have h:=ge0 h
  refine(Z6F (Nat.le_refl 240) (by decide) hc hz (by omega)).bind λy hy=> ?_
  rw[Z1U h h2]
  refine(ih (v-1) _ _ _ _ (k+1) (by omega) (by omega) (by omega) (by omega) hy.2 (hc.re hy.1)).mono λr hr=>⟨hr.1,?_⟩
  rw[show k+v.toNat=k+1+(v-1).toNat by omega]
  exact hr.2
theorem Z84 {k:Za}{s:Int}{xs:List Z0}{now term:Int}(hk:k.1.length<=4)(hx:Zv xs<=240):zB 1 240 (Yc (Z2A k s xs now term)):=by
 unfold Z2A
 cases Z0l k s xs now term with
 |false=>
  refine⟨?_,Nat.zero_le _,Nat.zero_le _⟩
  intro t ht
  exact absurd ht (List.not_mem_nil)
 |true=>
  rw[cond_t,(Z5W _ _).1]
  refine⟨?_,Nat.le_refl 1,hx⟩
  intro t ht
  rw[List.mem_singleton.1 ht]
  exact Z3G ⟨hk,Nat.zero_le _,Nat.zero_le _⟩ hk
theorem Z9u {code:List Int}{x0:Z3}{a b:Int}{c:List Z4}{e:List Z0}(hc:Cu code (x0.1,a,b))(hz:zB 1 240 (c,e)):Ok (ZN.l7 x0 a b c e) (λr=>Cu code r.1/\zB 4 240 r.2):=by
 refine(Yn hc 4).bind λy hy=> ?_
 obtain⟨h1,h2,h3,_⟩:=hy
 have h3:=h3 (by omega)
 have hk:=KK_gt (n:=1000) (by omega)
 refine(Z9w KK y.2 _ _ c e 1 (by omega) (by omega) (by omega) (by omega) hz (hc.re h1)).mono λr hr=>⟨hr.1,hr.2.1,?_,hr.2.2.2⟩
 have:=hr.2.2.1
 omega
theorem Z4V {code:List Int}{c:Z3}(hc:Cu code c):Ok (ZN c) (λr=>Cu code r.1/\zB 4 240 r.2):=by
 unfold ZN ZN.b
 simp only[both_eq]
 refine(QG hc).bind λy1 h1=>(Yn (hc.re h1.1) 9).bind λy2 h2=>(Z1Q (hc.re h2.1)).bind λy3 h3=>(Yn (hc.re h3.1) 30).bind λy4 h4=>(Yn (hc.re h4.1) 100).bind λy5 h5=> ?_
 have hk:=h1.2
 have hx:=h3.2
 refine Ok.bind (P:=λy=>zB 1 240 (Yc y)) (Ok.of (Z8P y1.2 y2.2 y3.2 y4.2 _ (Nat.le_trans hk (by decide)) (by omega)) (Z84 (Nat.le_succ_of_le hk) hx)) λy6 h6=>Z9u (hc.re h5.1) h6
theorem Z7F {code:List Int}{c:Z3}(hc:Cu code c):Ok (Qa c) (λr=>Cu code r.1/\zB 6 330 r.2):=by
 unfold Qa
 refine(Z4V hc).bind λy1 h1=>(Yn (hc.re h1.1) 8).bind λy2 h2=> ?_
 obtain⟨_,hl,hn,he⟩:=h1
 refine Ok.ite (λ_=> ?_) λ_=>Ok.ite (λ_=> ?_) λ_=> ?_
 ·exact(Z7S (hc.re h2.1)).bind λy3 h3=>Ok.ret ⟨hc.re h3.1,hl,Nat.le_trans hn (by decide),h3.2⟩
 ·exact(Z7B (hc.re h2.1)).bind λy3 h3=>Ok.ret ⟨hc.re h3.1,h3.2.1,h3.2.2,Nat.le_trans he (by decide)⟩
 ·exact Ok.ret ⟨hc.re h2.1,hl,Nat.le_trans hn (by decide),Nat.le_trans he (by decide)⟩
theorem Z8g {x d:Int}(h:1000003*x=2147483647*d)(h1: -2147483647<x)(h2:x<2147483647):x=0:=by
 have e:x=2147483647*(1523789695*d-709572*x):=by
  have:1523789695*(1000003*x)=1523789695*(2147483647*d):=by rw[h]
  omega
 revert e
 generalize 1523789695*d-709572*x=w
 intro e
 omega
theorem Z9m {h h' m:Int}(a:0<=h)(b:h<=2147483646)(a':0<=h')(b':h'<=2147483646)(e:(h*1000003+m+13)%2147483647=(h'*1000003+m+13)%2147483647):h=h':=by
 have e1:=Int.mul_ediv_add_emod (h*1000003+m+13) 2147483647
 have e2:=Int.mul_ediv_add_emod (h'*1000003+m+13) 2147483647
 revert e e1 e2
 generalize (h*1000003+m+13)/2147483647=q1
 generalize (h'*1000003+m+13)/2147483647=q2
 generalize (h*1000003+m+13)%2147483647=r1
 generalize (h'*1000003+m+13)%2147483647=r2
 intro e e1 e2
 subst e
 have:h-h'=0:=Z8g (d:=q1-q2) (by omega) (by omega) (by omega)
 omega
theorem Z9n {c m m':Int}(a:0<=m)(b:m<=2147483646)(a':0<=m')(b':m'<=2147483646)(e:(c+m)%2147483647=(c+m')%2147483647):m=m':=by
 have e1:=Int.mul_ediv_add_emod (c+m) 2147483647
 have e2:=Int.mul_ediv_add_emod (c+m') 2147483647
 revert e e1 e2
 generalize (c+m)/2147483647=q1
 generalize (c+m')/2147483647=q2
 generalize (c+m)%2147483647=r1
 generalize (c+m')%2147483647=r2
 intro e e1 e2
 omega
theorem Z3t (a:Int):0<=Up a/\Up a<=2147483646:=by
 have h:=Z9s a (m:=2147483647) (by omega)
 unfold Up
 rw[w64 (by omega) (by omega)]
 have h1:=Int.tmod_nonneg (2147483647:Int) (show 0<=Int.tmod a 2147483647+2147483647 by omega)
 have h2:=Int.tmod_lt_of_pos (Int.tmod a 2147483647+2147483647) (show(0:Int)<2147483647 by omega)
 omega
theorem Z0p {a:Int}(h0:0<=a)(h1:a<=2147483646):Up a=a:=by
 unfold Up
 rw[Int.tmod_eq_emod_of_nonneg h0,w64 (by omega) (by omega),Int.tmod_eq_emod_of_nonneg (by omega)]
 omega
theorem Z1D {h:Int}(a:Int)(h0:0<=h)(h1:h<=2147483646):WF h a=(h*1000003+Up a+13)%2147483647:=by
 have hm:=Z3t a
 unfold WF
 rw[w64 (n:=h*1000003) (by omega) (by omega),w64 (n:=h*1000003+Up a) (by omega) (by omega),w64 (n:=h*1000003+Up a+13) (by omega) (by omega),Int.tmod_eq_emod_of_nonneg (by omega)]
theorem Z18 {h:Int}(a:Int)(h0:0<=h)(h1:h<=2147483646):0<=WF h a/\WF h a<=2147483646:=by
 rw[Z1D a h0 h1]
 omega
theorem Z34 :∀(xs:List Int) (h:Int),0<=h->h<=2147483646->0<=xs.foldl WF h/\xs.foldl WF h<=2147483646
 |[],h,h0,h1=>⟨h0,h1⟩
 |x::xs,h,h0,h1=>Z34 xs (WF h x) (Z18 x h0 h1).1 (Z18 x h0 h1).2
theorem Z0I (xs:List Int):0<=hs xs/\hs xs<=2147483646:=Z34 xs 11 (by omega) (by omega)
theorem Z4t :∀(xs:List Int) (h h':Int),0<=h->h<=2147483646->0<=h'->h'<=2147483646->xs.foldl WF h=xs.foldl WF h'->h=h'
 |[],h,h',_,_,_,_,e=>e
 |x::xs,h,h',a,b,a',b',e=>by
  have r:=Z18 x a b
  have r':=Z18 x a' b'
  have:=Z4t xs (WF h x) (WF h' x) r.1 r.2 r'.1 r'.2 e
  rw[Z1D x a b,Z1D x a' b']at this
  exact Z9m a b a' b' this
theorem Z2k {pre post:List Int}{a b:Int}(e:hs (pre++a::post)=hs (pre++b::post)):Up a=Up b:=by
 unfold hs at e
 rw[List.foldl_append,List.foldl_append]at e
 have r:=Z34 pre 11 (by omega) (by omega)
 revert e r
 generalize pre.foldl WF 11=h
 intro e r
 have ra:=Z18 a r.1 r.2
 have rb:=Z18 b r.1 r.2
 have:=Z4t post (WF h a) (WF h b) ra.1 ra.2 rb.1 rb.2 e
 rw[Z1D a r.1 r.2,Z1D b r.1 r.2]at this
 have ma:=Z3t a
 have mb:=Z3t b
 exact Z9n (c:=h*1000003+13) ma.1 ma.2 mb.1 mb.2 (by rw[show h*1000003+13+Up a=h*1000003+Up a+13 by omega,show h*1000003+13+Up b=h*1000003+Up b+13 by omega];exact this)
theorem Z8c {a b p:Int}(ha:0<=a/\a<=2147483646)(hb:0<=b/\b<=2147483646)(e:U5 a p=U5 b p):a=b:=by
 have:=Z2k (pre:=[229]) (post:=[p]) e
 rwa [Z0p ha.1 ha.2,Z0p hb.1 hb.2]at this
theorem Z8d {a b p:Int}(ha:0<=a/\a<=2147483646)(hb:0<=b/\b<=2147483646)(e:U5 p a=U5 p b):a=b:=by
 have:=Z2k (pre:=[229,p]) (post:=[]) e
 rwa [Z0p ha.1 ha.2,Z0p hb.1 hb.2]at this
theorem Z8n {n a b:Int}(ha:0<=a/\a<=2147483646)(hb:0<=b/\b<=2147483646)(e:Z1f n a=Z1f n b):a=b:=by
 have:=Z2k (pre:=[231,n]) (post:=[]) e
 rwa [Z0p ha.1 ha.2,Z0p hb.1 hb.2]at this
theorem Z2I :∀(m:Nat) (a:Int) (i n:Nat) (p:List Int),0<=a/\a<=2147483646->0<=(tf m a i n p).1/\(tf m a i n p).1<=2147483646
 |0,a,i,n,p,_=>by unfold tf;exact⟨by decide,by decide⟩
 |m+1,a,i,n,p,ha=>by
  unfold tf
  by_cases h1:n<=1
  ·rw[decide_eq_true h1,cond_t]
   cases decide (p.length=0)
   ·rw[cond_f];exact⟨by decide,by decide⟩
   ·rw[cond_t];exact ha
  ·rw[decide_eq_false h1,cond_f]
   cases(decide (i%2=0)&&decide (n<=i+1))with
   |true=>rw[cond_t];exact Z2I m a _ _ p ha
   |false=>
    rw[cond_f]
    cases p with
    |nil=>exact⟨Int.le_refl 0,by show(0:Int)<=2147483646;decide⟩
    |cons q t=>
     refine Z2I m _ _ _ t ?_
     cases decide (i%2=0)
     ·rw[cond_f];exact Z0I _
     ·rw[cond_t];exact Z0I _
theorem Z2H :∀(m:Nat) (a b:Int) (i n:Nat) (p:List Int),0<=a/\a<=2147483646->0<=b/\b<=2147483646->(tf m a i n p).2=true->(tf m a i n p).1=(tf m b i n p).1->a=b
 |0,a,b,i,n,p,_,_,h,_=>by unfold tf at h;cases h
 |m+1,a,b,i,n,p,ha,hb,h,e=>by
  unfold tf at h e
  by_cases h1:n<=1
  ·rw[decide_eq_true h1,cond_t]at h e
   rw[cond_t]at e
   cases hp:decide (p.length=0)with
   |false=>rw[hp,cond_f]at h;cases h
   |true=>rw[hp,cond_t,cond_t]at e;exact e
  ·rw[decide_eq_false h1,cond_f]at h e
   rw[cond_f]at e
   cases hq:(decide (i%2=0)&&decide (n<=i+1))with
   |true=>rw[hq,cond_t]at h e;rw[cond_t]at e;exact Z2H m a b _ _ p ha hb h e
   |false=>
    rw[hq,cond_f]at h e
    rw[cond_f]at e
    cases p with
    |nil=>cases h
    |cons q t=>
     cases hi:decide (i%2=0)with
     |true=>
      rw[hi]at h e
      exact Z8c ha hb (Z2H m (U5 a q) (U5 b q) _ _ t (Z0I _) (Z0I _) h e)
     |false=>
      rw[hi]at h e
      exact Z8d ha hb (Z2H m (U5 q a) (U5 q b) _ _ t (Z0I _) (Z0I _) h e)
theorem Z3L :∀(L:List Int) (j:Nat),2*j+1<L.length->(up L).getD j 0=U5 (L.getD (2*j) 0) (L.getD (2*j+1) 0)
 |[],j,h=>by simp at h
 |[a],j,h=>by simp at h
 |a::b::t,0,h=>rfl
 |a::b::t,j+1,h=>by
  have:=Z3L t j (by simp at h;omega)
  rw[show 2*(j+1)=2*j+1+1 by omega]
  exact this
theorem Z5H :∀(L:List Int) (j:Nat),2*j+1=L.length->(up L).getD j 0=L.getD (2*j) 0
 |[],j,h=>by simp at h
 |[a],j,h=>by
  have:j=0:=by simp at h;omega
  subst this;rfl
 |a::b::t,0,h=>by simp at h
 |a::b::t,j+1,h=>by
  have:=Z5H t j (by simp at h;omega)
  rw[show 2*(j+1)=2*j+1+1 by omega]
  exact this
theorem Z5C :∀(m k q:Nat) (L:List Int) (i:Nat),L.length<m->L.length<k->L.length<q->i<L.length->tf m (L.getD i 0) i L.length (pf k L i)=(Z1o q L,true)
 |0,k,q,L,i,h,_,_,_=>by omega
 |m+1,0,q,L,i,_,h,_,_=>by omega
 |m+1,k+1,0,L,i,_,_,h,_=>by omega
 |m+1,k+1,q+1,L,i,h1,h2,h3,hi=>by
  unfold tf pf Z1o
  by_cases hn:L.length<=1
  ·have hi0:i=0:=by omega
   subst hi0
   rw[decide_eq_true hn,cond_t,decide_eq_false (show¬(L.length:Int)>1 by omega),cond_f,cond_f]
   rfl
  ·have hul:=Z1p L
   rw[decide_eq_false hn,cond_f,decide_eq_true (show(L.length:Int)>1 by omega),cond_t,cond_t]
   have ih:=Z5C m k q (up L) (i/2) (by omega) (by omega) (by omega) (by omega)
   rw[hul]at ih
   by_cases he:i%2=0
   ·by_cases hl:L.length<=i+1
    ·have e1:¬Us i<L.length:=by unfold Us;rw[decide_eq_true he,cond_t];omega
     rw[decide_eq_true he,decide_eq_true hl,Bool.and_self,cond_t,decide_eq_false e1,cond_f,List.nil_append]
     have:=Z5H L (i/2) (by omega)
     rw[show 2*(i/2)=i by omega]at this
     rw[this]at ih
     exact ih
    ·have es:Us i=i+1:=by unfold Us;rw[decide_eq_true he,cond_t]
     rw[decide_eq_true he,decide_eq_false hl,Bool.and_false,cond_f,es,decide_eq_true (show i+1<L.length by omega),cond_t]
     have:=Z3L L (i/2) (by omega)
     rw[show 2*(i/2)=i by omega]at this
     rw[this]at ih
     exact ih
   ·have es:Us i=i-1:=by unfold Us;rw[decide_eq_false he,cond_f]
    rw[decide_eq_false he,Bool.false_and,cond_f,es,decide_eq_true (show i-1<L.length by omega),cond_t]
    have:=Z3L L (i/2) (by omega)
    rw[show 2*(i/2)=i-1 by omega,show i-1+1=i by omega]at this
    rw[this]at ih
    exact ih
theorem Z7Y (xs:List Z0){i:Nat}(h:i<xs.length):(leaves xs).getD i 0=WC xs[i]:=by
 unfold leaves
 rw[at_n (by rw[List.length_map];exact h),List.getElem_map]
theorem Z5E {xs:List Z0}{i:Nat}(hl:xs.length<=12)(h:i<xs.length):Qz (WC xs[i]) (i:Int) (xs.length:Int) (U6 (leaves xs) (i:Int))=(Z0t (leaves xs),true):=by
 have hll:=Z1d xs
 have hk:=KK_gt (n:=100) (by omega)
 unfold Qz U6 Z0t
 rw[(Wf (xs.length:Int) 1 12).2 (by omega),(Wf (i:Int) 0 ((xs.length:Int)-1)).2 (by omega),(Wf (i:Int) 0 (((leaves xs).length:Int)-1)).2 (by omega),Bool.and_self,cond_t,cond_t,Int.toNat_natCast,Int.toNat_natCast,←Z7Y xs h,←hll]
 rw[show(((leaves xs).length:Int)==(0:Int))=false by rw[beq_eq_false_iff_ne];omega,cond_f]
 exact Z5C KK KK KK (leaves xs) i (by omega) (by omega) (by omega) (by omega)
theorem Z2w (e:Z0):0<=WC e/\WC e<=2147483646:=Z0I _
theorem Z7X (s:ByteArray)(k v w:Int)(p:List ByteArray)(e:WC (s,k,v,p)=WC (s,k,w,p)):Up v=Up w:=by
 unfold WC Z04 at e
 refine Z2k (pre:=227::(QR s++[k])) (post:=(p.length:Int)::p.flatMap QR) ?_
 simpa using e
theorem Z4L {e:Z0}(h:Qi e=true):0<=e.2.2.1/\e.2.2.1<=2147483646:=by
 unfold Qi at h
 rw[Bool.and_eq_true]at h
 have h:=h.2
 cases h1:(e.2.1==(1:Int))with
 |true=>
  rw[h1,cond_t,Bool.and_eq_true,Wf]at h
  omega
 |false=>
  rw[h1,cond_f]at h
  cases h2:(e.2.1==(2:Int))with
  |true=>
   rw[h2,cond_t,Bool.and_eq_true,Wf]at h
   omega
  |false=>
   rw[h2,cond_f]at h
   cases h3:(e.2.1==(3:Int))with
   |true=>
    rw[h3,cond_t,Bool.and_eq_true,Wf]at h
    omega
   |false=>rw[h3,cond_f]at h;cases h
theorem Z2T {xs:List Z0}{i:Nat}(ha:W1 xs=true)(h:i<xs.length):Ww (Ur xs) (xs.length:Int) xs[i] ((i:Int),U6 (leaves xs) (i:Int))=true:=by
 have hl:=Z12 xs ha
 unfold Ww
 rw[Z2Q xs ha _ (List.getElem_mem h),Z5E hl h]
 unfold Ur
 rw[beq_self_eq_true]
 rfl
theorem Z6d {xs:List Z0}{i:Nat}(ha:W1 xs=true)(h:i<xs.length):Ww (Ur xs) (xs.length:Int) (xs[i].1,xs[i].2.1,IntKind.i64.wrap (xs[i].2.2.1+(1:Int)),xs[i].2.2.2) ((i:Int),U6 (leaves xs) (i:Int))=false:=by
 have hl:=Z12 xs ha
 have he:=Z4L (Z2Q xs ha _ (List.getElem_mem h))
 rw[w64 (n:=xs[i].2.2.1+1) (by omega) (by omega)]
 cases hc:Ww (Ur xs) (xs.length:Int) (xs[i].1,xs[i].2.1,xs[i].2.2.1+(1:Int),xs[i].2.2.2) ((i:Int),U6 (leaves xs) (i:Int))with
 |false=>rfl
 |true=>
  unfold Ww at hc
  simp only[Bool.and_eq_true,beq_iff_eq]at hc
  obtain⟨h1,h2,h3⟩:=hc
  have hv:=Z4L h1
  have hv:0<=xs[i].2.2.1+1/\xs[i].2.2.1+1<=2147483646:=hv
  have ho:=Z5E hl h
  have e1:tf KK (WC (xs[i].1,xs[i].2.1,xs[i].2.2.1+(1:Int),xs[i].2.2.2)) i xs.length (U6 (leaves xs) (i:Int))=Qz (WC (xs[i].1,xs[i].2.1,xs[i].2.2.1+(1:Int),xs[i].2.2.2)) (i:Int) (xs.length:Int) (U6 (leaves xs) (i:Int)):=by
   unfold Qz
   rw[(Wf (xs.length:Int) 1 12).2 (by omega),(Wf (i:Int) 0 ((xs.length:Int)-1)).2 (by omega),Bool.and_self,cond_t,Int.toNat_natCast,Int.toNat_natCast]
  have e2:tf KK (WC xs[i]) i xs.length (U6 (leaves xs) (i:Int))=(Z0t (leaves xs),true):=by
   rw[←ho]
   unfold Qz
   rw[(Wf (xs.length:Int) 1 12).2 (by omega),(Wf (i:Int) 0 ((xs.length:Int)-1)).2 (by omega),Bool.and_self,cond_t,Int.toNat_natCast,Int.toNat_natCast]
  rw[←e1]at h2 h3
  unfold Ur at h3
  have r1:=Z2I KK (WC (xs[i].1,xs[i].2.1,xs[i].2.2.1+(1:Int),xs[i].2.2.2)) i xs.length (U6 (leaves xs) (i:Int)) (Z2w _)
  have r2:=Z2I KK (WC xs[i]) i xs.length (U6 (leaves xs) (i:Int)) (Z2w _)
  rw[e2]at r2
  have h4:=Z8n r1 r2 h3
  have h5:=Z2H KK (WC (xs[i].1,xs[i].2.1,xs[i].2.2.1+(1:Int),xs[i].2.2.2)) (WC xs[i]) i xs.length (U6 (leaves xs) (i:Int)) (Z2w _) (Z2w _) h2 (by rw[e2];exact h4)
  have h6:=Z7X xs[i].1 xs[i].2.1 (xs[i].2.2.1+1) xs[i].2.2.1 xs[i].2.2.2 h5
  rw[Z0p hv.1 hv.2,Z0p he.1 he.2]at h6
  omega
theorem Z4a :∀a b c:List UInt8,Lib.compareBytes a b= -1->Lib.compareBytes b c= -1->Lib.compareBytes a c= -1
 |[],[],_,h,_=>absurd h (by decide)
 |[],_::_,[],_,h=>absurd h (by show¬(1:Int)= -1;decide)
 |[],_::_,_::_,_,_=>rfl
 |_::_,[],_,h,_=>absurd h (by show¬(1:Int)= -1;decide)
 |_::_,_::_,[],_,h=>absurd h (by show¬(1:Int)= -1;decide)
 |a::x,b::y,c::z,h1,h2=>by
  unfold Lib.compareBytes at h1 h2⊢
  by_cases ab:a<b
  ·by_cases bc:b<c
   ·rw[if_pos (UInt8.lt_trans ab bc)]
   ·rw[if_neg bc]at h2
    by_cases cb:c<b
    ·rw[if_pos cb]at h2;exact absurd h2 (by decide)
    ·have e:b=c:=UInt8.le_antisymm (UInt8.not_lt.1 cb) (UInt8.not_lt.1 bc)
     subst e
     rw[if_pos ab]
  ·rw[if_neg ab]at h1
   by_cases ba:b<a
   ·rw[if_pos ba]at h1;exact absurd h1 (by decide)
   ·have e:a=b:=UInt8.le_antisymm (UInt8.not_lt.1 ba) (UInt8.not_lt.1 ab)
    subst e
    rw[if_neg ba]at h1
    by_cases ac:a<c
    ·rw[if_pos ac]
    ·rw[if_neg ac]at h2⊢
     by_cases ca:c<a
     ·rw[if_pos ca]at h2;exact absurd h2 (by decide)
     ·rw[if_neg ca]at h2⊢
      exact Z4a x y z h1 h2
theorem Z47 {a b c:ByteArray}(h1:X5 a b= -1)(h2:X5 b c= -1):X5 a c= -1:=Z4a _ _ _ h1 h2
theorem Z6g {a b:ByteArray}(h:(a.toList==b.toList)=true):X5 a b=0:=by
 rw[beq_iff_eq,ByteArray.toList_eq,ByteArray.toList_eq]at h
 have:=Z46 a a
 unfold X5 at this⊢
 rw[←h]
 omega
theorem Z6h {a b:ByteArray}(h:X5 a b=0):(a.toList==b.toList)=true:=by
 unfold X5 at h
 rw[Z2d]at h
 rw[ByteArray.toList_eq,ByteArray.toList_eq]
 cases h1:Op.bytesLess a.data.toList b.data.toList with
 |true=>rw[h1]at h;exact absurd h (by show¬(-1:Int)=0;decide)
 |false=>
  rw[h1,cond_f]at h
  cases h2:(a.data.toList==b.data.toList)with
  |true=>rfl
  |false=>rw[h2]at h;exact absurd h (by show¬(1:Int)=0;decide)
theorem Z6t {xs:List Z0}(ha:W1 xs=true):∀(d i:Nat),i+1+d<xs.length->X5 (xs.getD i Zt).1 (xs.getD (i+1+d) Zt).1= -1:=by
 have h:=ha
 unfold W1 at h
 rw[Bool.and_eq_true,Z0A]at h
 have step:∀i,i+1<xs.length->X5 (xs.getD i Zt).1 (xs.getD (i+1) Zt).1= -1:=by
  intro i hi
  have:=h.1 (i+1) hi
  rw[Bool.and_eq_true]at this
  have:=this.2
  rw[decide_eq_false (show¬i+1=0 by omega),Bool.false_or,beq_iff_eq]at this
  exact this
 intro d
 induction d with
 |zero=>exact step
 |succ d ih=>
  intro i hi
  have h1:=ih i (by omega)
  have h2:=step (i+1+d) (by omega)
  exact Z47 h1 h2
theorem Z4j {xs:List Z0}(ha:W1 xs=true){i j:Nat}(h:i<j)(hj:j<xs.length):X5 (xs.getD i Zt).1 (xs.getD j Zt).1= -1:=by
 have:=Z6t ha (j-i-1) i (by omega)
 rw[show i+1+(j-i-1)=j by omega]at this
 exact this
theorem Z4s {α:Type}(p:α->Bool):∀(xs:List α) (k:Int) (i:Nat) (h:i<xs.length),p xs[i]=true->(∀j (hj:j<i),p (xs[j]'(by omega))=false)->Ug p xs k=k+(i:Int)
 |[],k,i,h,_,_=>by simp at h
 |x::xs,k,0,h,hp,_=>by
  have hp:p x=true:=hp
  rw[Z17,hp,cond_t];simp
 |x::xs,k,i+1,h,hp,hn=>by
  have h0:p x=false:=hn 0 (by omega)
  rw[Z17,h0,cond_f,Z4s p xs (k+1) i (by simpa using h) (by simpa using hp) (λj hj=>by simpa using hn (j+1) (by omega))]
  omega
theorem Z32 {α:Type}(p:α->Bool):∀(xs:List α) (k:Int),0<=k->(Ug p xs k= -1/\∀x∈xs,p x=false)∨∃i,∃h:i<xs.length,Ug p xs k=k+(i:Int)/\p xs[i]=true
 |[],k,_=> .inl ⟨rfl,λx hx=>by simp at hx⟩
 |x::xs,k,hk=>by
  rw[Z17]
  cases hp:p x with
  |true=>exact .inr ⟨0,by simp,by rw[cond_t];simp,hp⟩
  |false=>
   rw[cond_f]
   rcases Z32 p xs (k+1) (by omega)with⟨h1,h2⟩|⟨i,h1,h2,h3⟩
   ·refine .inl ⟨h1,λy hy=> ?_⟩
    rcases List.mem_cons.1 hy with rfl|hy
    ·exact hp
    ·exact h2 y hy
   ·exact .inr ⟨i+1,by simpa using h1,by rw[h2];omega,by simpa using h3⟩
theorem Z4o {xs:List Z0}(ha:W1 xs=true){i:Nat}(hi:i<xs.length){l:ByteArray}(hl:(xs[i].1.toList==l.toList)=true):Xv xs l=(i:Int):=by
 unfold Xv
 rw[Z4s (λe:Z0=>e.1.toList==l.toList) xs 0 i hi hl,Int.zero_add]
 intro j hj
 cases hb:(xs[j].1.toList==l.toList)with
 |false=>rfl
 |true=>
  have h1:=Z4j ha hj hi
  rw[at_n (show j<xs.length by omega),at_n hi]at h1
  rw[beq_iff_eq]at hb hl
  have:=Z6g (a:=xs[j].1) (b:=xs[i].1) (by rw[beq_iff_eq,hb,hl])
  omega
theorem Z2B {xs:List Z0}{l:ByteArray}{i:Nat}(h:Xv xs l=(i:Int)):Uw (Qw xs l)=((i:Int),U6 (leaves xs) (i:Int)):=by
 unfold Qw
 rw[h,decide_eq_false (by omega),cond_f,(Z3T _ _).1]
theorem Z5e (p:Z0->Bool):∀(xs:List Z0),(∀i j,i<j->j<xs.length->p (xs.getD j Zt)=true->p (xs.getD i Zt)=true)->∀i,i<xs.length->(i<xs.countP p↔p (xs.getD i Zt)=true)
 |[],_,i,hi=>by simp at hi
 |x::xs,hc,i,hi=>by
  have ht:∀i j,i<j->j<xs.length->p (xs.getD j Zt)=true->p (xs.getD i Zt)=true:=λi j hij hj h=>hc (i+1) (j+1) (by omega) (by simpa using hj) h
  have ih:=Z5e p xs ht
  rw[List.countP_cons]
  cases hp:p x with
  |true=>
   rw[if_pos rfl]
   cases i with
   |zero=>exact⟨λ_=>hp,λ_=>by omega⟩
   |succ i=>
    have:=ih i (by simpa using hi)
    exact⟨λh=>this.1 (by omega),λh=>by have:=this.2 h;omega⟩
  |false=>
   rw[if_neg (by simp)]
   have hz:xs.countP p=0:=by
    rw[List.countP_eq_zero]
    intro a ha hpa
    obtain⟨j,hj,rfl⟩:=List.getElem_of_mem ha
    have:=hc 0 (j+1) (by omega) (by simpa using hj) (by show p (xs.getD j Zt)=true;rw[at_n hj];exact hpa)
    have:p x=true:=this
    rw[hp]at this
    cases this
   rw[hz]
   refine⟨λh=>by omega,λh=> ?_⟩
   cases i with
   |zero=>
    have:p x=true:=h
    rw[hp]at this
    cases this
   |succ i=>
    have:=hc 0 (i+1) (by omega) hi h
    have:p x=true:=this
    rw[hp]at this
    cases this
theorem Z5h {xs:List Z0}(ha:W1 xs=true)(l:ByteArray){i:Nat}(hi:i<xs.length):i<rk xs l↔X5 (xs.getD i Zt).1 l= -1:=by
 unfold rk
 rw[Z5e (λe=>decide (X5 e.1 l<0)) xs (λi j hij hj h=> ?_) i hi]
 ·rw[decide_eq_true_eq]
  rcases Z13 (xs.getD i Zt).1 l with e|e|e<;>omega
 ·rw[decide_eq_true_eq]at h⊢
  have h1:=Z4j ha hij hj
  have h2:X5 (xs.getD j Zt).1 l= -1:=by rcases Z13 (xs.getD j Zt).1 l with e|e|e<;>omega
  have:=Z47 h1 h2
  omega
theorem Z4m (a:ByteArray):Qs a a=true:=beq_self_eq_true _
theorem Z3W {α:Type}(g:α->α->Bool)(h:∀a,g a a=true):∀xs:List α,all2 g xs xs=true
 |[]=>rfl
 |x::xs=>by unfold all2;rw[h,Z3W g h xs];rfl
theorem Z4l {α:Type}(g:α->α->Bool)(h:∀a,g a a=true)(xs:List α):QY g xs xs=true:=by
 unfold QY
 rw[decide_eq_true rfl,Z3W g h];rfl
theorem Z0F (e:Z0):Uz e e=true:=by
 unfold Uz
 rw[Z4m,beq_self_eq_true,beq_self_eq_true,Z4l Qs Z4m];rfl
theorem Z15 (p:YC):Qr p p=true:=by
 unfold Qr
 rw[beq_self_eq_true,decide_eq_true rfl];rfl
theorem Z4k (g:Zp):Z0k g g=true:=by
 unfold Z0k
 rw[beq_self_eq_true,Z0F,Z0F,Z15,Z15];rfl
theorem Z6v (s:Z4):Z05 s s=true:=by
 unfold Z05 Z14
 rw[decide_eq_true rfl,decide_eq_true rfl];rfl
theorem Z6u (a:Zi):Z2i a a=true:=by
 unfold Z2i
 rw[Z4l Z05 Z6v,beq_self_eq_true,Z0F,Z15,Z4k];rfl
theorem Z25 {z:Zm}(h:W2 z=true):XY z.1=true/\ZK (Yg z)=(z.2.length:Int)/\W1 z.2=true/\ZY (Yg z)=Ur z.2/\Z0e z=ZH (Yg z):=by
 have h0:=h
 unfold W2 Z0C at h
 simp only[Bool.and_eq_true,beq_iff_eq]at h
 exact⟨h.1,h.2.1,h.2.2.1,h.2.2.2.symm,by unfold Z0e;rw[h0,cond_t]⟩
theorem Z6C {xs:List Z0}(ha:W1 xs=true){l:ByteArray}(hl:Xy l=true)(hf:Xv xs l<0):QL (Ur xs) (xs.length:Int) l (QU (Z00 xs l))=true:=by
 have hlen:=Z12 xs ha
 have hk:=Z3v xs l
 have hne:∀i (hi:i<xs.length),(xs[i].1.toList==l.toList)=false:=by
  intro i hi
  unfold Xv at hf
  rcases Z32 (λe:Z0=>e.1.toList==l.toList) xs 0 (Int.le_refl 0)with⟨_,h2⟩|⟨j,_,h2,_⟩
  ·exact h2 _ (List.getElem_mem hi)
  ·omega
 unfold Z00
 rw[ha,hl,decide_eq_false (by omega)]
 rw[show(true&&(true&& !false))=true from rfl,cond_t,(Z3R _ _).1]
 have hR:∀(B:Z0) (L:YC),ZB (Qu xs (rk xs l) B L)=(rk xs l:Int)/\ZC (Qu xs (rk xs l) B L)=B/\Yu (Qu xs (rk xs l) B L)=L/\QK (Ur xs) (xs.length:Int) l (Qu xs (rk xs l) B L)=true:=by
  intro B L
  unfold Qu QK
  by_cases h:rk xs l<xs.length
  ·rw[decide_eq_true h,cond_t]
   refine⟨(Wv _ _ _ _ _).1,(Wv _ _ _ _ _).2.1,(Wv _ _ _ _ _).2.2.2.1,?_⟩
   rw[(Wv _ _ _ _ _).1,(Wv _ _ _ _ _).2.2.1,(Wv _ _ _ _ _).2.2.2.2,show((rk xs l:Int)==(xs.length:Int))=false by rw[beq_eq_false_iff_ne];omega,cond_f,at_n h]
   rw[Z2B (Z4o ha h (beq_self_eq_true _)),Z2T ha h,beq_self_eq_true]
   have h1:¬X5 xs[rk xs l].1 l= -1:=by
    intro hc
    have:=(Z5h ha l h).2 (by rw[at_n h];exact hc)
    omega
   have h2:¬X5 xs[rk xs l].1 l=0:=by
    intro hc
    have:=Z6h hc
    rw[hne _ h]at this
    cases this
   have h3:X5 xs[rk xs l].1 l=1:=by rcases Z13 xs[rk xs l].1 l with e|e|e<;>omega
   rw[h3]
   rfl
  ·rw[decide_eq_false h,cond_f]
   refine⟨(Wv _ _ _ _ _).1,(Wv _ _ _ _ _).2.1,(Wv _ _ _ _ _).2.2.2.1,?_⟩
   rw[(Wv _ _ _ _ _).1,(Wv _ _ _ _ _).2.2.1,(Wv _ _ _ _ _).2.2.2.2,show((rk xs l:Int)==(xs.length:Int))=true by rw[beq_iff_eq];omega,cond_t]
   unfold UG
   rw[show Uz Zt eZ=true from Z0F eZ,show Qr Wp pZ=true from Z15 pZ]
   rfl
 unfold QL
 rw[hl]
 have hroot:(!((((xs.length:Int)==(0:Int)))&&(Ur xs !=Ur [])))=true:=by
  cases xs with
  |nil=>rw[bne_self_eq_false,Bool.and_false];rfl
  |cons x t=>rw[show(((x::t).length:Int)==(0:Int))=false by rw[beq_eq_false_iff_ne,List.length_cons];omega];rfl
 rw[hroot]
 unfold Z0G
 by_cases h0:0<rk xs l
 ·rw[decide_eq_true h0,cond_t]
  have hj:rk xs l-1<xs.length:=by omega
  obtain⟨g1,g2,g3,g4⟩:=hR (xs.getD (rk xs l-1) Zt) (Uw (Qw xs (xs.getD (rk xs l-1) Zt).1))
  rw[g4,g1,(Wf (rk xs l:Int) 0 (xs.length:Int)).2 (by omega)]
  unfold Z0g
  rw[g1,g2,g3,show((rk xs l:Int)==(0:Int))=false by rw[beq_eq_false_iff_ne];omega,cond_f]
  have hc:=(Z5h ha l hj).1 (by omega)
  rw[hc,at_n hj,Z2B (Z4o ha hj (beq_self_eq_true _)),Z2T ha hj]
  rw[show((((rk xs l-1:Nat):Int),U6 (leaves xs) ((rk xs l-1:Nat):Int)).1==(rk xs l:Int)-1)=true by rw[beq_iff_eq];show((rk xs l-1:Nat):Int)=_;omega]
  rfl
 ·rw[decide_eq_false h0,cond_f]
  obtain⟨g1,g2,g3,g4⟩:=hR Zt Wp
  rw[g4,g1,(Wf (rk xs l:Int) 0 (xs.length:Int)).2 (by omega)]
  unfold Z0g
  rw[g1,g2,g3,show((rk xs l:Int)==(0:Int))=true by rw[beq_iff_eq];omega,cond_t]
  unfold UG
  rw[show Uz Zt eZ=true from Z0F eZ,show Qr Wp pZ=true from Z15 pZ]
  rfl
theorem Z2P {z:Zm}{l:ByteArray}(hz:W2 z=true)(hl:Xy l=true):QW z l=Wd z l/\ZO (Wd z l)=z.1/\Xk (Wd z l)=decide (Xv z.2 l>=0):=by
 refine⟨by unfold QW;rw[hz,hl];rfl,?_,?_⟩
 ·unfold Wd
  cases decide (Xv z.2 l>=0)
  ·rw[cond_f,(Xh _ _ _ _ _).1]
  ·rw[cond_t,(Xh _ _ _ _ _).1]
 ·unfold Wd
  cases decide (Xv z.2 l>=0)
  ·rw[cond_f,(Xh _ _ _ _ _).2.1]
  ·rw[cond_t,(Xh _ _ _ _ _).2.1]
theorem Z30 {xs:List Z0}{l:ByteArray}(h:Xv xs l>=0):∃i,∃hi:i<xs.length,Xv xs l=(i:Int)/\(xs[i].1.toList==l.toList)=true:=by
 unfold Xv at h⊢
 rcases Z32 (λe:Z0=>e.1.toList==l.toList) xs 0 (Int.le_refl 0)with⟨h1,_⟩|⟨i,hi,h1,h2⟩
 ·omega
 ·exact⟨i,hi,by rw[h1,Int.zero_add],h2⟩
theorem Z6H {z:Zm}{l:ByteArray}(hz:W2 z=true)(hl:Xy l=true):proved (Yg z) l (Wd z l)=true:=by
 obtain⟨_,hc,ha,hr,_⟩:=Z25 hz
 unfold proved
 rw[(Z2P hz hl).2.2,hc,hr]
 unfold Wd
 by_cases h:Xv z.2 l>=0
 ·obtain⟨i,hi,h1,h2⟩:=Z30 h
  rw[decide_eq_true h,cond_t,cond_t,(Xh _ _ _ _ _).2.2.1,(Xh _ _ _ _ _).2.2.2.1,(Xh _ _ _ _ _).2.2.2.2,Z2B h1,h1,Int.toNat_natCast,at_n hi,h2,Z2T ha hi,Z4k]
  rfl
 ·rw[decide_eq_false h,cond_f,cond_f,(Xh _ _ _ _ _).2.2.1,(Xh _ _ _ _ _).2.2.2.1,(Xh _ _ _ _ _).2.2.2.2,Z6C ha hl (by omega)]
  unfold UG
  rw[show Uz Zt eZ=true from Z0F eZ,show Qr Wp pZ=true from Z15 pZ]
  rfl
theorem Z80 {z:Zm}{l:ByteArray}(hz:W2 z=true)(hl:Xy l=true):proved (Yg z) l (Z0Q (Wd z l))=false:=by
 obtain⟨_,hc,ha,hr,_⟩:=Z25 hz
 unfold proved Z0Q
 rw[(Xh _ _ _ _ _).2.1,(Xh _ _ _ _ _).2.2.1,(Xh _ _ _ _ _).2.2.2.1,(Xh _ _ _ _ _).2.2.2.2,(Z2P hz hl).2.2,hc,hr]
 unfold Wd
 by_cases h:Xv z.2 l>=0
 ·obtain⟨i,hi,h1,h2⟩:=Z30 h
  rw[decide_eq_true h,cond_t,cond_t,(Xh _ _ _ _ _).2.2.1,(Xh _ _ _ _ _).2.2.2.1,(Xh _ _ _ _ _).2.2.2.2,Z2B h1,h1,Int.toNat_natCast,at_n hi,Z6d ha hi,Bool.false_and,Bool.and_false]
 ·rw[decide_eq_false h,cond_f,cond_f,(Xh _ _ _ _ _).2.2.1,(Xh _ _ _ _ _).2.2.2.1,(Xh _ _ _ _ _).2.2.2.2]
  have:UG (Zt.1,Zt.2.1,IntKind.i64.wrap (Zt.2.2.1+(1:Int)),Zt.2.2.2) Wp=false:=by
   unfold UG Uz
   have e:((Zt.1,Zt.2.1,IntKind.i64.wrap (Zt.2.2.1+(1:Int)),Zt.2.2.2):Z0).2.2.1=1:=by
    show IntKind.i64.wrap ((0:Int)+1)=1
    rw[w64 (by decide) (by decide)];rfl
   rw[e,show((1:Int)==eZ.2.2.1)=false from rfl,Bool.false_and,Bool.and_false,Bool.and_false,Bool.false_and]
  rw[this,Bool.and_false]
theorem Z2b {z:Zm}(hz:W2 z=true){a:Zi}(ha:ZO a=z.1)(zone:Int)(l:ByteArray)(now:Int):Uf zone l a now=bif ZH (Yg z) !=zone then 2 else bif !Yx now (Zr (Yg z)) (ZE (Yg z))then 4 else bif Zq (Yg z)then 5 else bif !proved (Yg z) l a then 6 else 1:=by
 have e:WE a=Yg z:=by unfold WE Yg;rw[ha]
 unfold Uf
 rw[ha,(Z25 hz).1,Bool.not_true,cond_f,e]
theorem Z45 {z:Zm}(hz:W2 z=true){a:Zi}(ha:ZO a=z.1){zone:Int}{l:ByteArray}{now:Int}(hp:proved (Yg z) l a=false):(Uf zone l a now==(1:Int))=false:=by
 rw[Z2b hz ha,hp]
 cases(ZH (Yg z) !=zone)<;>cases Yx now (Zr (Yg z)) (ZE (Yg z))<;>cases Zq (Yg z)<;>rfl
theorem Z7Z (y:Zi):ZO (Z0Q y)=ZO y:=(Xh _ _ _ _ _).1
theorem Z2O (z:Zm)(l:ByteArray):W3 (QW z l)<=YG z.1+300:=by
 have e1:ZD Zt=0:=rfl
 have e2:XA Wp=0:=rfl
 have e3:W4 Wo=0:=rfl
 unfold QW
 cases hz:(W2 z&&Xy l)with
 |false=>exact Nat.zero_le _
 |true=>
  rw[Bool.and_eq_true]at hz
  have ha:=Z3i z hz.1
  have hl:=Z12 z.2 ha
  have hg:∀i,ZD (z.2.getD i Zt)<=44:=by
   intro i
   by_cases h:i<z.2.length
   ·rw[at_n h];exact Z7n _ (Z2Q z.2 ha _ (List.getElem_mem h))
   ·have e:z.2.getD i Zt=Zt:=by simp[List.getD,show z.2.length<=i by omega]
    rw[e];omega
  have hp:=Z8h z.2
  have hgap:W4 (QU (Z00 z.2 l))<=112:=by
   unfold Z00
   cases(W1 z.2&&(Xy l&& !decide (Xv z.2 l>=0)))with
   |false=>rw[cond_f,show QU Z0h=Wo from rfl];omega
   |true=>
    rw[cond_t,(Z3R _ _).1]
    have hR:∀(B:Z0) (L:YC),ZD B<=44->XA L<=12->W4 (Qu z.2 (rk z.2 l) B L)<=112:=by
     intro B L hB hL
     have h1:=hg (rk z.2 l)
     have h2:=hp (z.2.getD (rk z.2 l) Zt).1
     unfold Qu W4
     cases decide (rk z.2 l<z.2.length)with
     |true=>
      rw[cond_t,(Wv _ _ _ _ _).2.1,(Wv _ _ _ _ _).2.2.1,(Wv _ _ _ _ _).2.2.2.1,(Wv _ _ _ _ _).2.2.2.2]
      omega
     |false=>
      rw[cond_f,(Wv _ _ _ _ _).2.1,(Wv _ _ _ _ _).2.2.1,(Wv _ _ _ _ _).2.2.2.1,(Wv _ _ _ _ _).2.2.2.2]
      omega
    unfold Z0G
    cases decide (0<rk z.2 l)with
    |true=>rw[cond_t];exact hR _ _ (hg _) (by have:=hp (z.2.getD (rk z.2 l-1) Zt).1;omega)
    |false=>rw[cond_f];exact hR _ _ (by omega) (by omega)
  rw[cond_t]
  unfold Wd W3
  have h4:=hg (Xv z.2 l).toNat
  have h5:=hp l
  cases decide (Xv z.2 l>=0)with
  |true=>
   rw[cond_t,(Xh _ _ _ _ _).1,(Xh _ _ _ _ _).2.2.1,(Xh _ _ _ _ _).2.2.2.1,(Xh _ _ _ _ _).2.2.2.2]
   omega
  |false=>
   rw[cond_f,(Xh _ _ _ _ _).1,(Xh _ _ _ _ _).2.2.1,(Xh _ _ _ _ _).2.2.2.1,(Xh _ _ _ _ _).2.2.2.2]
   omega
theorem Z6s {xs:List Z0}{m:Nat}(hx:Zv xs<=m)(i:Nat):(xs.getD i Zt).1.size<=m:=by
 by_cases h:i<xs.length
 ·rw[at_n h]
  exact Z2h _ (Z0E h hx)
 ·have e:xs.getD i Zt=Zt:=by simp[List.getD,show xs.length<=i by omega]
  rw[e];exact Nat.zero_le _
theorem Z4W {code:List Int}{c:Z3}{z:Zm}(hc:Cu code c)(hx:Zv z.2<=330):Ok (X1 c z) (λr=>Cu code r.1/\r.2.size<=330):=by
 have hl:z.2.length<=330:=by unfold Zv X2 at hx;omega
 have h5:∀v a b,Cu code (c.1,a,b)->(v=true->0<z.2.length)->Ok (X1.l5 c z v a b) (λr=>Cu code r.1/\r.2.size<=330):=by
  intro v a b hab hv
  unfold X1.l5 X1.g5
  simp only[both_eq]
  refine Ok.ite (λh=> ?_) λ_=>(Z1O hab).bind λy hy=>Ok.ret ⟨hc.re hy.1,Nat.le_trans hy.2 (by decide)⟩
  refine(Yn hab _).bind λw hw=> ?_
  obtain⟨w1,w2,w3,_⟩:=hw
  have w3:=w3 (by have:=hv h;omega)
  exact Ok.chk (decide_eq_true w2) (Ok.chk (decide_eq_true w3) (Ok.ret ⟨hc.re w1,Z6s hx _⟩))
 unfold X1 X1.b
 refine Ok.ite (λh=> ?_) λ_=>h5 false _ _ hc λh=>by cases h
 have h:=of_decide_eq_true h
 exact(Z0T hc 3).bind λy hy=>h5 _ _ _ (hc.re hy) λ_=>by omega
theorem Z3n {code:List Int}{c:Z3}{p:YC}(hc:Cu code c)(hp:p.2.length<=1000):Ok (WV c p) (λr=>Cu code r.1/\XA r.2.2<=XA p+1):=by
 have hk:∀d:Z3,Cu code d->Ok (some ((c.1,d.2.1,d.2.2),([]:List Int),p.1,p.2)) (λr=>Cu code r.1/\XA r.2.2<=XA p+1):=λd hd=>Ok.ret ⟨hc.re hd,Nat.le_succ _⟩
 unfold WV
 refine(Yn hc 8).bind λy1 h1=>Ok.ite (λ_=> ?_) λ_=>Ok.ite (λ_=>Ok.ite (λh=> ?_) λ_=>hk _ h1.1) λ_=>Ok.ite (λ_=>Ok.chk (QM (by omega)) (Ok.ret ⟨hc.re h1.1,?_⟩)) λ_=>hk _ h1.1
 ·exact(QO (hc.re h1.1) (by decide)).bind λy2 h2=>Ok.ret ⟨hc.re h2.1,Nat.le_succ _⟩
 ·refine Ok.chk (by decide) (Ok.chk h (Ok.chk (by decide) (Ok.chk h (Ok.ret ⟨hc.re h1.1,?_⟩))))
  show(p.2.set _ _).length<=p.2.length+1
  rw[List.length_set]
  omega
 ·show(p.2++[(1:Int)]).length<=p.2.length+1
  rw[QQ]
  exact Nat.le_refl _
theorem Z6D (n:Int)(a b:Z0)(p q:YC):W4 (Qj n a b p q)=ZD a+(ZD b+(XA p+XA q)):=by
 unfold W4
 rw[(Wv _ _ _ _ _).2.1,(Wv _ _ _ _ _).2.2.1,(Wv _ _ _ _ _).2.2.2.1,(Wv _ _ _ _ _).2.2.2.2]
theorem Z62 (c:List Z4)(f:Bool)(e:Z0)(p:YC)(g:Zp):W3 (WJ c f e p g)=YG c+(ZD e+(XA p+W4 g)):=by
 unfold W3
 rw[(Xh _ _ _ _ _).1,(Xh _ _ _ _ _).2.2.1,(Xh _ _ _ _ _).2.2.2.1,(Xh _ _ _ _ _).2.2.2.2]
theorem Z7x {code:List Int}{c:Z3}{g:Zp}(hc:Cu code c)(hg:W4 g<=1000):Ok (XS c g) (λr=>Cu code r.1/\W4 r.2.2.2.2.2<=W4 g+1):=by
 have hz:W4 g=ZD (ZC g)+(ZD (Zz g)+(XA (Yu g)+XA (Yj g))):=rfl
 have hk:∀(d:Z3) (n:Int) (a b:Z0) (p q:YC),Cu code d->ZD a+(ZD b+(XA p+XA q))<=W4 g+1->Ok (some ((c.1,d.2.1,d.2.2),([]:List ByteArray),([]:List ByteArray),([]:List Int),([]:List Int),Qj n a b p q)) (λr=>Cu code r.1/\W4 r.2.2.2.2.2<=W4 g+1):=λd n a b p q hd h=>Ok.ret ⟨hc.re hd,by rw[Z6D];exact h⟩
 have hs:∀d:Z3,Cu code d->∀n:Int,Ok (some ((c.1,d.2.1,d.2.2),([]:List ByteArray),([]:List ByteArray),([]:List Int),([]:List Int),Qj n (ZC g) (Zz g) (Yu g) (Yj g))) (λr=>Cu code r.1/\W4 r.2.2.2.2.2<=W4 g+1):=λd hd n=>hk d n _ _ _ _ hd (by omega)
 unfold XS
 refine(Yn hc 10).bind λy1 h1=>Ok.ite (λ_=> ?_) λ_=>Ok.ite (λ_=> ?_) λ_=>Ok.ite (λ_=> ?_) λ_=>Ok.ite (λ_=> ?_) λ_=>hs y1.1 h1.1 (ZB g)
 ·exact(QO (hc.re h1.1) (by decide)).bind λy2 h2=>hs y2.1 h2.1 y2.2
 ·exact(Z3n (hc.re h1.1) (by unfold XA at hz;omega)).bind λy2 h2=>hk y2.1 (ZB g) (ZC g) (Zz g) y2.2.2 (Yj g) h2.1 (by have:=h2.2;omega)
 ·exact(Z3n (hc.re h1.1) (by unfold XA at hz;omega)).bind λy2 h2=>hk y2.1 (ZB g) (ZC g) (Zz g) (Yu g) y2.2.2 h2.1 (by have:=h2.2;omega)
 ·exact hk y1.1 (ZB g) Zt (Zz g) Wp (Yj g) h1.1 (by have e1:ZD Zt=0:=rfl;have e2:XA Wp=0:=rfl;omega)
theorem Z5J {α:Type}(f:α->Nat)(g:α->α)(h:∀a,f (g a)=f a):∀(xs:List α) (i:Nat),X2 f (V.upd xs i g)=X2 f xs
 |[],_=>rfl
 |x::t,0=>by show(g x::t).length+((g x::t).map f).sum=_;unfold X2;simp only[List.length_cons,List.map_cons,List.sum_cons,h]
 |x::t,i+1=>by
  have:=Z5J f g h t i
  show(x::V.upd t i g).length+((x::V.upd t i g).map f).sum=_
  unfold X2 at this⊢
  simp only[List.length_cons,List.map_cons,List.sum_cons]
  omega
theorem Z7G {code:List Int}{c:Z3}{a:Zi}(hc:Cu code c)(ha:W3 a<=1000):Ok (XU c a) (λr=>Cu code r.1/\W3 r.2.2.2.2.2.2.2.2<=W3 a+9):=by
 have hz:W3 a=YG (ZO a)+(ZD (Zx a)+(XA (Xc a)+W4 (Zh a))):=rfl
 have hk:∀(d:Z3) (s:List Z4) (f:Bool) (e:Z0) (p:YC) (g:Zp),Cu code d->YG s+(ZD e+(XA p+W4 g))<=W3 a+9->Ok (some ((c.1,d.2.1,d.2.2),([]:List Z4),([]:List ByteArray),([]:List Int),([]:List ByteArray),([]:List ByteArray),([]:List Int),([]:List Int),WJ s f e p g)) (λr=>Cu code r.1/\W3 r.2.2.2.2.2.2.2.2<=W3 a+9):=λd s f e p g hd h=>Ok.ret ⟨hc.re hd,by rw[Z62];exact h⟩
 have hl:(ZO a).length<=1000:=by unfold YG X2 at hz;omega
 unfold XU
 refine(Yn hc 12).bind λy1 h1=> ?_
 have hs:=hk y1.1 (ZO a) (Xk a) (Zx a) (Xc a) (Zh a) h1.1 (by omega)
 refine Ok.ite (λ_=> ?_) λ_=>Ok.ite (λ_=> ?_) λ_=>Ok.ite (λ_=> ?_) λ_=>Ok.ite (λ_=> ?_) λ_=>Ok.ite (λ_=> ?_) λ_=>Ok.ite (λ_=> ?_) λ_=>Ok.ite (λ_=> ?_) λ_=>hs
 ·exact hk y1.1 (ZO a) (Xk a) ((Zx a).1,(Zx a).2.1,IntKind.i64.wrap ((Zx a).2.2.1+(1:Int)),(Zx a).2.2.2) (Xc a) (Zh a) h1.1 (by show YG _+(ZD (Zx a)+_)<=_;omega)
 ·exact hk y1.1 (ZO a) (!Xk a) (Zx a) (Xc a) (Zh a) h1.1 (by omega)
 ·exact(Z3n (hc.re h1.1) (by unfold XA at hz;omega)).bind λy2 h2=>hk y2.1 (ZO a) (Xk a) (Zx a) y2.2.2 (Zh a) h2.1 (by have:=h2.2;omega)
 ·exact(Z7x (hc.re h1.1) (by omega)).bind λy2 h2=>hk y2.1 (ZO a) (Xk a) (Zx a) (Xc a) y2.2.2.2.2.2 h2.1 (by have:=h2.2;omega)
 ·refine Ok.ite (λh=> ?_) λ_=>hs
  have h:=of_decide_eq_true h
  have e:=w64 (n:=((ZO a).length:Int)-(1:Int)) (by omega) (by omega)
  refine Ok.chk (by decide) (Ok.chk (decide_eq_true (by rw[e];omega)) (Ok.chk (decide_eq_true (by rw[e];omega)) ?_))
  exact hk y1.1 ((ZO a).take _) (Xk a) (Zx a) (Xc a) (Zh a) h1.1 (by have:=Z5B (ZO a) (IntKind.i64.wrap (((ZO a).length:Int)-(1:Int))).toNat;omega)
 ·exact(Z2t (hc.re h1.1)).bind λy2 h2=>hk y2.1 (ZO a) (Xk a) (y2.2,(Zx a).2) (Xc a) (Zh a) h2.1 (by
   have e1:ZD (y2.2,(Zx a).2)=y2.2.size+Xp (Zx a).2.2.2:=rfl
   have e2:ZD (Zx a)=(Zx a).1.size+Xp (Zx a).2.2.2:=rfl
   have:=h2.2
   omega)
 ·refine Ok.ite (λh=> ?_) λ_=>hs
  have h:=of_decide_eq_true h
  have e:=w64 (n:=((ZO a).length:Int)-(1:Int)) (by omega) (by omega)
  have c1:decide (0<=IntKind.i64.wrap (((ZO a).length:Int)-(1:Int)))=true:=decide_eq_true (by rw[e];omega)
  have c2:decide (IntKind.i64.wrap (((ZO a).length:Int)-(1:Int))<((ZO a).length:Int))=true:=decide_eq_true (by rw[e];omega)
  refine Ok.chk c1 (Ok.chk c2 (Ok.chk c1 (Ok.chk c2 ?_)))
  have hu:∀i n,YG (V.upd (ZO a) i (λz=>(z.1,z.2.1,z.2.2.1,z.2.2.2.1,z.2.2.2.2.1,z.2.2.2.2.2.1,n,z.2.2.2.2.2.2.2)))=YG (ZO a):=λi n=>Z5J Xj (λz=>(z.1,z.2.1,z.2.2.1,z.2.2.2.1,z.2.2.2.2.1,z.2.2.2.2.2.1,n,z.2.2.2.2.2.2.2)) (λs=>rfl) (ZO a) i
  exact hk y1.1 (V.upd (ZO a) _ (λz=>(z.1,z.2.1,z.2.2.1,z.2.2.2.1,z.2.2.2.2.1,z.2.2.2.2.2.1,_,z.2.2.2.2.2.2.2))) (Xk a) (Zx a) (Xc a) (Zh a) h1.1 (by rw[hu];omega)
theorem Z6q {code:List Int}(hl:code.length<=1050000):Ok (Q1 code) (λr=>zB 6 330 (UI r)/\(WZ r).size<=330):=by
 unfold Q1
 simp only[both_eq]
 exact(Z4U hl).bind λc hc=>(Z7F hc).bind λy hy=>(Z4W (hc.re hy.1) hy.2.2.2).bind λw hw=>Ok.ret ⟨hy.2,hw.2⟩
theorem Z6r {code:List Int}(hl:code.length<=1050000):Ok (ZX code) (λr=>(Qd r).size<=330/\W3 (WY r)<=1000):=by
 unfold ZX ZX.b
 simp only[both_eq]
 refine(Z4U hl).bind λc hc=>(Z4V hc).bind λy2 h2=>(Z4W (hc.re h2.1) (Nat.le_trans h2.2.2.2 (by decide))).bind λy3 h3=> ?_
 have k2:=Z2J h2.2
 have kc:=QA y2.2 k2
 have ka:=Z2O y2.2 y3.2
 refine Ok.bind (P:=λy=>W3 y<=624) (Ok.of (Z5i _ _ (by omega) (by have:=h3.2;omega)) (by omega)) λy4 h4=> ?_
 refine(Z7G (hc.re h3.1) (by omega)).bind λy5 h5=> ?_
 have h5':=h5.2
 refine Ok.bind (P:=λ_=>True) (Ok.of (Z0q _ (by omega)) trivial) λy6 _=>(Yn (hc.re h5.1) 40).bind λw0 hw=> ?_
 have fin:∀(l:ByteArray) (n z:Int),l.size<=330->Ok (ZX.l31 y5 l n z) (λr=>(Qd r).size<=330/\W3 (WY r)<=1000):=by
  intro l n z hl
  exact Ok.ret ⟨by rw[(Z3S _ _ _ _).2.1];exact hl,by rw[(Z3S _ _ _ _).2.2.1];omega⟩
 unfold ZX.l15 ZX.g15
 simp only[both_eq]
 exact(Yn (hc.re hw.1) 12).bind λy8 h8=>Ok.ite (λ_=>fin _ _ _ h3.2) λ_=>Ok.ite (λ_=>(Z1O (hc.re h8.1)).bind λy9 h9=>fin _ _ _ (Nat.le_trans h9.2 (by decide))) λ_=>Ok.ite (λ_=>(Yn (hc.re h8.1) 2).bind λ_ _=>fin _ _ _ h3.2) λ_=>fin _ _ _ h3.2
theorem Z9v {z:Zm}(h:W2 z=true):X8 (Yg z)=true:=by
 obtain⟨hc,_⟩:=Z25 h
 have hl:=Z2q _ hc
 have e2:Uo z.1=z.1.getD (z.1.length-1) Xo:=by
  unfold Uo
  rw[w64 (by omega) (by omega)]
  congr 1
  omega
 unfold Yg
 rw[e2,at_n (show z.1.length-1<z.1.length by omega)]
 exact Z2S z.1 hc (z.1.length-1) (by omega)
theorem Z82 (c:Int)(xs:List ByteArray)(h:1<=c)(h2:c<=(xs.length:Int))(hl:xs.length<=100):UT c xs=some (xs.getD (c-1).toNat (⟨#[]⟩:ByteArray)):=by
 have e:XX c 1 (xs.length:Int)=true:=by
  unfold XX
  rw[decide_eq_true h,decide_eq_true h2];rfl
 have w:IntKind.i64.wrap (c-(1:Int))=c-1:=w64 (by omega) (by omega)
 unfold UT
 refine Z8 (Z26 _ _ _) (cF (by rw[e];rfl) ?_)
 rw[w]
 exact cT (decide_eq_true (by omega)) (cT (decide_eq_true (by omega)) rfl)
theorem Z83 (c:Int)(h:1<=c)(h2:c<=6):∃y,WK c=some y/\(y.toList==(⟨#[]⟩:ByteArray).toList)=false:=by
 unfold WK
 refine⟨_,Z8 (Z82 c _ h h2 (by decide)) rfl,?_⟩
 have:c=1∨c=2∨c=3∨c=4∨c=5∨c=6:=by omega
 rcases this with e|e|e|e|e|e<;>subst e<;>show(_==_)=false<;>kernel_rfl
theorem Z6a (zone:Int)(l:ByteArray)(a:Zi)(now:Int):1<=Uf zone l a now/\Uf zone l a now<=6:=by
 unfold Uf
 cases(!XY (ZO a))<;>cases(ZH (WE a) !=zone)<;>cases(!Yx now (Zr (WE a)) (ZE (WE a)))<;>cases Zq (WE a)<;>cases(!proved (WE a) l a)<;>exact⟨by decide,by decide⟩
theorem Z69 {zone:Int}{l:ByteArray}{a:Zi}{now:Int}(h:(Uf zone l a now==(1:Int))=true):proved (WE a) l a=true:=by
 unfold Uf at h
 revert h
 cases(!XY (ZO a))<;>cases(ZH (WE a) !=zone)<;>cases(!Yx now (Zr (WE a)) (ZE (WE a)))<;>cases Zq (WE a)<;>cases hp:proved (WE a) l a<;>intro h<;>first|rfl|(revert h;decide)
theorem Z3Y {code:List Int}(hc:code.length<=1050000):Zk.l41 code=some true:=by
 obtain⟨y,hd,h1,h2⟩:=Z6r hc
 obtain⟨r1,r2⟩:=Z6a (QC y) (Qd y) (WY y) (QD y)
 obtain⟨w,hw,hn⟩:=Z83 _ r1 r2
 have he:ZD (Zx (WY y))<=1000:=by unfold W3 at h2;omega
 unfold Zk.l41 Zk.g41
 refine Z8 hd (Z8 (Z0J _ _ _ _ (by omega) (by omega)) (Z8 (Z6Q _ _ _ _ (by omega) (by omega)) (Z8 (Z8v _ _ _ _ (by omega) (by omega)) (cT (beq_self_eq_true _) ?_))))
 have fin:∀b:Bool,b=true->(bif b then(WK (Uf (QC y) (Qd y) (WY y) (QD y))).bind λy20=>some (!(y20.toList==(⟨#[]⟩:ByteArray).toList))else some false)=some true:=λb hb=>cT hb (Z8 hw (by rw[hn];rfl))
 cases h:(Uf (QC y) (Qd y) (WY y) (QD y)==(1:Int))with
 |false=>
  have e:Z0j (QC y) (Qd y) (WY y) (QD y)=Z0D:=by
   unfold Z0j
   rw[h,Bool.and_false,cond_f]
  rw[e]
  exact cF rfl (cT rfl (cT rfl (Z8 hw (by rw[hn];rfl))))
 |true=>
  cases hf:Xk (WY y)with
  |false=>
   have e:Z0j (QC y) (Qd y) (WY y) (QD y)=Z0D:=by
    unfold Z0j
    rw[hf,Bool.false_and,cond_f]
   rw[e]
   exact cT rfl (cT rfl (cT rfl (Z8 hw (by rw[hn];rfl))))
  |true=>
   have hp:=Z69 h
   unfold proved at hp
   rw[hf,cond_t,Bool.and_eq_true]at hp
   have e:Z0j (QC y) (Qd y) (WY y) (QD y)=Z0v (Zx (WY y)) true:=by
    unfold Z0j
    rw[hf,h,Bool.true_and,cond_t]
   rw[e,(Z3Q _ _).1,(Z3Q _ _).2]
   exact cT rfl (cT rfl (cF rfl (Z8 (Z1F _ _ (by omega)) (cT (Z0F _) (fin _ hp.1)))))
theorem Z6o {root count:Int}{l:ByteArray}(h:1<=count):QL root count l Wo=false:=by
 have e:QK root count l Wo=false:=by
  unfold QK
  have e1:(ZB Wo==count)=false:=beq_eq_false_iff_ne.2 (by show(0:Int)≠count;omega)
  rw[e1,cond_f]
  have:Ww root count (Zz Wo) (Yj Wo)=false:=by
   unfold Ww
   have:Qi (Zz Wo)=false:=rfl
   rw[this,Bool.false_and]
  rw[this,Bool.false_and]
 unfold QL
 rw[e,Bool.and_false,Bool.and_false,Bool.and_false,Bool.and_false]
theorem Z63 {code:List Int}(hc:code.length<=1050000){y:Wk}(h1:zB 6 330 (UI y))(h2:(WZ y).size<=330)(hz:W2 (UI y)=true)(hl:Xy (WZ y)=true):Zk.l17 code y (QW (UI y) (WZ y)) true=some true:=by
 have h41:=Z3Y hc
 revert h1 h2 hz hl
 generalize ez:UI y=z
 generalize el:WZ y=l
 intro h1 h2 hz hl
 have k1:=Z2J h1
 have k2:=Z2O z l
 have k3:=QA z k1
 obtain⟨p1,p2,p3,p4,p5⟩:=Z25 hz
 obtain⟨q1,q2,q3⟩:=Z2P hz hl
 have hh:=Z9v hz
 obtain⟨s1,s2,s3⟩:=Z7q _ hh
 have hid:0<=ZH (Yg z)/\ZH (Yg z)<=2147483646:=by
  unfold X8 hr4 XX at hh
  simp only[Bool.and_eq_true,decide_eq_true_eq]at hh
  exact hh.1.1
 have hr:Z6 (Ql z.1)=Yg z:=by
  unfold Ql
  rw[p1,cond_t,(Z27 _ _).1]
  rfl
 have hpr:=Z6H hz hl
 rw[q1]at k2⊢
 have ine:(ZH (Yg z) !=ZH (Yg z))=false:=Z59 _
 have l31:Zk.l31 code y (Wd z l) (Ql z.1) (Z0e z)=some true:=by
  have klie:W3 (Z0Q (Wd z l))<=1050000:=by
   have:=Z56 1 (Wd z l)
   have e:lie 1 (Wd z l)=Z0Q (Wd z l):=rfl
   rw[e]at this
   omega
  have kd:W3 (Z0P (Wd z l))<=1050000:=by
   have:=Z56 3 (Wd z l)
   have e:lie 3 (Wd z l)=Z0P (Wd z l):=rfl
   rw[e]at this
   omega
  unfold Zk.l31 Zk.g31
  rw[hr,el]
  refine Z8 (Z0J _ _ (Z0Q (Wd z l)) _ (by omega) klie) (cF (Z45 hz (by rw[Z7Z,q2]) (Z80 hz hl)) ?_)
  rw[q3]
  cases hf:decide (Xv z.2 l>=0)with
  |false=>exact cF rfl h41
  |true=>
   refine cT rfl (Z8 (Z0J _ _ (Z0P (Wd z l)) _ (by omega) kd) (cF (Z45 hz (by unfold Z0P;rw[(Xh _ _ _ _ _).1,q2]) ?_) h41))
   obtain⟨i,hi,_⟩:=Z30 (of_decide_eq_true hf)
   unfold proved Z0P
   rw[(Xh _ _ _ _ _).2.1,cond_f,(Xh _ _ _ _ _).2.2.2.2,Z6o (by omega),Bool.false_and]
 have l27:∀v,Uf (Z0e z) l (Wd z l) (ZE (Yg z))=v->Zk.l27 code y (Wd z l) (Ql z.1) (Z0e z) v=some true:=by
  intro v hv
  unfold Zk.l27 Zk.g27
  rw[hr,el,ez]
  have hfl:z.2.length<=1050000:=by
   have:=Z0Y z k1
   unfold Zv X2 at this
   omega
  have ew:IntKind.i64.wrap (ZE (Yg z)+(1:Int))=ZE (Yg z)+1:=w64 (by omega) (by omega)
  have ez2:IntKind.i64.wrap (Z0e z+(1:Int))=ZH (Yg z)+1:=by rw[p5];exact w64 (by omega) (by omega)
  refine Z8 (Z0J _ _ _ _ (by omega) (by omega)) (cF (by rw[hv];exact Z59 _) (Z8 (Z2E z.2 l hfl) (cF (by rw[q3,beq_self_eq_true];rfl) (Z8 (Z0J _ _ _ _ (by omega) (by omega)) (cF ?_ (Z8 (Z0J _ _ _ _ (by omega) (by omega)) (cF ?_ l31)))))))
  ·have e:Yx (ZE (Yg z)+1) (Zr (Yg z)) (ZE (Yg z))=false:=by
    unfold Yx
    rw[decide_eq_false (show¬ZE (Yg z)+1<=ZE (Yg z) by omega),Bool.and_false]
   rw[Z2b hz q2,p5,ine,cond_f,ew,e]
   rfl
  ·have e:(ZH (Yg z) !=ZH (Yg z)+1)=true:=bne_iff_ne.2 (by omega)
   rw[Z2b hz q2,ez2,e]
   rfl
 have hv:Uf (Z0e z) l (Wd z l) (ZE (Yg z))=bif Zq (Yg z)then 5 else 1:=by
  have e:Yx (ZE (Yg z)) (Zr (Yg z)) (ZE (Yg z))=true:=by
   unfold Yx
   rw[decide_eq_true s2,decide_eq_true (Int.le_refl _)];rfl
  rw[Z2b hz q2,p5,ine,cond_f,e,hpr]
  rfl
 unfold Zk.l17 Zk.g17
 rw[ez]
 refine cT rfl (Z8 (Z0q _ (by omega)) (Z8 (Z94 z (by omega)) ?_))
 rw[hr]
 cases hfz:Zq (Yg z)with
 |true=>exact cT rfl (l27 5 (by rw[hv,hfz];rfl))
 |false=>exact cF rfl (l27 1 (by rw[hv,hfz];rfl))
theorem pure_FnAnswers (x0:List Int):Zk x0=some true:=by
 unfold Zk Zk.b
 refine Z8 rfl ?_
 by_cases hb:(x0.length:Int)>1048576
 ·exact cT (decide_eq_true hb) rfl
 refine cF (decide_eq_false hb) ?_
 have hc:x0.length<=1050000:=by omega
 obtain⟨y,hd,h1,h2⟩:=Z6q hc
 have k1:=Z2J h1
 have k2:=Z2O (UI y) (WZ y)
 have k3:=QA _ k1
 refine Z8 hd (Z8 (Z6K _ _ (by omega) (by omega)) (Z8 (Z5i _ _ (by omega) (by omega)) (Z8 (Z6R _ _ (by omega) (by omega)) (cF (by rw[Z6u];rfl) (Z8 (Z1X _ (by omega)) ?_)))))
 have no:Zk.l17 x0 y (QW (UI y) (WZ y)) false=some true:=by
  unfold Zk.l17 Zk.g17
  exact cF rfl (Z3Y hc)
 cases hz:W2 (UI y)with
 |false=>exact cF rfl no
 |true=>
  refine cT rfl (Z8 (Z1i _ (by omega)) ?_)
  cases hl:Xy (WZ y)with
  |false=>exact no
  |true=>exact Z63 hc h1 h2 hz hl

end Go.Proofs.YtcbeaoigenjoeaeGreat
