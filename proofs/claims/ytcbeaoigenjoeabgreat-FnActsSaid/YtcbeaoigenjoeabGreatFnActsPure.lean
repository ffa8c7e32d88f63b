/- The plain law of FnActs: what the printed functions compute is true, for all data in range. -/
import Derived.Test.YtcbeaoigenjoeabGreatFnActsPure0
namespace Go.Proofs.YtcbeaoigenjoeabGreat
open V
set_option linter.unusedVariables false
set_option linter.unusedSimpArgs false
set_option maxHeartbeats 1000000
theorem Zh {α β:Type}{e:Option α}{a:α}{f:α→Option β}{r:Option β}(h:e=some a)(hf:f a=r):e.bind f=r:=by rw[h,bind_s];exact hf
theorem cF {α:Type}{c:Bool}{a b r:α}(h:c=false)(hb:b=r):(bif c then a else b)=r:=by rw[h,cond_f];exact hb
theorem cT {α:Type}{c:Bool}{a b r:α}(h:c=true)(ha:a=r):(bif c then a else b)=r:=by rw[h,cond_t];exact ha
def Ub {α:Type}(p:α→Bool):List α→Int→Int
 |[],_=> -1
 |x::xs,k=>bif p x then k else Ub p xs (k+1)
theorem Z1A {α:Type}(p:α→Bool)(x:α)(xs:List α)(k:Int):Ub p (x::xs) k=bif p x then k else Ub p xs (k+1):=rfl
theorem Z0G {α:Type}(p:α→Bool){xs:List α}{i:Nat}(h:i<xs.length):Ub p (xs.drop i) (i:Int)=bif p xs[i]then(i:Int)else Ub p (xs.drop (i+1)) ((i+1:Nat):Int):=by
 rw[List.drop_eq_getElem_cons h,Z1A];rfl
theorem Z0F {α:Type}(p:α→Bool)(xs:List α)(k:Int):Ub p (xs.drop xs.length) k= -1:=by
 rw[List.drop_length];rfl
theorem Z0E {α:Type}(p:α→Bool)(xs:List α):∀k:Int,0≤k→decide (Ub p xs k≥0)=xs.any p:=by
 induction xs with
 |nil=>intro k hk;rfl
 |cons x t ih=>
  intro k hk
  rw[Z1A,List.any_cons]
  cases p x with
  |true=>rw[cond_t,Bool.true_or];exact decide_eq_true hk
  |false=>rw[cond_f,Bool.false_or];exact ih _ (by omega)
theorem UI (a b c:Int):Yg a b c=some (decide (b≤a)&&decide (a≤c)):=by
 show(bif decide (b≤a)then some (decide (a≤c))else some false)=_
 cases decide (b≤a)<;>rfl
theorem UB (a b c:Int):ZZ a b c=some (decide (b≤a)&&decide (a≤c)):=by
 show(bif decide (b≤a)then some (decide (a≤c))else some false)=_
 cases decide (b≤a)<;>rfl
def Xb {α:Type}(size:α→Nat)(xs:List α):Nat:=xs.length+(xs.map size).sum
theorem Z1f {α:Type}(size:α→Nat){xs:List α}{i:Nat}(h:i<xs.length):size xs[i]≤(xs.map size).sum:=by
 induction xs generalizing i with
 |nil=>simp at h
 |cons x t ih=>
  rw[List.map_cons,List.sum_cons]
  cases i with
  |zero=>show size x≤_;omega
  |succ i=>
   have hi:i<t.length:=by simpa using h
   have:=ih hi
   show size t[i]≤_
   omega
theorem wd {n:Int}(h:0≤n∧n≤4611686018427387904):IntKind.i64.wrap n=n:=w64 (by omega) (by omega)
def XF (x:ByteArray):Nat:=x.size
def Xv (xs:List ByteArray):Nat:=Xb XF xs
def XE (x:Z5):Nat:=x.1.length
def Zg (x:Z0):Nat:=XE (Zp x)+(XE (Ze x)+(XE (Zk x)))
def Xy (x:Z6):Nat:=Zg (Zf x)+((U9 x).length)
def W9 (xs:List Z6):Nat:=Xb Xy xs
def YN (x:Z4):Nat:=XF x.1+(Xv x.2.2.2)
def ZI (xs:List Z4):Nat:=Xb YN xs
theorem Z2r (n:Int)(h0:0≤n)(h1:n<68719476736):YO [] n=some []:=by
 have e0:IntKind.i64.wrap ((0:Int)-((0:Nat):Int))=0:=w64 (by omega) (by omega)
 have e1:IntKind.i64.wrap (n-0)=n:=by rw[w64 (by omega) (by omega)];omega
 unfold YO
 simp only[YO.b,YO.l7,YO.g7,e0,e1]
 rw[decide_eq_false (by omega),cond_f]
 by_cases h:n>0
 ·rw[decide_eq_true h,cond_t,decide_eq_true (by omega),cond_t,decide_eq_true h1,cond_t,decide_eq_true (by omega),cond_t,decide_eq_true (by omega),cond_t,decide_eq_true (by omega),cond_t]
  simp
 ·rw[decide_eq_false h,cond_f]
theorem Z2l (x0:List (List Int))(hl:x0.length<1152921504606846976):∀i n,i≤x0.length→x0.length-i<n→∀acc:List Int,acc.length+(x0.drop i).flatten.length<68719476736→Zw.l22 x0 n (x0.length:Int) (i:Int) acc=some (acc++(x0.drop i).flatten):=by
 refine idx_ind ?_ ?_
 ·intro n acc ha
  rw[Zw.u22]
  simp only[Zw.g22,lt_f (Nat.le_refl _),cond_f,List.drop_length,List.flatten_nil,List.append_nil]
 ·intro i n hi ih acc ha
  rw[List.drop_eq_getElem_cons hi,List.flatten_cons]at ha⊢
  rw[List.length_append]at ha
  rw[Zw.u22]
  simp only[Zw.g22,lt_t hi,ge_t,cond_t,w64_succ (i:=i) (by omega),Int.toNat_natCast,at_n hi]
  rw[decide_eq_true (by omega),cond_t,ih _ (by rw[List.length_append];omega),List.append_assoc]
theorem Z2m (x0:List (List Int))(hl:x0.length<1152921504606846976)(hf:x0.flatten.length<68719476736):∀i n,i≤x0.length→x0.length-i<n→∀s:Int,0≤s→s+(x0.drop i).flatten.length<68719476736→Zw.l6 x0 n s (x0.length:Int) (i:Int)=some x0.flatten:=by
 refine idx_ind ?_ ?_
 ·intro n s h0 ha
  rw[Zw.u6]
  rw[List.drop_length,List.flatten_nil]at ha
  simp only[Zw.g6,lt_f (Nat.le_refl _),cond_f]
  rw[Z2r s h0 (by simpa using ha),bind_s]
  have:=Z2l x0 hl 0 KK (Nat.zero_le _) (KK_gt (by omega)) [] (by simpa using hf)
  simpa using this
 ·intro i n hi ih s h0 ha
  rw[List.drop_eq_getElem_cons hi,List.flatten_cons,List.length_append]at ha
  rw[Zw.u6]
  simp only[Zw.g6,lt_t hi,ge_t,cond_t,w64_succ (i:=i) (by omega),Int.toNat_natCast,at_n hi]
  rw[w64 (n:=s+(x0[i].length:Int)) (by omega) (by omega),decide_eq_false (by omega),cond_f,ih _ (by omega) (by omega)]
theorem Z1h (x0:List (List Int))(hl:x0.length<1152921504606846976)(hf:x0.flatten.length<68719476736):Zw x0=some x0.flatten:=by
 have:=Z2m x0 hl hf 0 KK (Nat.zero_le _) (KK_gt (by omega)) 0 (Int.le_refl 0) (by rw[List.drop_zero,Int.zero_add];omega)
 exact this
theorem Z2v (a b:Int):WI a b=W8 a b:=by
 unfold WI W8
 rw[UI,UB]
def Z0Z (a:Int):Int:=Int.tmod (IntKind.i64.wrap (Int.tmod a 2147483647+2147483647)) 2147483647
theorem Z1j (a:Int):W8 a 2147483647=some (Z0Z a):=by
 unfold W8 Z0Z
 rw[UB,bind_s]
 rw[decide_eq_true (by omega),decide_eq_true (by omega),Bool.and_self,Bool.not_true,cond_f]
 rw[show((2147483647:Int)==0)=false from by decide,cond_f,cond_f]
def UY (h a:Int):Int:=Int.tmod (IntKind.i64.wrap ((IntKind.i64.wrap ((IntKind.i64.wrap (h*(1000003:Int)))+Z0Z a))+(13:Int))) (2147483647:Int)
theorem Z4J (x0:List Int)(hx:x0.length≤1152921504606846976):∀i n,i≤x0.length→x0.length-i<n→∀h:Int,ZG.l6 x0 n h (i:Int)=some ((x0.drop i).foldl UY h):=by
 refine idx_ind ?_ ?_
 ·intro n h
  rw[ZG.u6]
  simp only[ZG.g6,lt_f (Nat.le_refl _),cond_f,List.drop_length,List.foldl_nil]
 ·intro i n hi ih h
  rw[List.drop_eq_getElem_cons hi,List.foldl_cons]
  rw[ZG.u6]
  simp only[ZG.g6,lt_t hi,ge_t,cond_t,bind_s,w64_succ (i:=i) (by omega),Int.toNat_natCast,at_n hi,Z2v,Z1j]
  rw[show((2147483647:Int)==0)=false from by decide,cond_f,ih]
  rfl
theorem Z3h (x0:List Int)(hx:x0.length≤1152921504606846976):∀i n,i≤x0.length→x0.length-i<n→∀h:Int,ZW.l6 x0 n h (x0.length:Int) (i:Int)=some ((x0.drop i).foldl UY h):=by
 refine idx_ind ?_ ?_
 ·intro n h
  rw[ZW.u6]
  simp only[ZW.g6,lt_f (Nat.le_refl _),cond_f,List.drop_length,List.foldl_nil]
 ·intro i n hi ih h
  rw[List.drop_eq_getElem_cons hi,List.foldl_cons]
  rw[ZW.u6]
  simp only[ZW.g6,lt_t hi,ge_t,cond_t,bind_s,w64_succ (i:=i) (by omega),Int.toNat_natCast,at_n hi,Z1j]
  rw[show((2147483647:Int)==0)=false from by decide,cond_f,ih]
  rfl
theorem Qi (x0:List Int)(hx:x0.length≤1152921504606846976):ZG x0=some (x0.foldl UY 11):=by
 have:=Z4J x0 hx 0 KK (Nat.zero_le _) (KK_gt (by omega)) 11
 rw[List.drop_zero]at this
 exact this
theorem Z0c (x0:List Int)(hx:x0.length≤1152921504606846976):ZW x0=some (x0.foldl UY 11):=by
 have:=Z3h x0 hx 0 KK (Nat.zero_le _) (KK_gt (by omega)) 11
 rw[List.drop_zero]at this
 exact this
def WY (k:Z5):List Int:=[k.2,(k.1.length:Int)]++k.1
theorem QP (k:Z5):(WY k).length=k.1.length+2:=by unfold WY;simp
theorem Z0t (k:Z5)(h:k.1.length≤1050000):XG k=some (WY k):=by
 unfold XG WY
 rw[decide_eq_true (by simp;omega),cond_t]
theorem Z0K (k:Z5)(h:k.1.length≤1050000):XQ k=some (WY k):=by
 unfold XQ WY
 rw[decide_eq_true (by simp;omega),cond_t]
def Uc (x0:Z0):List Int:=[(ZF x0),(Zz x0),(ZH x0),(Zr x0),(ZV x0),(ZO x0),(ZP x0),(Yq x0)]
def Up (x0:Z0):List Int:=[(Zx x0)]
def Qu (x0:Z0):List Int:=[bif(Zj x0)then(1:Int)else 0]
def XM (x0:Z0):List Int:=((((Uc x0++WY (Zp x0))++WY (Ze x0))++Up x0)++WY (Zk x0))++Qu x0
theorem Qv (x0:Z0):(XM x0).length=Zg x0+16:=by
 unfold XM Zg XE
 simp only[List.length_append,QP]
 simp[Uc,Up,Qu];omega
theorem Z2A {α:Type}(a b:List α):(a++b).length=a.length+b.length:=List.length_append
theorem Z0r (x0:Z0)(h:Zg x0≤1050000):YW x0=some (XM x0):=by
 have hs:=h
 unfold Zg XE at hs
 have e1:=Z0t (Zp x0) (by omega)
 have e2:=Z0t (Ze x0) (by omega)
 have e3:=Z0t (Zk x0) (by omega)
 have l1:=QP (Zp x0)
 have l2:=QP (Ze x0)
 have l3:=QP (Zk x0)
 have l8:(Uc x0).length=8:=rfl
 have le:(Up x0).length=1:=rfl
 show((XG (Zp x0)).bind fun y1=>bif decide ((Uc x0).length+y1.length<68719476736)then(XG (Ze x0)).bind fun y2=>bif decide ((Uc x0++y1).length+y2.length<68719476736)then bif decide (((Uc x0++y1)++y2).length+(Up x0).length<68719476736)then(XG (Zk x0)).bind fun y3=>bif decide ((((Uc x0++y1)++y2)++Up x0).length+y3.length<68719476736)then bif(Zj x0)then bif decide (((((Uc x0++y1)++y2)++Up x0)++y3).length+[(1:Int)].length<68719476736)then some (((((Uc x0++y1)++y2)++Up x0)++y3)++[(1:Int)])else none else bif decide (((((Uc x0++y1)++y2)++Up x0)++y3).length+[(0:Int)].length<68719476736)then some (((((Uc x0++y1)++y2)++Up x0)++y3)++[(0:Int)])else none else none else none else none else none)=_
 simp only[e1,e2,e3,bind_s,Z2A,l1,l2,l3,l8,le,List.length_singleton]
 rw[decide_eq_true (by omega),cond_t,decide_eq_true (by omega),cond_t,decide_eq_true (by omega),cond_t,decide_eq_true (by omega),cond_t,decide_eq_true (by omega),cond_t]
 unfold XM Qu
 cases(Zj x0)<;>rfl
theorem Z0J (x0:Z0)(h:Zg x0≤1050000):X1 x0=some (XM x0):=by
 have hs:=h
 unfold Zg XE at hs
 have e1:=Z0K (Zp x0) (by omega)
 have e2:=Z0K (Ze x0) (by omega)
 have e3:=Z0K (Zk x0) (by omega)
 have eb:We (Zj x0)=some (bif(Zj x0)then(1:Int)else 0):=by
  unfold We
  cases(Zj x0)<;>rfl
 have ef:[Uc x0,WY (Zp x0),WY (Ze x0),Up x0,WY (Zk x0),Qu x0].flatten=XM x0:=by
  simp[XM]
 have ec:=Z1h [Uc x0,WY (Zp x0),WY (Ze x0),Up x0,WY (Zk x0),Qu x0] (by simp) (by rw[ef,Qv];omega)
 rw[ef]at ec
 show((XQ (Zp x0)).bind fun y1=>(XQ (Ze x0)).bind fun y2=>(XQ (Zk x0)).bind fun y3=>(We (Zj x0)).bind fun y4=>(Zw [Uc x0,y1,y2,Up x0,y3,[y4]]).bind fun y5=>some y5)=_
 simp only[e1,e2,e3,eb,bind_s]
 rw[show [bif(Zj x0)then(1:Int)else 0]=Qu x0 from rfl,ec,bind_s]
def WR (x0:Z0):Int:=([(233:Int)]++XM x0).foldl UY 11
theorem Z18 (x0:Z0)(h:Zg x0≤1050000):YX x0=some (WR x0):=by
 have hl:=Qv x0
 unfold YX WR
 rw[Z0r x0 h,bind_s,decide_eq_true (by simp[hl];omega),cond_t,Qi _ (by simp[hl];omega),bind_s]
theorem Qw (x0:Z0)(h:Zg x0≤1050000):YM x0=some (WR x0):=by
 have hl:=Qv x0
 unfold YM WR
 rw[Z0J x0 h,bind_s,decide_eq_true (by simp[hl];omega),cond_t,Z0c _ (by simp[hl];omega),bind_s]
def QO (k:Int)(xs:List Int):Int:=(([k]++xs)++[k]).foldl UY 11
theorem Z4U (k:Int)(xs:List Int)(h:xs.length≤16777216):WG k xs=some (QO k xs):=by
 unfold WG QO
 rw[decide_eq_true (by simp;omega),cond_t,decide_eq_true (by simp;omega),cond_t,Qi _ (by simp;omega),bind_s]
theorem Z3q (k:Int)(xs:List Int)(h:xs.length≤16777216):Wq k xs=some (QO k xs):=by
 have ef:[[k],xs,[k]].flatten=([k]++xs)++[k]:=by simp
 have ec:=Z1h [[k],xs,[k]] (by simp) (by rw[ef];simp;omega)
 rw[ef]at ec
 unfold Wq QO
 rw[ec,bind_s,Z0c _ (by simp;omega),bind_s]
def UA (k:Int)(xs:List Int):Int:=QO k ([(223:Int)]++xs)
theorem Z25 (k:Int)(xs:List Int)(h:xs.length≤8388608):W2 k xs=some (UA k xs):=by
 unfold W2 UA
 rw[decide_eq_true (by simp;omega),cond_t,Z4U _ _ (by simp;omega),bind_s]
theorem Z1E (k:Int)(xs:List Int)(h:xs.length≤8388608):XZ k xs=some (UA k xs):=by
 unfold XZ UA
 rw[decide_eq_true (by simp;omega),cond_t,Z3q _ _ (by simp;omega),bind_s]
theorem Z0O (k:Int):XU k=some (decide (1≤k)&&decide (k≤99)):=by
 unfold XU
 rw[UB,bind_s]
def UP (s:Zb)(xs:List Int):Bool:=(decide (1≤s.1)&&decide (s.1≤99))&&(s.2==UA s.1 xs)
theorem Z4Q (s:Zb)(xs:List Int)(h:xs.length≤8388608):WF s xs=some (UP s xs):=by
 unfold WF UP
 rw[UI,bind_s,Z25 _ _ h,bind_s]
 cases(decide (1≤s.1)&&decide (s.1≤99))<;>rfl
theorem Z3m (s:Zb)(xs:List Int)(h:xs.length≤8388608):Wo s xs=some (UP s xs):=by
 unfold Wo UP
 rw[Z0O,bind_s,Z1E _ _ h,bind_s]
 cases(decide (1≤s.1)&&decide (s.1≤99))<;>rfl
def UL (k:Int)(xs:List Int)(s:Zb):Bool:=s.1==k&&UP s xs
theorem Z2s (x0:List Zb)(x1:Unit×(Int×List Int))(hx:x0.length≤1050000)(hm:x1.2.2.length≤8388608):∀i n,i≤x0.length→x0.length-i<n→Ya.l4 x0 x1 n (x0.length:Int) (i:Int)=some (Ub (UL x1.2.1 x1.2.2) (x0.drop i) (i:Int)):=by
 refine idx_ind ?_ ?_
 ·intro n
  rw[Ya.u4]
  simp only[Ya.g4,lt_f (Nat.le_refl _),cond_f,Z0F]
 ·intro i n hi ih
  rw[Ya.u4]
  simp only[Ya.g4,WT,Z3m _ _ hm,lt_t hi,ge_t,cond_t,bind_s,w64_succ (i:=i) (by omega),Int.toNat_natCast,at_n hi,Z0G _ hi,ih]
  unfold UL
  cases(x0[i].1==x1.2.1)<;>cases(UP x0[i] x1.2.2)<;>rfl
theorem Z2n (x0:List Zb)(k:Int)(xs:List Int)(hx:x0.length≤1050000)(hm:xs.length≤8388608):Wy x0 ((),(k,xs))=some (x0.any (UL k xs)):=by
 have h:=Z2s x0 ((),(k,xs)) hx hm 0 KK (Nat.zero_le _) (KK_gt (by omega))
 have e:Ya x0 ((),(k,xs))=some (Ub (UL k xs) x0 0):=by
  unfold Ya
  simpa [Ya.b]using h
 unfold Wy
 rw[e,bind_s,Z0E _ _ _ (Int.le_refl 0)]
def U1 (p:Int→Bool):List Int→Int→Int
 |[],c=>c
 |k::ks,c=>U1 p ks (bif p k then c+1 else c)
theorem Z1w (p:Int→Bool){ks:List Int}{i:Nat}(h:i<ks.length)(c:Int):U1 p (ks.drop i) c=U1 p (ks.drop (i+1)) (bif p ks[i]then c+1 else c):=by
 rw[List.drop_eq_getElem_cons h];rfl
theorem Z1u (p:Int→Bool)(ks:List Int)(c:Int):U1 p (ks.drop ks.length) c=c:=by
 rw[List.drop_length];rfl
def Uh (sg:List Zb)(xs:List Int)(k:Int):Bool:=sg.any (UL k xs)
theorem Z3e (x0:Z5)(xs:List Int)(sg:List Zb)(hk:x0.1.length≤1050000)(hs:sg.length≤1050000)(hm:xs.length≤8388608):∀i n,i≤x0.1.length→x0.1.length-i<n→∀c:Int,0≤c→c≤i→Yj.l6 x0 xs sg n c (x0.1.length:Int) (i:Int)=some (U1 (Uh sg xs) (x0.1.drop i) c):=by
 refine idx_ind ?_ ?_
 ·intro n c h0 h1
  rw[Yj.u6]
  simp only[Yj.g6,lt_f (Nat.le_refl _),cond_f,Z1u]
 ·intro i n hi ih c h0 h1
  rw[Yj.u6]
  simp only[Yj.g6,lt_t hi,ge_t,cond_t,bind_s,w64_succ (i:=i) (by omega),Int.toNat_natCast,at_n hi,Z2n _ _ _ hs hm,Z1w _ hi,w64 (n:=c+1) (by omega) (by omega)]
  rw[show sg.any (UL x0.1[i] xs)=Uh sg xs x0.1[i]from rfl]
  cases Uh sg xs x0.1[i]with
  |true=>rw[cond_t,cond_t];exact ih _ (by omega) (by omega)
  |false=>rw[cond_f,cond_f];exact ih _ (by omega) (by omega)
theorem Z3f (x0:Z5)(xs:List Int)(sg:List Zb)(hk:x0.1.length≤1050000)(hs:sg.length≤1050000)(hm:xs.length≤8388608):Yj x0 xs sg=some (U1 (Uh sg xs) x0.1 0):=by
 have:=Z3e x0 xs sg hk hs hm 0 KK (Nat.zero_le _) (KK_gt (by omega)) 0 (Int.le_refl 0) (by omega)
 rw[List.drop_zero]at this
 exact this
theorem Z4B (x0:Z5)(xs:List Int)(sg:List Zb)(hs:sg.length≤1050000)(hm:xs.length≤8388608)(c:Int)(j:Nat)(hj:j<x0.1.length)(r:Int→Int→Option Int):∀i n,i≤sg.length→sg.length-i<n→Zo.l12 x0 xs sg c (j:Int) r n (i:Int)=bif(sg.drop i).any (UL x0.1[j] xs)then r (IntKind.i64.wrap (c+1)) (IntKind.i64.wrap ((j:Int)+1))else r c (IntKind.i64.wrap ((j:Int)+1)):=by
 refine idx_ind ?_ ?_
 ·intro n
  rw[Zo.u12]
  simp only[Zo.g12,lt_f (Nat.le_refl _),cond_f,List.drop_length,List.any_nil]
 ·intro i n hi ih
  rw[Zo.u12]
  simp only[Zo.g12,Zo.l19,Zo.g19,lt_t hi,lt_t hj,ge_t,cond_t,cond_f,bind_s,w64_succ (i:=i) (by omega),Int.toNat_natCast,at_n hi,at_n hj,Z4Q _ _ hm,ih]
  rw[List.drop_eq_getElem_cons hi,List.any_cons]
  rw[show UL x0.1[j] xs sg[i]=(sg[i].1==x0.1[j]&&UP sg[i] xs)from rfl]
  cases(sg[i].1==x0.1[j])<;>cases(UP sg[i] xs)<;>rfl
theorem Z4A (x0:Z5)(xs:List Int)(sg:List Zb)(hk:x0.1.length≤1050000)(hs:sg.length≤1050000)(hm:xs.length≤8388608):∀i n,i≤x0.1.length→x0.1.length-i<n→∀c:Int,0≤c→c≤i→Zo.l6 x0 xs sg n c (i:Int)=some (U1 (Uh sg xs) (x0.1.drop i) c):=by
 refine idx_ind ?_ ?_
 ·intro n c h0 h1
  rw[Zo.u6]
  simp only[Zo.g6,lt_f (Nat.le_refl _),cond_f,Z1u]
 ·intro i n hi ih c h0 h1
  have hl:=Z4B x0 xs sg hs hm c i hi (Zo.l6 x0 xs sg n) 0 KK (Nat.zero_le _) (KK_gt (by omega))
  rw[List.drop_zero]at hl
  rw[Zo.u6]
  simp only[Zo.g6,lt_t hi,cond_t]
  refine Eq.trans hl ?_
  rw[w64_succ (i:=i) (by omega),w64 (n:=c+1) (by omega) (by omega),Z1w _ hi]
  rw[show sg.any (UL x0.1[i] xs)=Uh sg xs x0.1[i]from rfl]
  cases Uh sg xs x0.1[i]with
  |true=>rw[cond_t,cond_t];exact ih _ (by omega) (by omega)
  |false=>rw[cond_f,cond_f];exact ih _ (by omega) (by omega)
theorem Z4C (x0:Z5)(xs:List Int)(sg:List Zb)(hk:x0.1.length≤1050000)(hs:sg.length≤1050000)(hm:xs.length≤8388608):Zo x0 xs sg=some (U1 (Uh sg xs) x0.1 0):=by
 have:=Z4A x0 xs sg hk hs hm 0 KK (Nat.zero_le _) (KK_gt (by omega)) 0 (Int.le_refl 0) (by omega)
 rw[List.drop_zero]at this
 exact this
def gk (x0:Z5)(j:Nat):Int:=x0.1.getD j 0
theorem Z0a (x0:Z5)(j:Nat):x0.1.getD j 0=gk x0 j:=rfl
def Z0R (x0:Z5)(i:Nat):Prop:=∀j,j<x0.1.length→i≤j→0<j→gk x0 (j-1)<gk x0 j
def Z0T (x0:Z5)(i:Nat):Prop:=∀j,j<x0.1.length→i≤j→(1≤gk x0 j∧gk x0 j≤99)∧(0<j→gk x0 (j-1)<gk x0 j)
def Z1H (x0:Z5):Prop:=(1≤(x0.1.length:Int)∧(x0.1.length:Int)≤4)∧(1≤x0.2∧x0.2≤(x0.1.length:Int))
theorem Z0s (x0:Z5)(hx:x0.1.length≤1050000):∀i n,i≤x0.1.length→x0.1.length-i<n→∃b,ZU.l4 x0 n (i:Int)=some b∧(b=true↔Z0T x0 i∧Z1H x0):=by
 refine idx_ind ?_ ?_
 ·intro n
  rw[ZU.u4]
  simp only[ZU.g4,lt_f (Nat.le_refl _),cond_f,UI,bind_s]
  refine⟨(decide ((1:Int)≤(x0.1.length:Int))&&decide ((x0.1.length:Int)≤4))&&(decide (1≤x0.2)&&decide (x0.2≤(x0.1.length:Int))),?_,?_⟩
  ·cases(decide ((1:Int)≤(x0.1.length:Int))&&decide ((x0.1.length:Int)≤4))<;>rfl
  ·unfold Z0T Z1H
   simp only[Bool.and_eq_true,decide_eq_true_eq]
   exact⟨fun h=>⟨fun j h1 h2=>absurd h1 (by omega),h⟩,fun h=>h.2⟩
 ·intro i n hi ih
  obtain⟨b,hb,hP⟩:=ih
  rw[ZU.u4]
  simp only[ZU.g4,lt_t hi,ge_t,cond_t,UI,bind_s,w64_succ (i:=i) (by omega),Int.toNat_natCast,hb,Z0a]
  by_cases hr:1≤gk x0 i∧gk x0 i≤99
  ·rw[decide_eq_true hr.1,decide_eq_true hr.2,Bool.and_self,Bool.not_true,cond_f]
   by_cases h0:0<i
   ·have ew:IntKind.i64.wrap ((i:Int)-1)=((i-1:Nat):Int):=by rw[w64 (by omega) (by omega)];omega
    simp only[decide_eq_true (show(i:Int)>0 by omega),cond_t,ew,ge_t,lt_t (show i-1<x0.1.length by omega),Int.toNat_natCast,Z0a]
    by_cases ha:gk x0 (i-1)<gk x0 i
    ·rw[decide_eq_false (by omega),cond_f]
     refine⟨b,rfl,hP.trans ⟨fun h=>⟨fun j h1 h2=> ?_,h.2⟩,fun h=>⟨fun j h1 h2=>h.1 j h1 (by omega),h.2⟩⟩⟩
     by_cases e:j=i
     ·subst e;exact⟨hr,fun _=>ha⟩
     ·exact h.1 j h1 (by omega)
    ·rw[decide_eq_true (by omega),cond_t]
     refine⟨false,rfl,⟨fun h=>Bool.noConfusion h,fun h=>absurd ((h.1 i hi (Nat.le_refl _)).2 h0) ha⟩⟩
   ·rw[decide_eq_false (by omega),cond_f]
    refine⟨b,rfl,hP.trans ⟨fun h=>⟨fun j h1 h2=> ?_,h.2⟩,fun h=>⟨fun j h1 h2=>h.1 j h1 (by omega),h.2⟩⟩⟩
    by_cases e:j=i
    ·subst e;exact⟨hr,fun h=>absurd h h0⟩
    ·exact h.1 j h1 (by omega)
  ·have e:(decide (1≤gk x0 i)&&decide (gk x0 i≤99))=false:=by
    cases hc:(decide (1≤gk x0 i)&&decide (gk x0 i≤99))
    ·rfl
    ·simp only[Bool.and_eq_true,decide_eq_true_eq]at hc;exact absurd hc hr
   rw[e,Bool.not_false,cond_t]
   exact⟨false,rfl,⟨fun h=>Bool.noConfusion h,fun h=>absurd (h.1 i hi (Nat.le_refl _)).1 hr⟩⟩
theorem Z2C (x0:Z5)(hx:x0.1.length≤1050000):∀i n,i≤x0.1.length→x0.1.length-i<n→∃b,Yl.l4 x0.1 n (x0.1.length:Int) (i:Int)=some b∧(b=true↔Z0R x0 i):=by
 refine idx_ind ?_ ?_
 ·intro n
  rw[Yl.u4]
  simp only[Yl.g4,lt_f (Nat.le_refl _),cond_f]
  exact⟨true,rfl,⟨fun _ j h1 h2=>absurd h1 (by omega),fun _=>rfl⟩⟩
 ·intro i n hi ih
  obtain⟨b,hb,hP⟩:=ih
  rw[Yl.u4]
  simp only[Yl.g4,lt_t hi,ge_t,cond_t,w64_succ (i:=i) (by omega),Int.toNat_natCast,hb,Z0a]
  by_cases h0:0<i
  ·have ew:IntKind.i64.wrap ((i:Int)-1)=((i-1:Nat):Int):=by rw[w64 (by omega) (by omega)];omega
   simp only[decide_eq_true (show(i:Int)>0 by omega),cond_t,ew,ge_t,lt_t (show i-1<x0.1.length by omega),Int.toNat_natCast,Z0a]
   by_cases ha:gk x0 (i-1)<gk x0 i
   ·rw[decide_eq_false (by omega),cond_f]
    refine⟨b,rfl,hP.trans ⟨fun h j h1 h2 h3=> ?_,fun h j h1 h2 h3=>h j h1 (by omega) h3⟩⟩
    by_cases e:j=i
    ·subst e;exact ha
    ·exact h j h1 (by omega) h3
   ·rw[decide_eq_true (by omega),cond_t]
    exact⟨false,rfl,⟨fun h=>Bool.noConfusion h,fun h=>absurd (h i hi (Nat.le_refl _) h0) ha⟩⟩
  ·rw[decide_eq_false (by omega),cond_f]
   refine⟨b,rfl,hP.trans ⟨fun h j h1 h2 h3=>h j h1 (by omega) h3,fun h j h1 h2 h3=>h j h1 (by omega) h3⟩⟩
theorem Z1l (x0:Z5)(h:Z0R x0 0)(a:Nat):∀b,a≤b→b<x0.1.length→gk x0 a≤gk x0 b:=by
 intro b
 induction b with
 |zero=>intro h1 _;have:a=0:=by omega
        subst this;exact Int.le_refl _
 |succ b ih=>
  intro h1 h2
  by_cases e:a=b+1
  ·subst e;exact Int.le_refl _
  ·have:=ih (by omega) (by omega)
   have h3:=h (b+1) h2 (by omega) (by omega)
   rw[show b+1-1=b from rfl]at h3
   omega
theorem Z3P (x0:Z5)(h:Z0R x0 0)(h0:1≤gk x0 0)(h1:gk x0 (x0.1.length-1)≤99):Z0T x0 0:=by
 intro j hj _
 have a:=Z1l x0 h 0 j (by omega) hj
 have b:=Z1l x0 h j (x0.1.length-1) (by omega) (by omega)
 exact⟨⟨by omega,by omega⟩,h j hj (by omega)⟩
theorem QJ {a b:Bool}(h:a=true↔b=true):a=b:=by cases a<;>cases b<;>simp_all
theorem Z1i (x0:Z5)(hx:x0.1.length≤1050000):∃b,ZU x0=some b∧XJ x0=some b:=by
 obtain⟨s,hs,hS⟩:=Z0s x0 hx 0 KK (Nat.zero_le _) (KK_gt (by omega))
 obtain⟨a,ha,hA⟩:=Z2C x0 hx 0 KK (Nat.zero_le _) (KK_gt (by omega))
 refine⟨s,hs,?_⟩
 have ea:Yl x0.1=some a:=ha
 unfold XJ
 rw[UB,bind_s]
 by_cases hl:1≤(x0.1.length:Int)∧(x0.1.length:Int)≤4
 ·rw[decide_eq_true hl.1,decide_eq_true hl.2,Bool.and_self,cond_t,ea,bind_s]
  have ew:IntKind.i64.wrap ((x0.1.length:Int)-1)=((x0.1.length-1:Nat):Int):=by rw[w64 (by omega) (by omega)];omega
  cases a with
  |false=>
   rw[cond_f]
   have:s=false:=by
    cases s with
    |false=>rfl
    |true=>
     have h:=(hS.mp rfl).1
     exact(hA.mpr (fun j h1 h2 h3=>(h j h1 h2).2 h3)).symm
   rw[this]
  |true=>
   have hasc:=hA.mp rfl
   rw[cond_t,decide_eq_true (Int.le_refl 0),cond_t,decide_eq_true (by omega),cond_t,Z0O,bind_s,ew,ge_t,cond_t,lt_t (by omega),cond_t,Z0O,bind_s,UB,bind_s,Int.toNat_natCast,show(0:Int).toNat=0 from rfl]
   rw[show x0.1.getD 0 0=gk x0 0 from rfl,show x0.1.getD (x0.1.length-1) 0=gk x0 (x0.1.length-1)from rfl]
   have e:s=((decide (1≤gk x0 0)&&decide (gk x0 0≤99))&&((decide (1≤gk x0 (x0.1.length-1))&&decide (gk x0 (x0.1.length-1)≤99))&&(decide (1≤x0.2)&&decide (x0.2≤(x0.1.length:Int))))):=by
    refine QJ (hS.trans ?_)
    simp only[Bool.and_eq_true,decide_eq_true_eq]
    constructor
    ·intro h
     exact⟨(h.1 0 (by omega) (Nat.le_refl _)).1,(h.1 (x0.1.length-1) (by omega) (by omega)).1,h.2.2⟩
    ·intro h
     exact⟨Z3P x0 hasc h.1.1 h.2.1.2,hl,h.2.2⟩
   rw[e]
   cases(decide (1≤gk x0 0)&&decide (gk x0 0≤99))<;>cases(decide (1≤gk x0 (x0.1.length-1))&&decide (gk x0 (x0.1.length-1)≤99))<;>rfl
 ·have e:(decide (1≤(x0.1.length:Int))&&decide ((x0.1.length:Int)≤4))=false:=by
   cases hc:(decide (1≤(x0.1.length:Int))&&decide ((x0.1.length:Int)≤4))
   ·rfl
   ·simp only[Bool.and_eq_true,decide_eq_true_eq]at hc;exact absurd hc hl
  rw[e,cond_f]
  have:s=false:=by
   cases s with
   |false=>rfl
   |true=>exact absurd (hS.mp rfl).2.1 hl
  rw[this]
theorem Z2u (x0:Z5)(hx:x0.1.length≤1050000)(h:ZU x0=some true):1≤x0.1.length:=by
 obtain⟨s,hs,hS⟩:=Z0s x0 hx 0 KK (Nat.zero_le _) (KK_gt (by omega))
 have e:ZU x0=some s:=hs
 rw[h]at e
 injection e with e
 have:=(hS.mp e.symm).2.1
 omega
noncomputable def XB (k:Z5):Bool:=(ZU k).getD false
theorem Qk (k:Z5)(hx:k.1.length≤1050000):ZU k=some (XB k):=by
 obtain⟨b,h1,h2⟩:=Z1i k hx
 unfold XB
 rw[h1];rfl
theorem Z0d (k:Z5)(hx:k.1.length≤1050000):XJ k=some (XB k):=by
 obtain⟨b,h1,h2⟩:=Z1i k hx
 unfold XB
 rw[h1,h2];rfl
def X7 (k:Z5):Bool:=k.2==(0:Int)&&((k.1.length:Int)==(0:Int))
theorem QC (k:Z5):Xx k=some (X7 k):=by
 unfold Xx X7
 cases(k.2==(0:Int))<;>rfl
theorem Qx (k:Z5):Xa k=some (X7 k):=by
 unfold Xa X7
 cases(k.2==(0:Int))<;>rfl
theorem Z3O (k:Z5)(hx:k.1.length≤1050000):(XB k&&X7 k)=false:=by
 cases h:XB k with
 |false=>rfl
 |true=>
  have:=Z2u k hx (by rw[Qk k hx,h])
  unfold X7
  have e:((k.1.length:Int)==(0:Int))=false:=by rw[beq_eq_false_iff_ne];omega
  rw[e,Bool.and_false];rfl
def ZB (a b c:Int):Bool:=decide (b≤a)&&decide (a≤c)
theorem QR (a b c:Int):Yg a b c=some (ZB a b c):=UI a b c
theorem US (a b c:Int):ZZ a b c=some (ZB a b c):=UB a b c
theorem Z3J (a:Int):XK a=some (ZB a 0 2147483646):=by
 unfold XK
 rw[US,bind_s]
theorem QI {α:Type}(c:Bool)(a b:α):(bif c then some a else some b)=some (bif c then a else b):=by cases c<;>rfl
theorem Z1m (c a:Bool):(bif c then a else false)=(c&&a):=by cases c<;>rfl
theorem Z1n (c a:Bool):(bif c then false else a)=(!c&&a):=by cases c<;>rfl
theorem Z1o (c a:Bool):(bif c then true else a)=(c||a):=by cases c<;>rfl
theorem Z1p (c a:Bool):(bif c then a else true)=(!c||a):=by cases c<;>rfl
def hr4 (x:Z0):Bool:=ZB (ZF x) 0 2147483646&&(ZB (ZP x) 0 2147483646&&(ZB (Yq x) 0 2147483646&&(ZB (Zz x) 0 200&&ZB (ZH x) 1 3)))
def QD (x:Z0):Bool:=decide ((Zr x)≥0)&&(decide ((Zr x)≤(ZV x))&&(decide ((ZV x)≤100000)&&decide (IntKind.i64.wrap ((ZV x)-(Zr x))≤200)))
theorem Z5m (x:Z0)(r:Bool):(ZB (Zr x) 0 100000&&(ZB (ZV x) (Zr x) 100000&&(!decide (IntKind.i64.wrap ((ZV x)-(Zr x))>200)&&r)))=(QD x&&r):=by
 have:(ZB (Zr x) 0 100000&&(ZB (ZV x) (Zr x) 100000&& !decide (IntKind.i64.wrap ((ZV x)-(Zr x))>200)))=QD x:=by
  unfold ZB QD
  generalize IntKind.i64.wrap ((ZV x)-(Zr x))=w
  refine QJ ?_
  simp only[Bool.and_eq_true,decide_eq_true_eq,Bool.not_eq_true',decide_eq_false_iff_not]
  omega
 rw[←this]
 simp only[Bool.and_assoc]
noncomputable def Qc (x:Z0):Bool:=(bif X7 (Ze x)then((Zx x)==(0:Int))else(XB (Ze x)&&ZB (Zx x) 1 500))&&(XB (Zk x)||(X7 (Zk x)&& !(Zj x)))
noncomputable def Zn (x:Z0):Bool:=hr4 x&&(QD x&&(ZB (ZO x) 0 12&&(XB (Zp x)&&Qc x)))
theorem Qj (x:Z0)(hx:Zg x≤1050000):Zq x=some (Zn x):=by
 unfold Zg XE at hx
 have k1:=Qk (Zp x) (by omega)
 have k2:=Qk (Ze x) (by omega)
 have k3:=Qk (Zk x) (by omega)
 have n2:=QC (Ze x)
 have n3:=QC (Zk x)
 have key:(bif X7 (Ze x)then(!((Zx x) !=(0:Int))&&(XB (Zk x)||(X7 (Zk x)&& !(Zj x))))else(XB (Ze x)&&(ZB (Zx x) 1 500&&(XB (Zk x)||(X7 (Zk x)&& !(Zj x))))))=Qc x:=by
  unfold Qc
  cases X7 (Ze x)with
  |true=>simp[bne]
  |false=>simp only[cond_f,Bool.and_assoc]
 unfold Zq
 simp only[Zq.b,Zq.l7,Zq.g7,Zq.l11,Zq.g11,Zq.l21,Zq.g21,QR,k1,k2,k3,n2,n3,bind_s,QI,Z1m,Z1n,Z1o,Z1p,Bool.not_not]
 rw[key,Z5m]
 unfold Zn hr4 Zp
 simp only[Bool.and_assoc]
theorem Wb (x:Z0)(hx:Zg x≤1050000):ZX x=some (Zn x):=by
 unfold Zg XE at hx
 have k1:=Z0d (Zp x) (by omega)
 have k2:=Z0d (Ze x) (by omega)
 have k3:=Z0d (Zk x) (by omega)
 have n2:=Qx (Ze x)
 have n3:=Qx (Zk x)
 have q3:=Z3O (Zk x) (by omega)
 have key:((X7 (Ze x)||XB (Ze x))&&((X7 (Zk x)||XB (Zk x))&&((bif X7 (Ze x)then((Zx x)==(0:Int))else ZB (Zx x) 1 500)&&(!(Zj x)|| !X7 (Zk x)))))=Qc x:=by
  unfold Qc
  revert q3
  generalize ((Zx x)==(0:Int))=a
  generalize ZB (Zx x) 1 500=b
  generalize (Zj x)=c
  cases X7 (Ze x)<;>cases XB (Ze x)<;>cases X7 (Zk x)<;>cases XB (Zk x)<;>cases a<;>cases b<;>cases c<;>decide
 unfold ZX
 simp only[Wv,WV,Xs,Z3J,US,k1,k2,k3,n2,n3,bind_s,QI,Z1m,Z1n,Z1o,Z1p,Bool.not_not]
 rw[key]
 unfold Zn hr4 QD Zp
 simp only[Bool.and_assoc]
theorem Qy (x:Z0)(h:Zn x=true):0≤(Zr x)∧(Zr x)≤(ZV x)∧(ZV x)≤100000:=by
 unfold Zn QD at h
 simp only[Bool.and_eq_true,decide_eq_true_eq]at h
 omega
theorem Z2p (x0 x1:List Int)(hl:x0.length=x1.length)(hx:x0.length≤1152921504606846976):∀i n,i≤x0.length→x0.length-i<n→Y8.l8 x0 x1 n (i:Int)=some (decide (x0.drop i=x1.drop i)):=by
 refine idx_ind ?_ ?_
 ·intro n
  rw[Y8.u8]
  simp only[Y8.g8,lt_f (Nat.le_refl _),cond_f]
  rw[List.drop_length,hl,List.drop_length];simp
 ·intro i n hi ih
  have hi':i<x1.length:=by omega
  rw[Y8.u8]
  simp only[Y8.g8,lt_t hi,lt_t hi',ge_t,cond_t,w64_succ (i:=i) (by omega),Int.toNat_natCast,at_n hi,at_n hi']
  rw[dec_step (drop_eq hi hi')]
  by_cases he:x0[i]=x1[i]
  ·rw[show(x0[i] !=x1[i])=false by simp[he],cond_f,ih,decide_eq_true he,Bool.true_and]
  ·rw[show(x0[i] !=x1[i])=true by simp[he],cond_t,decide_eq_false he,Bool.false_and]
theorem Z2q (x0 x1:List Int)(hx:x0.length≤1152921504606846976):Y8 x0 x1=some (decide (x0=x1)):=by
 unfold Y8
 by_cases hl:x0.length=x1.length
 ·simp only[Y8.b,len_eq hl,cond_f]
  have:=Z2p x0 x1 hl hx 0 KK (Nat.zero_le _) (KK_gt (by omega))
  simpa using this
 ·simp only[Y8.b,len_ne hl,cond_t]
  rw[decide_eq_false (fun h=>hl (by rw[h]))]
theorem Z5k (x0 x1:List Int)(hl:x0.length=x1.length)(hx:x0.length≤1152921504606846976):∀i n,i≤x0.length→x0.length-i<n→Y7.l8 x0 x1 n (x0.length:Int) (i:Int)=some (decide (x0.drop i=x1.drop i)):=by
 refine idx_ind ?_ ?_
 ·intro n
  rw[Y7.u8]
  simp only[Y7.g8,lt_f (Nat.le_refl _),cond_f]
  rw[List.drop_length,hl,List.drop_length];simp
 ·intro i n hi ih
  have hi':i<x1.length:=by omega
  rw[Y7.u8]
  simp only[Y7.g8,lt_t hi,lt_t hi',ge_t,cond_t,w64_succ (i:=i) (by omega),Int.toNat_natCast,at_n hi,at_n hi']
  rw[dec_step (drop_eq hi hi')]
  by_cases he:x0[i]=x1[i]
  ·rw[show(x0[i] !=x1[i])=false by simp[he],cond_f,ih,decide_eq_true he,Bool.true_and]
  ·rw[show(x0[i] !=x1[i])=true by simp[he],cond_t,decide_eq_false he,Bool.false_and]
theorem Z5l (x0 x1:List Int)(hx:x0.length≤1152921504606846976):Y7 x0 x1=some (decide (x0=x1)):=by
 unfold Y7
 by_cases hl:x0.length=x1.length
 ·simp only[Y7.b,len_eq hl,cond_f]
  have:=Z5k x0 x1 hl hx 0 KK (Nat.zero_le _) (KK_gt (by omega))
  simpa using this
 ·simp only[Y7.b,len_ne hl,cond_t]
  rw[decide_eq_false (fun h=>hl (by rw[h]))]
theorem Ql (a b:Z5)(hx:a.1.length≤1050000):XD a b=some (decide (a=b)):=by
 unfold XD
 rw[Z5l _ _ (by omega),bind_s]
 obtain⟨a1,a2⟩:=a
 obtain⟨b1,b2⟩:=b
 by_cases h1:a1=b1<;>by_cases h2:a2=b2<;>simp[h1,h2]
def Z2W (a b:Z0):Bool:=decide (XM a=XM b)
theorem UJ (x:Z5)(hx:x.1.length≤1050000):X3 x=some x:=by
 unfold X3
 rw[decide_eq_true (by simp;omega),cond_t];rfl
theorem Z2k (x:List Int)(hx:x.length≤1050000):Wx x=some x:=by
 have e:(bif decide (([]:List Int).length+x.length<68719476736)then some ([]++x)else none)=some x:=by
  rw[decide_eq_true (by simp;omega),cond_t];rfl
 unfold Wx
 rw[e]
 cases x with
 |nil=>exact both_eq _
 |cons a t=>rfl
theorem UW (x:Z5)(hx:x.1.length≤1050000):Xr x=some x:=by
 unfold Xr
 rw[Z2k _ hx,bind_s]
theorem QQ (x0:Z0)(hx:Zg x0≤1050000):YU x0=some x0:=by
 unfold Zg XE at hx
 unfold YU
 exact Zh (UJ _ (by omega)) (Zh (UJ _ (by omega)) (Zh (UJ _ (by omega)) rfl))
theorem Uu (x0:Z0)(hx:Zg x0≤1050000):Yr x0=some x0:=by
 unfold Zg XE at hx
 unfold Yr
 exact Zh (UW _ (by omega)) (Zh (UW _ (by omega)) (Zh (UW _ (by omega)) rfl))
theorem Z1K (x0:Z6)(hx:Xy x0≤1050000):X5 x0=some x0:=by
 unfold Xy at hx
 unfold X5
 exact Zh (QQ _ (by omega)) (cT (decide_eq_true (by simp;omega)) rfl)
def WQ (xs:List Int)(k:Int):Bool:=xs.any (fun a=>a==k)
theorem Z3Z (x0:List Int)(k:Int)(hx:x0.length≤1152921504606846976):∀i n,i≤x0.length→x0.length-i<n→Yp.l4 x0 k n (i:Int)=some (WQ (x0.drop i) k):=by
 refine idx_ind ?_ ?_
 ·intro n
  rw[Yp.u4]
  simp only[Yp.g4,lt_f (Nat.le_refl _),cond_f,List.drop_length];rfl
 ·intro i n hi ih
  rw[Yp.u4]
  simp only[Yp.g4,lt_t hi,ge_t,cond_t,w64_succ (i:=i) (by omega),Int.toNat_natCast,at_n hi,ih]
  rw[List.drop_eq_getElem_cons hi]
  show _=some ((x0[i]==k)||WQ (x0.drop (i+1)) k)
  cases(x0[i]==k)<;>rfl
theorem Z40 (x0:List Int)(k:Int)(hx:x0.length≤1152921504606846976):Yp x0 k=some (WQ x0 k):=by
 have:=Z3Z x0 k hx 0 KK (Nat.zero_le _) (KK_gt (by omega))
 rw[List.drop_zero]at this
 exact this
theorem Z2t (x0:List Int)(k:Int)(hx:x0.length≤1152921504606846976):∀i n,i≤x0.length→x0.length-i<n→Ym.l4 x0 k n (x0.length:Int) (i:Int)=some (Ub (fun a=>a==k) (x0.drop i) (i:Int)):=by
 refine idx_ind ?_ ?_
 ·intro n
  rw[Ym.u4]
  simp only[Ym.g4,lt_f (Nat.le_refl _),cond_f,Z0F]
 ·intro i n hi ih
  rw[Ym.u4]
  simp only[Ym.g4,lt_t hi,ge_t,cond_t,w64_succ (i:=i) (by omega),Int.toNat_natCast,at_n hi,Z0G _ hi,ih]
  rw[Bool.beq_comm]
  cases(x0[i]==k)<;>rfl
theorem Z2o (x0:List Int)(k:Int)(hx:x0.length≤1152921504606846976):WA x0 k=some (WQ x0 k):=by
 have h:=Z2t x0 k hx 0 KK (Nat.zero_le _) (KK_gt (by omega))
 rw[List.drop_zero]at h
 have e:Ym x0 k=some (Ub (fun a=>a==k) x0 0):=h
 unfold WA
 rw[e,bind_s,Z0E _ _ _ (Int.le_refl 0)];rfl
def Wg (sk:List Int)(m:List Int):List Int→List Zb→List Zb
 |[],acc=>acc
 |k::ks,acc=>Wg sk m ks (bif WQ sk k then acc++[(k,UA k m)]else acc)
theorem Z2d (sk m:List Int){ks:List Int}{i:Nat}(h:i<ks.length)(acc:List Zb):Wg sk m (ks.drop i) acc=Wg sk m (ks.drop (i+1)) (bif WQ sk ks[i]then acc++[(ks[i],UA ks[i] m)]else acc):=by
 rw[List.drop_eq_getElem_cons h];rfl
theorem Z2a (sk m ks:List Int)(acc:List Zb):Wg sk m (ks.drop ks.length) acc=acc:=by
 rw[List.drop_length];rfl
theorem Z2b (sk m ks:List Int):∀acc:List Zb,(Wg sk m ks acc).length≤acc.length+ks.length:=by
 induction ks with
 |nil=>intro acc;exact Nat.le_refl _
 |cons k ks ih=>
  intro acc
  show(Wg sk m ks (bif WQ sk k then acc++[(k,UA k m)]else acc)).length≤_
  refine Nat.le_trans (ih _) ?_
  cases WQ sk k with
  |true=>rw[cond_t,List.length_append,List.length_cons];simp;omega
  |false=>rw[cond_f,List.length_cons];omega
theorem Z56 (sk:List Int)(x1:Z5)(m:List Int)(hs:sk.length≤1050000)(hk:x1.1.length≤1050000)(hm:m.length≤8388608):∀i n,i≤x1.1.length→x1.1.length-i<n→∀acc:List Zb,acc.length≤i→Yo.l6 sk x1 m n (i:Int) acc=some (Wg sk m (x1.1.drop i) acc):=by
 refine idx_ind ?_ ?_
 ·intro n acc ha
  rw[Yo.u6]
  simp only[Yo.g6,lt_f (Nat.le_refl _),cond_f,Z2a]
 ·intro i n hi ih acc ha
  rw[Yo.u6]
  simp only[Yo.g6,lt_t hi,ge_t,cond_t,bind_s,w64_succ (i:=i) (by omega),Int.toNat_natCast,at_n hi,Z40 _ _ (show sk.length≤1152921504606846976 by omega),Z25 _ _ hm,Z2d _ _ hi]
  cases WQ sk x1.1[i]with
  |true=>
   rw[cond_t,cond_t,decide_eq_true (by simp;omega),cond_t]
   exact ih _ (by rw[List.length_append];simp;omega)
  |false=>rw[cond_f,cond_f];exact ih _ (by omega)
theorem Z3C (sk:List Int)(x1:Z5)(m:List Int)(hs:sk.length≤1050000)(hk:x1.1.length≤1050000)(hm:m.length≤8388608):∀i n,i≤x1.1.length→x1.1.length-i<n→∀acc:List Zb,acc.length≤i→Yk.l6 sk x1 m n (x1.1.length:Int) (i:Int) acc=some (Wg sk m (x1.1.drop i) acc):=by
 refine idx_ind ?_ ?_
 ·intro n acc ha
  rw[Yk.u6]
  simp only[Yk.g6,lt_f (Nat.le_refl _),cond_f,Z2a]
 ·intro i n hi ih acc ha
  rw[Yk.u6]
  simp only[Yk.g6,lt_t hi,ge_t,cond_t,bind_s,w64_succ (i:=i) (by omega),Int.toNat_natCast,at_n hi,Z2o _ _ (show sk.length≤1152921504606846976 by omega),Z1E _ _ hm,Z2d _ _ hi]
  cases WQ sk x1.1[i]with
  |true=>
   rw[cond_t,cond_t,decide_eq_true (by simp;omega),cond_t]
   exact ih _ (by rw[List.length_append];simp;omega)
  |false=>rw[cond_f,cond_f];exact ih _ (by omega)
theorem Z57 (sk:List Int)(x1:Z5)(m:List Int)(hs:sk.length≤1050000)(hk:x1.1.length≤1050000)(hm:m.length≤8388608):Yo sk x1 m=some (Wg sk m x1.1 []):=by
 have:=Z56 sk x1 m hs hk hm 0 KK (Nat.zero_le _) (KK_gt (by omega)) [] (Nat.le_refl _)
 rw[List.drop_zero]at this
 exact this
theorem Z3D (sk:List Int)(x1:Z5)(m:List Int)(hs:sk.length≤1050000)(hk:x1.1.length≤1050000)(hm:m.length≤8388608):Yk sk x1 m=some (Wg sk m x1.1 []):=by
 have:=Z3C sk x1 m hs hk hm 0 KK (Nat.zero_le _) (KK_gt (by omega)) [] (Nat.le_refl _)
 rw[List.drop_zero]at this
 exact this
def Q0 (sk:List Int)(k:Z5)(h:Z0):Z6:=Q5 h (Wg sk (XM h) k.1 [])
theorem Z58 (sk:List Int)(k:Z5)(h:Z0)(hs:sk.length≤1050000)(hk:k.1.length≤1050000)(hh:Zg h≤1050000):X4 sk k h=some (Q0 sk k h):=by
 unfold X4
 rw[QQ _ hh,bind_s,Z0r _ hh,bind_s,Z57 _ _ _ hs hk (by rw[Qv];omega),bind_s];rfl
theorem Z0L (sk:List Int)(k:Z5)(h:Z0)(hs:sk.length≤1050000)(hk:k.1.length≤1050000)(hh:Zg h≤1050000):Xi sk k h=some (Q0 sk k h):=by
 unfold Xi
 rw[Uu _ hh,bind_s,Z0J _ hh,bind_s,Z3D _ _ _ hs hk (by rw[Qv];omega),bind_s];rfl
theorem Z5i (sk:List Int)(k:Z5)(h:Z0):Xy (Q0 sk k h)≤Zg h+k.1.length:=by
 have:=Z2b sk (XM h) k.1 []
 show Zg h+(Wg sk (XM h) k.1 []).length≤_
 rw[List.length_nil,Nat.zero_add]at this
 omega
def Uz (y:Z0)(e a b u d:Int):Z0:=((ZF y),e,a,b,u,(ZO y),(ZP y),d,(Zp y).1,(Zp y).2,(Ze y).1,(Ze y).2,(Zx y),(Zk y).1,(Zk y).2,(Zj y))
noncomputable def WN (h:Z0):Z7:=bif Zn h then YV h true else YV Xu false
theorem Z5q (h:Z0):Zg (Zc (WN h))≤Zg h:=by
 unfold WN
 cases Zn h with
 |true=>exact Nat.le_refl _
 |false=>exact Nat.zero_le _
theorem Qd (h:Z0)(hx:Zg h≤1050000):YL h=some (WN h):=by
 unfold YL WN
 rw[Qj _ hx,bind_s]
 cases Zn h<;>rfl
noncomputable def YQ (x0:Z0)(x2 x3:Int):Bool:=Zn x0&&(ZB x2 (Zr x0) 100000&&ZB x3 0 200)
noncomputable def Zt (x0:Z0)(x1 x2 x3:Int):Z0:=Uz x0 (IntKind.i64.wrap ((Zz x0)+(1:Int))) x1 x2 (IntKind.i64.wrap (x2+x3)) (WR x0)
noncomputable def Uj (x0:Z0)(x1 x2 x3:Int):Z7:=bif YQ x0 x2 x3 then WN (Zt x0 x1 x2 x3)else YV Xu false
theorem Z4g (x0:Z0)(x1 x2 x3:Int):Zg (Zc (Uj x0 x1 x2 x3))≤Zg x0:=by
 unfold Uj
 cases YQ x0 x2 x3 with
 |true=>exact Z5q (Zt x0 x1 x2 x3)
 |false=>exact Nat.zero_le _
theorem Z51 (x0:Z0)(x1 x2 x3:Int)(v:Bool)(hx:Zg x0≤1050000):ZL.l5 x0 x1 x2 x3 v=some (bif v then YV Xu false else WN (Zt x0 x1 x2 x3)):=by
 cases v with
 |true=>rfl
 |false=>
  show((YU x0).bind fun y2=>(YX x0).bind fun y3=>(YL (Uz y2 (IntKind.i64.wrap ((Zz x0)+(1:Int))) x1 x2 (IntKind.i64.wrap (x2+x3)) y3)).bind fun y4=>some y4)=_
  have hn:Zg (Uz x0 (IntKind.i64.wrap ((Zz x0)+(1:Int))) x1 x2 (IntKind.i64.wrap (x2+x3)) (WR x0))≤1050000:=hx
  rw[QQ _ hx,bind_s,Z18 _ hx,bind_s,Qd _ hn,bind_s];rfl
theorem QY (x0:Z0)(x1 x2 x3:Int)(hx:Zg x0≤1050000):ZL x0 x1 x2 x3=some (Uj x0 x1 x2 x3):=by
 unfold ZL
 simp only[ZL.b,Qj _ hx,QR,bind_s,Z51 _ _ _ _ _ hx]
 unfold Uj YQ
 cases Zn x0<;>cases ZB x2 (Zr x0) 100000<;>cases ZB x3 0 200<;>rfl
def Q1 (x2 x3:Int):Int:=bif ZB x2 0 100000&&ZB x3 0 200 then IntKind.i64.wrap (x2+x3)else 100001
theorem Z02 (x2 x3:Int):Y0 x2 x3=some (Q1 x2 x3):=by
 unfold Y0 Q1
 simp only[Y0.b,Y0.l7,Y0.g7,US,bind_s]
 cases ZB x2 0 100000<;>cases ZB x3 0 200<;>rfl
noncomputable def YS (x0:Z0)(x1 x2 x3:Int):Z0:=Uz x0 (IntKind.i64.wrap ((Zz x0)+(1:Int))) x1 x2 (Q1 x2 x3) (WR x0)
theorem QU (x0:Z0)(x1 x2 x3:Int)(h:ZB x2 0 100000=false):Zn (YS x0 x1 x2 x3)=false:=by
 cases hb:Zn (YS x0 x1 x2 x3)with
 |false=>rfl
 |true=>
  have h1:=(Qy _ hb).2.2
  have h2:Q1 x2 x3≤100000:=h1
  unfold Q1 at h2
  rw[h,Bool.false_and,cond_f]at h2
  omega
theorem QV (x0:Z0)(x1 x2 x3:Int)(h:ZB x2 0 100000=true)(h':ZB x3 0 200=true):YS x0 x1 x2 x3=Zt x0 x1 x2 x3:=by
 unfold YS Zt Q1
 rw[h,h',Bool.and_self,cond_t]
def XL (h:Z0)(k:Z5):Z0:=((ZF h),(Zz h),(ZH h),(Zr h),(ZV h),(ZO h),(ZP h),(Yq h),k.1,k.2,(Ze h).1,(Ze h).2,(Zx h),(Zk h).1,(Zk h).2,(Zj h))
theorem Z1q (h:Z0)(k:Z5):Zg (XL h k)=k.1.length+((Ze h).1.length+(Zk h).1.length):=rfl
def Z04 (x0:Z0)(x1:Int):Bool:= !(Zj x0)&&(!X7 (Ze x0)&&decide (x1≥IntKind.i64.wrap ((ZV x0)+(Zx x0))))
noncomputable def Un (x0:Z0)(x1:Int):Bool:=Zn x0&&Z04 x0 x1
theorem Z4x (x0:Z0)(x1:Int)(hx:Zg x0≤1050000):Xl x0 x1=some (Un x0 x1):=by
 unfold Xl Un Z04
 rw[Qj _ hx,bind_s,QC,bind_s]
 cases Zn x0<;>cases Zj x0<;>cases X7 (Ze x0)<;>rfl
theorem Z3a (x0:Z0)(x1:Int)(hx:Zg x0≤1050000):Xc x0 x1=some (Un x0 x1):=by
 unfold Xc Un Z04
 rw[Wb _ hx,bind_s,Qx,bind_s]
 cases Zn x0<;>cases Zj x0<;>cases X7 (Ze x0)<;>rfl
noncomputable def U0 (x0:Z0)(x1 x2:Int):Z7:=bif Un x0 x1&&(YQ x0 x1 x2&&Zn (Zt x0 2 x1 x2))then WN (XL (Zt x0 2 x1 x2) (Ze x0))else YV Xu false
theorem Z2G (x0:Z0)(a b e:Int)(d u:Int)(hx:Zg x0≤524288):Zg (XL (Uz x0 a b e u d) (Ze x0))≤1050000:=by
 unfold Zg XE at hx
 show(Ze x0).1.length+((Ze x0).1.length+(Zk x0).1.length)≤_
 omega
theorem Z0S (k:Z5)(hx:k.1.length≤1050000)(h:XB k=true):k.1.length≤4:=by
 obtain⟨s,hs,hS⟩:=Z0s k hx 0 KK (Nat.zero_le _) (KK_gt (by omega))
 have e:ZU k=some s:=hs
 rw[Qk k hx,h]at e
 injection e with e
 have:=(hS.mp e.symm).2.1
 omega
theorem Z1W (k:Z5)(h:X7 k=true):k.1.length≤4:=by
 unfold X7 at h
 simp only[Bool.and_eq_true,beq_iff_eq]at h
 omega
theorem Q9 (x:Z0)(hx:Zg x≤1050000)(h:Zn x=true):Zg x≤12:=by
 have hs:=hx
 unfold Zg XE at hs
 unfold Zn Qc at h
 simp only[Bool.and_eq_true]at h
 obtain⟨_,_,_,h1,h2,h3⟩:=h
 have l1:=Z0S _ (by omega) h1
 have l2:(Ze x).1.length≤4:=by
  cases hn:X7 (Ze x)with
  |true=>exact Z1W _ hn
  |false=>
   rw[hn,cond_f,Bool.and_eq_true]at h2
   exact Z0S _ (by omega) h2.1
 have l3:(Zk x).1.length≤4:=by
  rw[Bool.or_eq_true,Bool.and_eq_true]at h3
  rcases h3 with h3|h3
  ·exact Z0S _ (by omega) h3
  ·exact Z1W _ h3.1
 unfold Zg XE
 omega
theorem Z1Z (x0:Z0)(y1:Z7)(v:Bool)(hk:(Ze x0).1.length≤1050000)(hsz:Zg (XL (Zc y1) (Ze x0))≤1050000):Ye.l7 x0 y1 v=some (bif v then YV Xu false else WN (XL (Zc y1) (Ze x0))):=by
 cases v with
 |true=>rfl
 |false=>
  show((X3 (Ze x0)).bind fun y2=>(YL (XL (Zc y1) y2)).bind fun y3=>some y3)=_
  rw[UJ _ hk,bind_s,Qd _ hsz,bind_s];rfl
theorem Z4f (x0:Z0)(x1 x2 x3:Int):Uj x0 x1 x2 x3=bif YQ x0 x2 x3&&Zn (Zt x0 x1 x2 x3)then YV (Zt x0 x1 x2 x3) true else YV Xu false:=by
 unfold Uj WN
 cases YQ x0 x2 x3<;>cases Zn (Zt x0 x1 x2 x3)<;>rfl
theorem Z4z (x0:Z0)(x1 x2:Int)(hx:Zg x0≤1050000):Ye x0 x1 x2=some (U0 x0 x1 x2):=by
 unfold Ye
 simp only[Ye.b,QY _ _ _ _ hx,bind_s,Z4x _ _ hx]
 cases hB:Zn x0 with
 |false=>
  have hM:Uj x0 2 x1 x2=YV Xu false:=by unfold Uj YQ;rw[hB];rfl
  have hC:U0 x0 x1 x2=YV Xu false:=by unfold U0 Un;rw[hB];rfl
  rw[hM,hC];rfl
 |true=>
  have hl:=Q9 x0 hx hB
  have hm:=Z4g x0 2 x1 x2
  have hsz:Zg (XL (Zc (Uj x0 2 x1 x2)) (Ze x0))≤1050000:=by
   rw[Z1q]
   unfold Zg XE at hl hm
   omega
  have hk:(Ze x0).1.length≤1050000:=by unfold Zg XE at hl;omega
  rw[Z1Z _ _ _ hk hsz,Z1Z _ _ _ hk hsz]
  rw[Z4f]
  unfold U0
  cases(YQ x0 x1 x2&&Zn (Zt x0 2 x1 x2))with
  |false=>
   rw[cond_f,Bool.and_false,cond_f]
   cases Un x0 x1<;>rfl
  |true=>
   rw[cond_t,Bool.and_true]
   rw[(Qm _ _).1,(Qm _ _).2,Bool.not_true,cond_f]
   cases Un x0 x1 with
   |false=>rfl
   |true=>rw[Bool.not_true,cond_f,cond_t]
theorem Z1r (y:Z0)(v:Bool):ZJ.l17 y v=some (bif v then YV Xu false else YV y true):=by
 cases v<;>rfl
theorem Z2H (x0:Z0)(x1 x2:Int)(v:Bool)(hx:Zg x0≤12):ZJ.l5 x0 2 x1 x2 ((),x0) v=some (bif v then YV Xu false else bif Zn (YS x0 2 x1 x2)then WN (XL (YS x0 2 x1 x2) (Ze x0))else YV Xu false):=by
 cases v with
 |true=>rfl
 |false=>
  show((Yr x0).bind fun y2=>(Y0 x1 x2).bind fun y3=>(YM x0).bind fun y4=>(Yr (Uz y2 (IntKind.i64.wrap ((Zz x0)+(1:Int))) 2 x1 y3 y4)).bind fun y5=>(Wl (Uz y2 (IntKind.i64.wrap ((Zz x0)+(1:Int))) 2 x1 y3 y4) x0).bind fun y6=>(ZX y5).bind fun y7=>bif !y7 then ZJ.l17 y6 true else(ZX y6).bind fun y8=>ZJ.l17 y6 (!y8))=_
  have hn:Zg (Uz x0 (IntKind.i64.wrap ((Zz x0)+(1:Int))) 2 x1 (Q1 x1 x2) (WR x0))≤1050000:=Nat.le_trans (show Zg x0≤12 from hx) (by omega)
  have hc:Zg (XL (YS x0 2 x1 x2) (Ze x0))≤1050000:=by
   have:Zg (XL (YS x0 2 x1 x2) (Ze x0))=(Ze x0).1.length+((Ze x0).1.length+(Zk x0).1.length):=rfl
   unfold Zg XE at hx
   omega
  have e1:Wl (YS x0 2 x1 x2) x0=some (XL (YS x0 2 x1 x2) (Ze x0)):=by
   show((Xr (Ze x0)).bind fun y1=>some (XL (YS x0 2 x1 x2) y1))=_
   rw[UW _ (by unfold Zg XE at hx;omega),bind_s]
  rw[Uu _ (by omega),bind_s,Z02,bind_s,Qw _ (by omega),bind_s,Uu _ hn,bind_s,Wb _ hn]
  rw[show Uz x0 (IntKind.i64.wrap ((Zz x0)+(1:Int))) 2 x1 (Q1 x1 x2) (WR x0)=YS x0 2 x1 x2 from rfl,e1,bind_s,bind_s,Wb _ hc,bind_s,Z1r,Z1r,cond_f]
  unfold WN
  cases Zn (YS x0 2 x1 x2)<;>cases Zn (XL (YS x0 2 x1 x2) (Ze x0))<;>rfl
theorem Z3c (x0:Z0)(x1 x2:Int)(hx:Zg x0≤1050000):Xe x0 x1 x2=some (U0 x0 x1 x2):=by
 unfold Xe
 rw[Z3a _ _ hx,bind_s]
 cases hC:Un x0 x1 with
 |false=>
  have:U0 x0 x1 x2=YV Xu false:=by unfold U0;rw[hC];rfl
  rw[this];rfl
 |true=>
  have hB:Zn x0=true:=by
   unfold Un at hC
   rw[Bool.and_eq_true]at hC
   exact hC.1
  have hl:=Q9 x0 hx hB
  have sp:=Qy x0 hB
  rw[Bool.not_true,cond_f]
  have e:ZJ x0 2 x1 x2 ((),x0)=some (U0 x0 x1 x2):=by
   unfold ZJ
   simp only[ZJ.b,Wb _ hx,US,bind_s,Z2H _ _ _ _ hl]
   unfold U0 YQ
   rw[hB,hC,Bool.not_true,cond_f,Bool.true_and,Bool.true_and]
   cases h3:ZB x2 0 200 with
   |false=>rw[Bool.and_false];rfl
   |true=>
    rw[Bool.not_true,cond_f,Bool.and_true]
    by_cases hlo:x1<(Zr x0)
    ·rw[decide_eq_true hlo,show ZB x1 (Zr x0) 100000=false by unfold ZB;rw[decide_eq_false (by omega),Bool.false_and]];rfl
    ·rw[decide_eq_false hlo,cond_f]
     by_cases hu:x1≤100000
     ·rw[show ZB x1 (Zr x0) 100000=true by unfold ZB;rw[decide_eq_true (by omega),decide_eq_true hu,Bool.and_self],Bool.true_and,QV _ _ _ _ (by unfold ZB;rw[decide_eq_true (by omega),decide_eq_true hu,Bool.and_self]) h3]
     ·rw[show ZB x1 (Zr x0) 100000=false by unfold ZB;rw[decide_eq_false hu,Bool.and_false],Bool.false_and]
      rw[QU _ _ _ _ (by unfold ZB;rw[decide_eq_false hu,Bool.and_false]),cond_f,cond_f]
  rw[e,bind_s]
theorem aB {e f:Option Bool}{b c:Bool}(h:e=some b)(hf:f=some c):(e.bind fun y=>bif y then f else some false)=some (b&&c):=by
 rw[h,bind_s,hf];cases b<;>rfl
theorem aC {f:Option Bool}{c d:Bool}(hf:f=some d):(bif c then f else some false)=some (c&&d):=by
 rw[hf];cases c<;>rfl
theorem aL {α:Type}{e:Option α}{b:α}(h:e=some b):(e.bind fun y=>some y)=some b:=by rw[h,bind_s]
theorem Z0u {xs:List Z6}{i:Nat}(h:i<xs.length){n:Nat}(hx:W9 xs≤n):Xy xs[i]≤n:=by
 have:=Z1f Xy h
 unfold W9 Xb at hx
 omega
theorem QL {xs:List Z4}{i:Nat}(h:i<xs.length){n:Nat}(hx:ZI xs≤n):YN xs[i]≤n:=by
 have:=Z1f YN h
 unfold ZI Xb at hx
 omega
def Z0w (k:Z5)(s:Int):Int:=([(239:Int),s]++WY k).foldl UY 11
theorem Z26 (k:Z5)(s:Int)(hk:k.1.length≤1050000):W3 k s=some (Z0w k s):=by
 have hl:=QP k
 unfold W3 Z0w
 rw[Z0t k hk,bind_s,decide_eq_true (by simp[hl];omega),cond_t,Qi _ (by simp[hl];omega),bind_s]
noncomputable def Qa (k:Z5)(m:List Int)(sg:List Zb):Bool:=XB k&&decide (U1 (Uh sg m) k.1 0≥k.2)
theorem Z22 (k:Z5)(m:List Int)(sg:List Zb)(hk:k.1.length≤1050000)(hs:sg.length≤1050000)(hm:m.length≤8388608):W1 k m sg=some (Qa k m sg):=by
 unfold W1 Qa
 exact aB (Qk k hk) (Zh (Z4C k m sg hk hs hm) rfl)
theorem Z3n (k:Z5)(m:List Int)(sg:List Zb)(hk:k.1.length≤1050000)(hs:sg.length≤1050000)(hm:m.length≤8388608):Wp k m sg=some (Qa k m sg):=by
 unfold Wp Qa
 exact aB (Z0d k hk) (Zh (Z3f k m sg hk hs hm) rfl)
noncomputable def XV (s:Z6)(k:Z5):Bool:=Qa k (XM (Zf s)) (U9 s)
theorem Z0I (x:Z0)(hx:Zg x≤1050000):(XM x).length≤8388608:=by rw[Qv];omega
theorem Z0Q (s:Z6)(k:Z5)(hs:Xy s≤1050000)(hk:k.1.length≤1050000):X0 s k=some (XV s k):=by
 unfold Xy at hs
 unfold X0 XV
 exact Zh (Z0J _ (by omega)) (aL (Z3n _ _ _ hk (by omega) (Z0I _ (by omega))))
noncomputable def QM (s:Z6):Bool:=Zn (Zf s)&&(Zz (Zf s)==(0:Int)&&(ZH (Zf s)==(1:Int)&&(!(Zj (Zf s))&&(ZF (Zf s)==Z0w (Zp (Zf s)) (Yq (Zf s))&&XV s (Zp (Zf s))))))
theorem Z4N (s:Z6)(hs:Xy s≤1050000):Xm s=some (QM s):=by
 unfold Xy at hs
 have hk:(Zp (Zf s)).1.length≤1050000:=by unfold Zg XE at hs;omega
 unfold Xm QM
 exact aB (Qj _ (by omega)) (aC (aC (aC (Zh (Z26 _ _ hk) (aC (Zh (Z0r _ (by omega)) (aL (Z22 _ _ _ hk (by omega) (Z0I _ (by omega))))))))))
theorem Z0q (a b:Z5)(hx:a.1.length≤1050000):XT a b=some (decide (a=b)):=by
 unfold XT
 refine(aC (aL (Z2q _ _ (by omega)))).trans ?_
 obtain⟨a1,a2⟩:=a
 obtain⟨b1,b2⟩:=b
 by_cases h1:a1=b1<;>by_cases h2:a2=b2<;>simp[h1,h2]
def Ud (a b:Z0):Bool:=ZO a==ZO b&&ZP a==ZP b
theorem Z24 (a b:Z0):X9 a b=some (Ud a b):=aC rfl
theorem Z1D (a b:Z0):X8 a b=some (Ud a b):=aC rfl
def Qh (p h:Z0):Int:=bif Zj p then 4 else bif Zj h then 6 else 1
def Z0j (p h:Z0):Bool:=X7 (Ze p)||decide ((Zr h)<(IntKind.i64.wrap ((ZV p)+(Zx p))))
def UN (p h:Z0):Int:=bif Zj p then 4 else bif Z0j p h then 5 else bif Zj h||(!decide (Zp h=Ze p)|| !Ud h p)then 6 else 1
def UQ (p h:Z0):Int:=bif X7 (Zk p)then 5 else bif(Zj h==Zj p)|| !(Ud h p&&(decide (Zk h=Zk p)&&(decide (Ze h=Ze p)&&(Zx h==Zx p))))then 6 else bif Zj h&& !decide (Zp h=Zp p)then 6 else 1
theorem Z53 (p h:Z0):Xq p h=some (Qh p h):=by
 unfold Xq Qh
 cases Zj p<;>cases Zj h<;>rfl
theorem UM (h:Z0)(hx:Zg h≤1050000):(Zp h).1.length≤1050000∧(Ze h).1.length≤1050000∧(Zk h).1.length≤1050000:=by
 unfold Zg XE at hx;omega
theorem Z4K (p h:Z0)(hh:Zg h≤1050000):Yb p h=some (UN p h):=by
 have hk:=(UM h hh).1
 unfold Yb UN Z0j
 simp only[Yb.b,Yb.l9,Yb.g9,QC,Z0q _ _ hk,Z24,bind_s]
 generalize decide ((Zr h)<(IntKind.i64.wrap ((ZV p)+(Zx p))))=a
 generalize decide (Zp h=Ze p)=b
 cases Zj p<;>cases X7 (Ze p)<;>cases a<;>cases Zj h<;>cases b<;>cases Ud h p<;>rfl
theorem Z4T (p h:Z0)(hh:Zg h≤1050000):Yc p h=some (UQ p h):=by
 have hk:=UM h hh
 unfold Yc UQ
 simp only[Yc.b,Yc.l9,Yc.g9,QC,Z0q _ _ hk.1,Z0q _ _ hk.2.1,Z0q _ _ hk.2.2,Z24,bind_s,bne]
 generalize (Zx h==Zx p)=w
 generalize (Zj h==Zj p)=q
 generalize decide (Zk h=Zk p)=a
 generalize decide (Ze h=Ze p)=b
 generalize decide (Zp h=Zp p)=d
 cases X7 (Zk p)<;>cases q<;>cases Ud h p<;>cases a<;>cases b<;>cases w<;>cases Zj h<;>cases d<;>rfl
def Ua (code:Int)(b:Bool):Int:=bif code==(1:Int)then(bif b then code else 7)else code
noncomputable def UO (p h:Z0):Bool:=ZF h==ZF p&&(Zz h==IntKind.i64.wrap ((Zz p)+(1:Int))&&(Yq h==WR p&&decide (Zr h≥Zr p)))
theorem Z3L (p h:Z0)(hp:Zg p≤1050000):Xj p h=some (UO p h):=by
 unfold Xj UO
 exact aC (aC (Zh (Qw p hp) (aC rfl)))
noncomputable def Qz (p:Z0)(s:Z6):Int:=
 bif ZH (Zf s)==(2:Int)then Ua (UN p (Zf s)) (XV s (Ze p))else bif ZH (Zf s)==(3:Int)then Ua (UQ p (Zf s)) (XV s (Zk p))else Ua (Qh p (Zf s)) (XV s (Zp p))
noncomputable def Uy (p:Z0)(s:Z6):Int:=
 bif !(Zn p&&Zn (Zf s))then 2 else bif !UO p (Zf s)then 3 else Qz p s
theorem Z32 (c:Int)(b:Bool):(bif c==(1:Int)then(bif !b then some (7:Int)else some c)else some c)=some (Ua c b):=by
 unfold Ua
 cases(c==(1:Int))<;>cases b<;>rfl
theorem Z19 (s:Z6)(c:Int)(k:Z5)(hs:Xy s≤1050000)(hk:k.1.length≤1050000):Zu.l31 s c k.1 k.2=some (Ua c (XV s k)):=by
 unfold Xy at hs
 unfold Zu.l31
 simp only[Zu.g31,Z0r _ (show Zg (Zf s)≤1050000 by omega),Z22 k _ _ hk (show(U9 s).length≤1050000 by omega) (Z0I (Zf s) (by omega)),bind_s]
 exact Z32 c _
theorem Z23 (p:Z0)(s:Z6)(hp:Zg p≤1050000)(hs:Xy s≤1050000):Zu p s=some (Uy p s):=by
 have hs':=hs
 unfold Xy at hs'
 have hk:=UM p hp
 unfold Zu Uy UO
 simp only[Zu.b,Zu.l9,Zu.g9,Zu.l13,Zu.g13,Qj p hp,Qj (Zf s) (show _≤1050000 by omega),Z18 p hp,Z53,Z4K p (Zf s) (by omega),Z4T p (Zf s) (by omega),Z19 s _ _ hs hk.1,Z19 s _ _ hs hk.2.1,Z19 s _ _ hs hk.2.2,bind_s,QI,bne]
 show some _=some _
 unfold Qz
 congr 1
 generalize (ZF (Zf s)==ZF p)=a
 generalize (Zz (Zf s)==IntKind.i64.wrap ((Zz p)+(1:Int)))=b
 generalize (Yq (Zf s)==WR p)=c
 have e:decide ((Zr (Zf s))<(Zr p))= !decide (Zr (Zf s)≥Zr p):=by
  by_cases h:Zr (Zf s)<Zr p
  ·rw[decide_eq_true h,decide_eq_false (by omega)];rfl
  ·rw[decide_eq_false h,decide_eq_true (by omega)];rfl
 rw[e]
 generalize decide (Zr (Zf s)≥Zr p)=d
 cases Zn p<;>cases Zn (Zf s)<;>cases a<;>cases b<;>cases c<;>cases d<;>rfl
theorem Z3y (p:Z0)(s:Z6)(hp:Zg p≤1050000)(hs:Xy s≤1050000):Xk p s=some (Ua (Qh p (Zf s)) (XV s (Zp p))):=by
 have hk:=UM p hp
 unfold Xk Qh
 rw[Z0Q s _ hs hk.1,bind_s]
 cases Zj p<;>cases Zj (Zf s)<;>cases XV s (Zp p)<;>rfl
theorem Z3i (p:Z0)(s:Z6)(hp:Zg p≤1050000)(hs:Xy s≤1050000):ZC p s=some (Ua (UN p (Zf s)) (XV s (Ze p))):=by
 have hk:=UM p hp
 have hs':=hs
 unfold Xy at hs'
 have hq:=UM (Zf s) (by omega)
 unfold ZC UN Z0j
 simp only[ZC.b,ZC.l11,ZC.g11,ZC.l15,ZC.g15,Qx,Ql _ _ hq.1,Z1D,Z0Q s _ hs hk.2.1,bind_s]
 generalize decide ((Zr (Zf s))<(IntKind.i64.wrap ((ZV p)+(Zx p))))=a
 generalize decide (Zp (Zf s)=Ze p)=b
 generalize XV s (Ze p)=c
 cases Zj p<;>cases X7 (Ze p)<;>cases a<;>cases Zj (Zf s)<;>cases b<;>cases Ud (Zf s) p<;>cases c<;>rfl
theorem Z3p (p:Z0)(s:Z6)(hp:Zg p≤1050000)(hs:Xy s≤1050000):ZD p s=some (Ua (UQ p (Zf s)) (XV s (Zk p))):=by
 have hk:=UM p hp
 have hs':=hs
 unfold Xy at hs'
 have hq:=UM (Zf s) (by omega)
 unfold ZD UQ
 simp only[ZD.b,ZD.l7,ZD.g7,ZD.l13,ZD.g13,Qx,Ql _ _ hq.1,Ql _ _ hq.2.1,Ql _ _ hq.2.2,Z1D,Z0Q s _ hs hk.2.2,bind_s]
 generalize (Zx (Zf s)==Zx p)=w
 generalize (Zj (Zf s)==Zj p)=q
 generalize decide (Zk (Zf s)=Zk p)=a
 generalize decide (Ze (Zf s)=Ze p)=b
 generalize decide (Zp (Zf s)=Zp p)=d
 generalize XV s (Zk p)=c
 cases X7 (Zk p)<;>cases q<;>cases Ud (Zf s) p<;>cases a<;>cases b<;>cases w<;>cases Zj (Zf s)<;>cases d<;>cases c<;>rfl
theorem Z3K (x:Z0)(h:Zn x=true):ZH x=1∨ZH x=2∨ZH x=3:=by
 unfold Zn hr4 at h
 simp only[Bool.and_eq_true]at h
 have h1:=h.1.2.2.2.2
 unfold ZB at h1
 simp only[Bool.and_eq_true,decide_eq_true_eq]at h1
 omega
theorem Z3w (p:Z0)(s:Z6)(hp:Zg p≤1050000)(hs:Xy s≤1050000):Y9 p s=some (Uy p s):=by
 have hs':=hs
 unfold Xy at hs'
 unfold Y9 Uy
 simp only[Y9.b,Y9.l5,Y9.g5,Wb p hp,Wb (Zf s) (show _≤1050000 by omega),Z3L p _ hp,Z3y p s hp hs,Z3i p s hp hs,Z3p p s hp hs,bind_s]
 cases h1:Zn p with
 |false=>rfl
 |true=>
  cases h2:Zn (Zf s)with
  |false=>rfl
  |true=>
   cases UO p (Zf s)with
   |false=>rfl
   |true=>
    show _=some (Qz p s)
    unfold Qz
    rcases Z3K _ h2 with h|h|h<;>rw[h]<;>rfl
noncomputable def Ww (p:Z0)(s:Z6):Bool:=Uy p s==(1:Int)
theorem Z4Z (p:Z0)(s:Z6)(hp:Zg p≤1050000)(hs:Xy s≤1050000):Xn p s=some (Ww p s):=Zh (Z23 p s hp hs) rfl
theorem Z3u (p:Z0)(s:Z6)(hp:Zg p≤1050000)(hs:Xy s≤1050000):X2 p s=some (Ww p s):=Zh (Z3w p s hp hs) rfl
noncomputable def fw :Option Z0→List Z6→Int→Int
 |_,[],_=> -1
 |none,s::t,k=>bif !QM s then k else fw (some (Zf s)) t (k+1)
 |some p,s::t,k=>bif !Ww p s then k else fw (some (Zf s)) t (k+1)
def QX (xs:List Z6):Nat→Option Z0
 |0=>none
 |j+1=>some (Zf (xs.getD j YZ))
theorem Z34 (o:Option Z0)(xs:List Z6)(k:Int):fw o (xs.drop xs.length) k= -1:=by
 rw[List.drop_length]
 cases o<;>rfl
theorem Z36 {xs:List Z6}(h:0<xs.length):fw none (xs.drop 0) 0=bif !QM xs[0]then 0 else fw (QX xs 1) (xs.drop 1) 1:=by
 rw[List.drop_eq_getElem_cons h]
 show _=bif !QM xs[0]then 0 else fw (some (Zf (xs.getD 0 YZ))) (xs.drop 1) 1
 rw[at_n h];rfl
theorem Z35 {xs:List Z6}{j:Nat}(h:j+1<xs.length):fw (QX xs (j+1)) (xs.drop (j+1)) ((j+1:Nat):Int)=bif !Ww (Zf xs[j]) xs[j+1]then((j+1:Nat):Int)else fw (QX xs (j+2)) (xs.drop (j+2)) ((j+2:Nat):Int):=by
 rw[List.drop_eq_getElem_cons h]
 show fw (some (Zf (xs.getD j YZ))) _ _=bif !Ww (Zf xs[j]) xs[j+1]then((j+1:Nat):Int)else fw (some (Zf (xs.getD (j+1) YZ))) (xs.drop (j+2)) ((j+2:Nat):Int)
 rw[at_n h,at_n (show j<xs.length by omega)];rfl
theorem Z1B {xs:List Z6}{i:Nat}(h:i<xs.length){n:Nat}(hx:W9 xs≤n):Zg (Zf xs[i])≤n:=by
 have:=Z0u h hx
 unfold Xy at this
 omega
theorem Z4H (x0:List Z6)(hx:W9 x0≤1050000):∀i n,i≤x0.length→x0.length-i<n→Yf.l4 x0 n (i:Int)=some (fw (QX x0 i) (x0.drop i) (i:Int)):=by
 have hl:x0.length≤1050000:=by unfold W9 Xb at hx;omega
 refine idx_ind ?_ ?_
 ·intro n
  rw[Yf.u4]
  simp only[Yf.g4,lt_f (Nat.le_refl _),cond_f,Z34]
 ·intro i n hi ih
  rw[Yf.u4]
  match i,hi,ih with
  |0,hi,ih=>
   have e:=Z36 hi
   have hg:x0.getD ((0:Int).toNat) YZ=x0[0]:=at_n hi _
   simp only[Yf.g4,lt_t hi,cond_t,Int.natCast_zero,beq_self_eq_true,decide_eq_true (Int.le_refl 0),hg,Z4N _ (Z0u hi hx),bind_s]
   rw[decide_eq_true (show(0:Int)<(x0.length:Int) by omega),cond_t,cond_t,wd (n:=(0:Int)+1) (by omega),decide_eq_false (by omega),cond_f,show(0:Int)+1=((0+1:Nat):Int)from rfl,ih]
   rw[show QX x0 0=none from rfl,e,QI];rfl
  |j+1,hi,ih=>
   have e:=Z35 hi
   have hj:j<x0.length:=by omega
   have ew:IntKind.i64.wrap (((j+1:Nat):Int)-1)=(j:Int):=by rw[wd (by omega)];omega
   simp only[Yf.g4,lt_t hi,cond_t,ew,ge_t,lt_t hj,Int.toNat_natCast,at_n hi,at_n hj,Z4Z _ _ (Z1B hj hx) (Z0u hi hx),bind_s]
   rw[show(((j+1:Nat):Int)==(0:Int))=false by rw[beq_eq_false_iff_ne];omega,cond_f,decide_eq_true (by omega),cond_t,w64_succ (by omega),ih,e,QI]
noncomputable def Ui (xs:List Z6):Bool:=ZB (xs.length:Int) 1 12&&decide (fw none xs 0<0)
theorem Z4I (x0:List Z6)(hx:W9 x0≤1050000):Yf x0=some (fw none x0 0):=
 Z4H x0 hx 0 KK (Nat.zero_le _) (KK_gt (by unfold W9 Xb at hx;omega))
theorem Z4L (x0:List Z6)(hx:W9 x0≤1050000):WD x0=some (Ui x0):=by
 unfold WD Ui
 exact aB (QR _ _ _) (Zh (Z4I x0 hx) rfl)
theorem Z3I (xs:List Z6)(h:Ui xs=true):1≤xs.length∧xs.length≤12:=by
 unfold Ui ZB at h
 simp only[Bool.and_eq_true,decide_eq_true_eq]at h
 omega
theorem Z3Q (xs:List Z6)(i:Nat)(n:Nat)(hx:W9 xs≤n):Zg (Zf (xs.getD i YZ))≤n:=by
 by_cases h:i<xs.length
 ·rw[at_n h];exact Z1B h hx
 ·have e:xs.getD i YZ=YZ:=by simp[List.getD,show xs.length≤i by omega]
  rw[e];exact Nat.zero_le _
theorem Z1L (x:List ByteArray)(hx:x.length≤1050000):W5 x=some x:=by
 unfold W5
 rw[decide_eq_true (by simp;omega),cond_t];rfl
theorem Z2V (e:Z4)(hx:YN e≤1050000):e.2.2.2.length≤1050000:=by
 unfold YN Xv Xb at hx;omega
theorem Z0i (e:Z4)(hx:YN e≤1050000):XP e=some e:=by
 unfold XP
 exact Zh (Z1L _ (Z2V e hx)) rfl
theorem Z4q (x0:Z0)(x1 x2 x3:Int)(k:Z5)(c:Z0)(v:Bool)(hx:Zg x0≤1050000)(hc:Wu (YS x0 x1 x2 x3) k=some c)(hs:Zg c≤1050000):ZT.l5 x0 x1 x2 x3 ((),k) v=some (bif v then YT else bif Zn (YS x0 x1 x2 x3)&&Zn c then YV c true else YT):=by
 cases v with
 |true=>rfl
 |false=>
  have hu:Zg (YS x0 x1 x2 x3)≤1050000:=hx
  refine Zh (Uu x0 hx) (Zh (Z02 x2 x3) (Zh (Qw x0 hx) (Zh (Uu (YS x0 x1 x2 x3) hu) (Zh hc (Zh (Wb _ hu) ?_)))))
  cases Zn (YS x0 x1 x2 x3)with
  |false=>rfl
  |true=>
   refine Zh (Wb c hs) ?_
   cases Zn c<;>rfl
theorem Z4m (x0:Z0)(x1 x2 x3:Int)(k:Z5)(chg:Z0→Z0)(hx:Zg x0≤1050000)(hc:Wu (YS x0 x1 x2 x3) k=some (chg (YS x0 x1 x2 x3)))(hs:Zn x0=true→Zg (chg (YS x0 x1 x2 x3))≤1050000):ZT x0 x1 x2 x3 ((),k)=some (bif YQ x0 x2 x3&&(Zn (Zt x0 x1 x2 x3)&&Zn (chg (Zt x0 x1 x2 x3)))then YV (chg (Zt x0 x1 x2 x3)) true else YT):=by
 unfold ZT YQ
 refine Zh (Wb x0 hx) ?_
 cases hb:Zn x0 with
 |false=>rfl
 |true=>
  have sp:=Qy x0 hb
  have h5:=fun v=>Z4q x0 x1 x2 x3 k _ v hx hc (hs hb)
  refine Zh (US _ _ _) ?_
  rw[Bool.true_and]
  cases h3:ZB x3 0 200 with
  |false=>
   rw[Bool.and_false,Bool.false_and]
   exact(h5 true)
  |true=>
   rw[Bool.and_true]
   refine(h5 _).trans ?_
   by_cases hl:x2<Zr x0
   ·rw[decide_eq_true hl,show ZB x2 (Zr x0) 100000=false by unfold ZB;rw[decide_eq_false (by omega),Bool.false_and]];rfl
   ·rw[decide_eq_false hl,cond_f]
    by_cases hu:x2≤100000
    ·rw[show ZB x2 (Zr x0) 100000=true by unfold ZB;rw[decide_eq_true (by omega),decide_eq_true hu,Bool.and_self],QV _ _ _ _ (by unfold ZB;rw[decide_eq_true (by omega),decide_eq_true hu,Bool.and_self]) h3,Bool.true_and]
    ·rw[show ZB x2 (Zr x0) 100000=false by unfold ZB;rw[decide_eq_false hu,Bool.and_false],QU _ _ _ _ (by unfold ZB;rw[decide_eq_false hu,Bool.and_false])];rfl
theorem Z4o (x0:Z0)(x1 x2 x3:Int)(p:Z0)(k:Z5)(c:Z0)(v:Bool)(hx:Zg x0≤1050000)(hc:Wc (YS x0 x1 x2 x3) p k=some c)(hs:Zg c≤1050000):ZR.l5 x0 x1 x2 x3 ((),(p,k)) v=some (bif v then YT else bif Zn (YS x0 x1 x2 x3)&&Zn c then YV c true else YT):=by
 cases v with
 |true=>rfl
 |false=>
  have hu:Zg (YS x0 x1 x2 x3)≤1050000:=hx
  refine Zh (Uu x0 hx) (Zh (Z02 x2 x3) (Zh (Qw x0 hx) (Zh (Uu (YS x0 x1 x2 x3) hu) (Zh hc (Zh (Wb _ hu) ?_)))))
  cases Zn (YS x0 x1 x2 x3)with
  |false=>rfl
  |true=>
   refine Zh (Wb c hs) ?_
   cases Zn c<;>rfl
theorem Z4k (x0:Z0)(x1 x2 x3:Int)(p:Z0)(k:Z5)(chg:Z0→Z0)(hx:Zg x0≤1050000)(hc:Wc (YS x0 x1 x2 x3) p k=some (chg (YS x0 x1 x2 x3)))(hs:Zn x0=true→Zg (chg (YS x0 x1 x2 x3))≤1050000):ZR x0 x1 x2 x3 ((),(p,k))=some (bif YQ x0 x2 x3&&(Zn (Zt x0 x1 x2 x3)&&Zn (chg (Zt x0 x1 x2 x3)))then YV (chg (Zt x0 x1 x2 x3)) true else YT):=by
 unfold ZR YQ
 refine Zh (Wb x0 hx) ?_
 cases hb:Zn x0 with
 |false=>rfl
 |true=>
  have sp:=Qy x0 hb
  have h5:=fun v=>Z4o x0 x1 x2 x3 p k _ v hx hc (hs hb)
  refine Zh (US _ _ _) ?_
  rw[Bool.true_and]
  cases h3:ZB x3 0 200 with
  |false=>
   rw[Bool.and_false,Bool.false_and]
   exact(h5 true)
  |true=>
   rw[Bool.and_true]
   refine(h5 _).trans ?_
   by_cases hl:x2<Zr x0
   ·rw[decide_eq_true hl,show ZB x2 (Zr x0) 100000=false by unfold ZB;rw[decide_eq_false (by omega),Bool.false_and]];rfl
   ·rw[decide_eq_false hl,cond_f]
    by_cases hu:x2≤100000
    ·rw[show ZB x2 (Zr x0) 100000=true by unfold ZB;rw[decide_eq_true (by omega),decide_eq_true hu,Bool.and_self],QV _ _ _ _ (by unfold ZB;rw[decide_eq_true (by omega),decide_eq_true hu,Bool.and_self]) h3,Bool.true_and]
    ·rw[show ZB x2 (Zr x0) 100000=false by unfold ZB;rw[decide_eq_false hu,Bool.and_false],QU _ _ _ _ (by unfold ZB;rw[decide_eq_false hu,Bool.and_false])];rfl
theorem Z4p (x0:Z0)(x1 x2 x3:Int)(i:Z5)(w:Int)(j:Z5)(c:Z0)(v:Bool)(hx:Zg x0≤1050000)(hc:Wr (YS x0 x1 x2 x3) i w j=some c)(hs:Zg c≤1050000):ZS.l5 x0 x1 x2 x3 ((),(i,w,j)) v=some (bif v then YT else bif Zn (YS x0 x1 x2 x3)&&Zn c then YV c true else YT):=by
 cases v with
 |true=>rfl
 |false=>
  have hu:Zg (YS x0 x1 x2 x3)≤1050000:=hx
  refine Zh (Uu x0 hx) (Zh (Z02 x2 x3) (Zh (Qw x0 hx) (Zh (Uu (YS x0 x1 x2 x3) hu) (Zh hc (Zh (Wb _ hu) ?_)))))
  cases Zn (YS x0 x1 x2 x3)with
  |false=>rfl
  |true=>
   refine Zh (Wb c hs) ?_
   cases Zn c<;>rfl
theorem Z4l (x0:Z0)(x1 x2 x3:Int)(i:Z5)(w:Int)(j:Z5)(chg:Z0→Z0)(hx:Zg x0≤1050000)(hc:Wr (YS x0 x1 x2 x3) i w j=some (chg (YS x0 x1 x2 x3)))(hs:Zn x0=true→Zg (chg (YS x0 x1 x2 x3))≤1050000):ZS x0 x1 x2 x3 ((),(i,w,j))=some (bif YQ x0 x2 x3&&(Zn (Zt x0 x1 x2 x3)&&Zn (chg (Zt x0 x1 x2 x3)))then YV (chg (Zt x0 x1 x2 x3)) true else YT):=by
 unfold ZS YQ
 refine Zh (Wb x0 hx) ?_
 cases hb:Zn x0 with
 |false=>rfl
 |true=>
  have sp:=Qy x0 hb
  have h5:=fun v=>Z4p x0 x1 x2 x3 i w j _ v hx hc (hs hb)
  refine Zh (US _ _ _) ?_
  rw[Bool.true_and]
  cases h3:ZB x3 0 200 with
  |false=>
   rw[Bool.and_false,Bool.false_and]
   exact(h5 true)
  |true=>
   rw[Bool.and_true]
   refine(h5 _).trans ?_
   by_cases hl:x2<Zr x0
   ·rw[decide_eq_true hl,show ZB x2 (Zr x0) 100000=false by unfold ZB;rw[decide_eq_false (by omega),Bool.false_and]];rfl
   ·rw[decide_eq_false hl,cond_f]
    by_cases hu:x2≤100000
    ·rw[show ZB x2 (Zr x0) 100000=true by unfold ZB;rw[decide_eq_true (by omega),decide_eq_true hu,Bool.and_self],QV _ _ _ _ (by unfold ZB;rw[decide_eq_true (by omega),decide_eq_true hu,Bool.and_self]) h3,Bool.true_and]
    ·rw[show ZB x2 (Zr x0) 100000=false by unfold ZB;rw[decide_eq_false hu,Bool.and_false],QU _ _ _ _ (by unfold ZB;rw[decide_eq_false hu,Bool.and_false])];rfl
def Ue (h:Z0)(k:Z5):Z0:=YR (ZF h) (Zz h) (ZH h) (Zr h) (ZV h) (ZO h) (ZP h) (Yq h) k (Ze h) (Zx h) (Zk h) (Zj h)
theorem Z5e (h:Z0)(k:Z5):Zg (Ue h k)=k.1.length+((Ze h).1.length+(Zk h).1.length):=rfl
theorem QF (c:Bool)(h:Z0):X6 (bif c then YV h true else YT)=c∧(c=true→Zc (bif c then YV h true else YT)=h):=by
 cases c
 ·exact⟨rfl,fun h=>Bool.noConfusion h⟩
 ·exact⟨rfl,fun _=>rfl⟩
theorem Z0n (x0:Z0)(x1 x2 x3:Int):X6 (Uj x0 x1 x2 x3)=(YQ x0 x2 x3&&Zn (Zt x0 x1 x2 x3)):=by
 unfold Uj WN
 cases YQ x0 x2 x3<;>cases Zn (Zt x0 x1 x2 x3)<;>rfl
theorem Z0m (x0:Z0)(x1 x2 x3:Int)(h:(YQ x0 x2 x3&&Zn (Zt x0 x1 x2 x3))=true):Zc (Uj x0 x1 x2 x3)=Zt x0 x1 x2 x3:=by
 rw[Bool.and_eq_true]at h
 unfold Uj WN
 rw[h.1,h.2,cond_t,cond_t]
 exact(Qm _ _).1
noncomputable def Uk (x0:Z0)(k:Z5)(x2 x3:Int):Z7:=bif YQ x0 x2 x3&&(Zn (Zt x0 1 x2 x3)&&Zn (Ue (Zt x0 1 x2 x3) k))then YV (Ue (Zt x0 1 x2 x3) k) true else YT
theorem Z10 {x0:Z0}{x2 x3:Int}(h:YQ x0 x2 x3=true):Zn x0=true:=by
 unfold YQ at h
 rw[Bool.and_eq_true]at h
 exact h.1
theorem Z1c (x0:Z0)(k:Z5)(h:Z0)(hh:Zg h=Zg x0)(hk:Zg x0+k.1.length≤1050000):Zg (Ue h k)≤1050000:=by
 rw[Z5e]
 unfold Zg XE at hh hk
 omega
theorem Z55 (x0:Z0)(k:Z5)(x2 x3:Int)(hx:Zg x0≤1050000)(hk:k.1.length≤1050000)(hk':Zg x0+k.1.length≤1050000):Xp x0 k x2 x3=some (Uk x0 k x2 x3):=by
 unfold Xp Uk
 refine Zh (QY x0 1 x2 x3 hx) ?_
 rw[Z0n]
 cases hg:(YQ x0 x2 x3&&Zn (Zt x0 1 x2 x3))with
 |false=>
  have e:(YQ x0 x2 x3&&(Zn (Zt x0 1 x2 x3)&&Zn (Ue (Zt x0 1 x2 x3) k)))=false:=by
   rw[←Bool.and_assoc,hg,Bool.false_and]
  rw[e];rfl
 |true=>
  have e:(YQ x0 x2 x3&&(Zn (Zt x0 1 x2 x3)&&Zn (Ue (Zt x0 1 x2 x3) k)))=Zn (Ue (Zt x0 1 x2 x3) k):=by
   rw[←Bool.and_assoc,hg,Bool.true_and]
  rw[e,Z0m _ _ _ _ hg]
  have hb:=Z10 ((Bool.and_eq_true _ _▸hg).1)
  have hl:=Q9 x0 hx hb
  have hs:Zg (Ue (Zt x0 1 x2 x3) k)≤1050000:=Z1c x0 k _ rfl hk'
  refine cF rfl (Zh (UJ k hk) (Zh (Qd (Ue (Zt x0 1 x2 x3) k) hs) ?_))
  unfold WN;rfl
theorem Z3B (x0:Z0)(k:Z5)(x2 x3:Int)(hx:Zg x0≤1050000)(hk:k.1.length≤1050000)(hk':Zg x0+k.1.length≤1050000):Xh x0 k x2 x3=some (Uk x0 k x2 x3):=by
 unfold Xh Uk
 refine Zh (Z4m x0 1 x2 x3 k (fun h=>Ue h k) hx (Zh (UW k hk) rfl) (fun hb=> ?_)) rfl
 exact Z1c x0 k _ rfl hk'
theorem Z1V (x0:Z0)(x1 x2 x3:Int):Zg (Zt x0 x1 x2 x3)=Zg x0:=by unfold Zt Uz;rfl
def XC (f:Bool)(k:Z5)(h:Z0):Z0:=bif f then YR (ZF h) (Zz h) (ZH h) (Zr h) (ZV h) (ZO h) (ZP h) (Yq h) k (Ze h) (Zx h) (Zk h) (!f)else YR (ZF h) (Zz h) (ZH h) (Zr h) (ZV h) (ZO h) (ZP h) (Yq h) (Zp h) (Ze h) (Zx h) (Zk h) (!f)
theorem Z1b (x0:Z0)(f:Bool)(k:Z5)(h:Z0)(hh:Zg h=Zg x0)(hk:Zg x0+k.1.length≤1050000):Zg (XC f k h)≤1050000:=by
 unfold Zg XE at hh hk
 cases f with
 |true=>show k.1.length+((Ze h).1.length+(Zk h).1.length)≤_;omega
 |false=>show(Zp h).1.length+((Ze h).1.length+(Zk h).1.length)≤_;omega
noncomputable def Uw (x0:Z0)(k:Z5)(x2 x3:Int):Z7:=bif !X7 (Zk x0)&&(YQ x0 x2 x3&&(Zn (Zt x0 3 x2 x3)&&Zn (XC (Zj x0) k (Zt x0 3 x2 x3))))then YV (XC (Zj x0) k (Zt x0 3 x2 x3)) true else YT
theorem Z4R (x0:Z0)(k:Z5)(y:Z7)(h:Z0)(hy:Zc y=h)(hk:k.1.length≤1050000)(hs:Zg (XC (Zj x0) k h)≤1050000):ZE.l7 x0 k y false=some (bif Zn (XC (Zj x0) k h)then YV (XC (Zj x0) k h) true else YT):=by
 subst hy
 unfold XC at hs⊢
 show(bif Zj x0 then _ else _)=_
 revert hs
 cases Zj x0 with
 |true=>exact fun hs=>Zh (UJ k hk) (Zh (Qd _ hs) rfl)
 |false=>exact fun hs=>Zh (Qd _ hs) rfl
theorem Z4S (x0:Z0)(k:Z5)(x2 x3:Int)(hx:Zg x0≤1050000)(hk:k.1.length≤1050000)(hk':Zg x0+k.1.length≤1050000):ZE x0 k x2 x3=some (Uw x0 k x2 x3):=by
 unfold ZE Uw
 refine Zh (QY x0 3 x2 x3 hx) ?_
 rw[Z0n]
 cases hg:(YQ x0 x2 x3&&Zn (Zt x0 3 x2 x3))with
 |false=>
  have e:(YQ x0 x2 x3&&(Zn (Zt x0 3 x2 x3)&&Zn (XC (Zj x0) k (Zt x0 3 x2 x3))))=false:=by
   rw[←Bool.and_assoc,hg,Bool.false_and]
  rw[e,Bool.and_false];rfl
 |true=>
  have e:(YQ x0 x2 x3&&(Zn (Zt x0 3 x2 x3)&&Zn (XC (Zj x0) k (Zt x0 3 x2 x3))))=Zn (XC (Zj x0) k (Zt x0 3 x2 x3)):=by
   rw[←Bool.and_assoc,hg,Bool.true_and]
  rw[e]
  refine cF rfl (Zh (QC _) ?_)
  cases X7 (Zk x0)with
  |true=>rfl
  |false=>
   rw[Bool.not_false,Bool.true_and]
   exact Z4R x0 k _ _ (Z0m _ _ _ _ hg) hk (Z1b x0 _ k _ rfl hk')
theorem Z3o (x0:Z0)(k:Z5)(x2 x3:Int)(hx:Zg x0≤1050000)(hk:k.1.length≤1050000)(hk':Zg x0+k.1.length≤1050000):Xf x0 k x2 x3=some (Uw x0 k x2 x3):=by
 unfold Xf Uw
 refine Zh (Qx _) ?_
 cases X7 (Zk x0)with
 |true=>rfl
 |false=>
  rw[Bool.not_false,Bool.true_and]
  refine Zh (Z4k x0 3 x2 x3 x0 k (fun h=>XC (Zj x0) k h) hx ?_ (fun hb=>Z1b x0 _ k _ rfl hk')) rfl
  unfold Wc XC
  cases Zj x0 with
  |true=>exact Zh (UW k hk) rfl
  |false=>rfl
def Uf (i:Z5)(w:Int)(j:Z5)(h:Z0):Z0:=YR (ZF h) (Zz h) (ZH h) (Zr h) (ZV h) (ZO h) (ZP h) (Yq h) (Zp h) i w j (Zj h)
theorem Z5g (i:Z5)(w:Int)(j:Z5)(h:Z0):Zg (Uf i w j h)=(Zp h).1.length+(i.1.length+j.1.length):=rfl
theorem Z1d (x0:Z0)(i:Z5)(w:Int)(j:Z5)(h:Z0)(hh:Zg h=Zg x0)(hk:Zg x0+(i.1.length+j.1.length)≤1050000):Zg (Uf i w j h)≤1050000:=by
 rw[Z5g]
 unfold Zg XE at hh hk
 omega
noncomputable def UK (x0:Z0)(i:Z5)(w:Int)(j:Z5)(x2 x3:Int):Z7:=bif YQ x0 x2 x3&&(Zn (Zt x0 1 x2 x3)&&Zn (Uf i w j (Zt x0 1 x2 x3)))then YV (Uf i w j (Zt x0 1 x2 x3)) true else YT
theorem Z50 (x0:Z0)(i:Z5)(w:Int)(j:Z5)(x2 x3:Int)(hx:Zg x0≤1050000)(hi:i.1.length≤1050000)(hj:j.1.length≤1050000)(hk':Zg x0+(i.1.length+j.1.length)≤1050000):Xo x0 i w j x2 x3=some (UK x0 i w j x2 x3):=by
 unfold Xo UK
 refine Zh (QY x0 1 x2 x3 hx) ?_
 rw[Z0n]
 cases hg:(YQ x0 x2 x3&&Zn (Zt x0 1 x2 x3))with
 |false=>
  have e:(YQ x0 x2 x3&&(Zn (Zt x0 1 x2 x3)&&Zn (Uf i w j (Zt x0 1 x2 x3))))=false:=by
   rw[←Bool.and_assoc,hg,Bool.false_and]
  rw[e];rfl
 |true=>
  have e:(YQ x0 x2 x3&&(Zn (Zt x0 1 x2 x3)&&Zn (Uf i w j (Zt x0 1 x2 x3))))=Zn (Uf i w j (Zt x0 1 x2 x3)):=by
   rw[←Bool.and_assoc,hg,Bool.true_and]
  rw[e,Z0m _ _ _ _ hg]
  have hs:Zg (Uf i w j (Zt x0 1 x2 x3))≤1050000:=Z1d x0 i w j _ rfl hk'
  refine cF rfl (Zh (UJ i hi) (Zh (UJ j hj) (Zh (Qd (Uf i w j (Zt x0 1 x2 x3)) hs) ?_)))
  unfold WN;rfl
theorem Z3v (x0:Z0)(i:Z5)(w:Int)(j:Z5)(x2 x3:Int)(hx:Zg x0≤1050000)(hi:i.1.length≤1050000)(hj:j.1.length≤1050000)(hk':Zg x0+(i.1.length+j.1.length)≤1050000):Xg x0 i w j x2 x3=some (UK x0 i w j x2 x3):=by
 unfold Xg UK
 refine Zh (Z4l x0 1 x2 x3 i w j (fun h=>Uf i w j h) hx (Zh (UW i hi) (Zh (UW j hj) ?_)) (fun hb=> ?_)) rfl
 ·simp only[both_eq];rfl
 ·exact Z1d x0 i w j _ rfl hk'
theorem Z3H {α:Type}(xs:List α)(d:α)(f:α→Option Bool)(p:α→Bool)(hl:xs.length≤1050000)(hf:∀i (h:i<xs.length),f xs[i]=some (p xs[i]))(l:Nat→Int→Int→Option Int)(u:∀n L a,l (n+1) L a=(bif decide (a<L)then bif decide (0≤a)then bif decide (a<(xs.length:Int))then(f (xs.getD a.toNat d)).bind fun y1=>bif y1 then some a else l n L (IntKind.i64.wrap (a+(1:Int)))else none else none else some (-1:Int))):l KK (xs.length:Int) (0:Int)=some (Ub p xs 0):=by
 have hh:∀i n,i≤xs.length→xs.length-i<n→l n (xs.length:Int) (i:Int)=some (Ub p (xs.drop i) (i:Int)):=by
  refine idx_ind ?_ ?_
  ·intro n
   rw[u]
   simp only[lt_f (Nat.le_refl _),cond_f,Z0F]
  ·intro i n hi ih
   rw[u]
   simp only[lt_t hi,ge_t,cond_t,Int.toNat_natCast,at_n hi,hf i hi,bind_s,w64_succ (i:=i) (by omega),ih,Z0G p hi]
   cases p xs[i]<;>rfl
 have:=hh 0 KK (Nat.zero_le _) (KK_gt (by omega))
 rw[List.drop_zero]at this
 exact this
theorem Z2O {α:Type}(xs:List α)(p:α→Bool){e:Option Int}(h:e=some (Ub p xs 0)):(e.bind fun y1=>some (decide (y1≥(0:Int))))=some (xs.any p):=by
 rw[h,bind_s,Z0E _ _ _ (Int.le_refl 0)]
theorem Z1x {α:Type}(xs:List α)(d:α)(f:α→Option α)(hl:xs.length≤1050000)(hf:∀i (h:i<xs.length),f xs[i]=some xs[i])(l:Nat→List α→Int→Option (List α))(u:∀n ys a,l (n+1) ys a=(bif decide (a<(xs.length:Int))then bif decide (0≤a)then bif decide (a<(xs.length:Int))then(f (xs.getD a.toNat d)).bind fun y1=>bif decide (ys.length+[y1].length<68719476736)then l n (ys++[y1]) (IntKind.i64.wrap (a+(1:Int)))else none else none else none else some ys)):l KK [] (0:Int)=some xs:=by
 have hh:∀i n,i≤xs.length→xs.length-i<n→l n (xs.take i) (i:Int)=some xs:=by
  refine idx_ind ?_ ?_
  ·intro n
   rw[u]
   simp only[lt_f (Nat.le_refl _),cond_f,List.take_length]
  ·intro i n hi ih
   rw[u]
   have hg:(xs.take i).length+[xs[i]].length<68719476736:=by rw[List.length_take];show _+1<_;omega
   simp only[lt_t hi,ge_t,cond_t,Int.toNat_natCast,at_n hi,hf i hi,bind_s,w64_succ (i:=i) (by omega),List.take_append_getElem hi]
   rw[decide_eq_true hg,cond_t]
   exact ih
 have:=hh 0 KK (Nat.zero_le _) (KK_gt (by omega))
 rw[List.take_zero]at this
 exact this
def UZ (xs:List Z6):Z6:=xs.getD (IntKind.i64.wrap ((xs.length:Int)-(1:Int))).toNat YZ
noncomputable def QA (xs:List Z6):Z7:=bif Ui xs then YV (Zf (UZ xs)) true else YT
theorem wl {n:Nat}(h:1≤n∧n≤12):IntKind.i64.wrap ((n:Int)-(1:Int))=(n:Int)-1:=wd (by omega)
theorem Z1R (xs:List Z6)(hx:W9 xs≤1050000):Zg (Zf (UZ xs))≤1050000:=Z3Q xs _ _ hx
theorem Z4V (xs:List Z6)(hx:W9 xs≤1050000):WH xs=some (QA xs):=by
 unfold WH QA
 refine Zh (Z4L xs hx) ?_
 cases hc:Ui xs with
 |false=>rfl
 |true=>
  have hl:=Z3I xs hc
  exact cF rfl (cT (decide_eq_true (by rw[wl hl];omega)) (cT (decide_eq_true (by rw[wl hl];omega)) (Zh (QQ _ (Z1R xs hx)) rfl)))
theorem Z0e (xs:List Z6)(hx:W9 xs≤1050000):Yu xs=some xs:=
 Z1x xs YZ X5 (by unfold W9 Xb at hx;omega) (fun i h=>Z1K _ (Z0u h hx)) (fun n ys a=>Yu.l6 xs n a ys) (fun n ys a=>Yu.u6 xs n a ys)
noncomputable def Z08 (xs:List Z6)(s:Z6)(v:Bool):List Z6×Int:=bif v then(xs,2)else bif Uy (Zf (UZ xs)) s !=(1:Int)then(xs,Uy (Zf (UZ xs)) s)else(xs++[s],1)
noncomputable def ext (xs:List Z6)(s:Z6):List Z6×Int:=Z08 xs s (!Ui xs||decide ((xs.length:Int)≥(12:Int)))
theorem Z1Q (xs:List Z6):X6 (QA xs)=Ui xs∧(Ui xs=true→Zc (QA xs)=Zf (UZ xs)):=QF (Ui xs) (Zf (UZ xs))
theorem Z2B (xs:List Z6)(s:Z6)(hx:W9 xs≤1050000):decide (xs.length+[s].length<68719476736)=true:=by
 refine decide_eq_true ?_
 show xs.length+1<_
 unfold W9 Xb at hx
 omega
theorem Z4E (xs:List Z6)(s:Z6)(hx:W9 xs≤1050000)(hs:Xy s≤1050000)(hc:Ui xs=true)(v:Bool):Yt.l7 xs s (QA xs) v=some (Z08 xs s v):=by
 unfold Z08
 cases v with
 |true=>exact Zh (Z0e xs hx) rfl
 |false=>
  show((Zu (Zc (QA xs)) s).bind _)=_
  rw[(Z1Q xs).2 hc]
  refine Zh (Z23 _ s (Z1R xs hx) hs) ?_
  cases Uy (Zf (UZ xs)) s !=(1:Int)with
  |true=>exact Zh (Z0e xs hx) rfl
  |false=>exact Zh (Z0e xs hx) (Zh (Z1K s hs) (cT (Z2B xs s hx) rfl))
theorem Z4F (xs:List Z6)(s:Z6)(hx:W9 xs≤1050000)(hs:Xy s≤1050000):Yt xs s=some (ext xs s):=by
 unfold ext
 refine Zh (Z4V xs hx) ?_
 rw[(Z1Q xs).1]
 cases hc:Ui xs with
 |false=>exact Zh (Z0e xs hx) rfl
 |true=>exact Z4E xs s hx hs hc _
def hq (s t:Z6):Bool:=Z2W (Zf s) (Zf t)
theorem Z0y :∀a b:List UInt8,Lib.compareBytes a b=bif Op.bytesLess a b then(-1:Int)else bif a==b then 0 else 1
 |[],[]=>rfl
 |[],_::_=>rfl
 |_::_,[]=>rfl
 |a::x,b::y=>by
  have ih:=Z0y x y
  unfold Lib.compareBytes Op.bytesLess
  by_cases h:a<b
  ·rw[if_pos h,decide_eq_true h,Bool.true_or];rfl
  ·rw[if_neg h,decide_eq_false h,Bool.false_or]
   by_cases g:b<a
   ·rw[if_pos g]
    have ne:(a==b)=false:=by rw[beq_eq_false_iff_ne];rintro rfl;exact h g
    have ne2:(a::x==b::y)=false:=by rw[List.cons_beq_cons,ne,Bool.false_and]
    rw[ne,ne2,Bool.false_and];rfl
   ·have e:a=b:=UInt8.le_antisymm (UInt8.not_lt.1 g) (UInt8.not_lt.1 h)
    subst e
    rw[if_neg g,ih,beq_self_eq_true,Bool.true_and,List.cons_beq_cons,beq_self_eq_true,Bool.true_and]
theorem Z1s :∀a b:List UInt8,Lib.compareBytes b a= -Lib.compareBytes a b
 |[],[]=>rfl
 |[],_::_=>rfl
 |_::_,[]=>rfl
 |a::x,b::y=>by
  have ih:=Z1s x y
  unfold Lib.compareBytes
  by_cases h:a<b
  ·have g:¬b<a:=fun g=>UInt8.lt_irrefl _ (UInt8.lt_trans h g)
   rw[if_pos h,if_neg g,if_pos h];rfl
  ·by_cases g:b<a
   ·rw[if_pos g,if_neg h,if_pos g]
   ·rw[if_neg h,if_neg g,if_neg g,if_neg h,ih]
theorem Z2N (a b:List UInt8):Lib.compareBytes a b= -1∨Lib.compareBytes a b=0∨Lib.compareBytes a b=1:=by
 rw[Z0y]
 cases Op.bytesLess a b<;>cases a==b<;>simp
def Wj (a b:ByteArray):Int:=Lib.compareBytes a.data.toList b.data.toList
theorem Z2K (a b:ByteArray):Wj b a= -Wj a b:=Z1s _ _
theorem Z2M (a b:ByteArray):Wj a b= -1∨Wj a b=0∨Wj a b=1:=Z2N _ _
theorem Z2L (a b:ByteArray):decide (Wj b a≤0)=(Wj a b != -1):=by
 rw[Z2K a b]
 rcases Z2M a b with h|h|h<;>rw[h]<;>rfl
def UG (p:Nat→Bool)(n:Nat):Bool:=decide (∀i,i<n→p i=true)
theorem QH (p:Nat→Bool)(n:Nat):UG p n=true↔∀i,i<n→p i=true:=by unfold UG;exact decide_eq_true_iff
theorem QG {len:Nat}(hl:len≤1152921504606846976)(p:Nat→Bool)(z:Bool)(l:Nat→Int→Option Bool)(u0:∀n,l (n+1) (len:Int)=some z)(u:∀n i,i<len→l (n+1) (i:Int)=bif p i then l n ((i+1:Nat):Int)else some false):l KK (0:Int)=some (UG p len&&z):=by
 have hh:∀i n,i≤len→len-i<n→l n (i:Int)=some (decide (∀j,j<len→i≤j→p j=true)&&z):=by
  refine idx_ind ?_ ?_
  ·intro n
   have e:decide (∀j,j<len→len≤j→p j=true)=true:=decide_eq_true (fun j h1 h2=>absurd h1 (by omega))
   rw[u0,e,Bool.true_and]
  ·intro i n hi ih
   rw[u n i hi,ih]
   cases hp:p i with
   |false=>
    have e:decide (∀j,j<len→i≤j→p j=true)=false:=decide_eq_false (fun h=>by have:=h i hi (Nat.le_refl _);rw[hp]at this;cases this)
    rw[cond_f,e,Bool.false_and]
   |true=>
    rw[cond_t]
    have e:decide (∀j,j<len→i≤j→p j=true)=decide (∀j,j<len→i+1≤j→p j=true):=by
     refine decide_eq_decide.2 ⟨fun h j h1 h2=>h j h1 (by omega),fun h j h1 h2=> ?_⟩
     by_cases e:j=i
     ·subst e;exact hp
     ·exact h j h1 (by omega)
    rw[e]
 have:=hh 0 KK (Nat.zero_le _) (KK_gt (by omega))
 have e:decide (∀j,j<len→0≤j→p j=true)=UG p len:=decide_eq_decide.2 ⟨fun h j h1=>h j h1 (Nat.zero_le _),fun h j h1 _=>h j h1⟩
 rw[e]at this
 exact this
def Qe (c:Int):Bool:=(!(decide (c<97)||decide (c>122)))||(!(decide (c<48)||decide (c>57)))
def XA (s:ByteArray)(i:Nat):Int:=V.bt s (i:Int)
theorem Z4O (s:ByteArray)(hs:s.size≤1050000):ZA.l7 s=some (UG (fun i=>Qe (XA s i)|| !(XA s i !=(45:Int))) s.size&&true):=by
 refine QG (by omega) _ _ (ZA.l8 s) (fun n=> ?_) (fun n i hi=> ?_)
 ·rw[ZA.u8]
  simp only[ZA.g8,lt_f (Nat.le_refl _),cond_f]
 ·rw[ZA.u8]
  simp only[ZA.g8,lt_t hi,ge_t,cond_t,w64_succ (i:=i) (by omega)]
  rw[show V.bt s (i:Int)=XA s i from rfl]
  generalize XA s i=c
  unfold Qe
  cases decide (c<97)<;>cases decide (c>122)<;>cases decide (c<48)<;>cases decide (c>57)<;>cases(c !=(45:Int))<;>rfl
theorem Z3k (s:ByteArray)(hs:s.size≤1050000):Y5.l4 s KK (s.size:Int) (0:Int)=some (UG (fun i=>Qe (XA s i)||((XA s i==(45:Int))&&(decide ((i:Int)>0)&&decide ((i:Int)<IntKind.i64.wrap ((s.size:Int)-(1:Int)))))) s.size&&(decide ((1:Int)≤(s.size:Int))&&decide ((s.size:Int)≤8))):=by
 refine QG (by omega) _ _ (fun n v=>Y5.l4 s n (s.size:Int) v) (fun n=> ?_) (fun n i hi=> ?_)
 ·rw[Y5.u4]
  simp only[Y5.g4,lt_f (Nat.le_refl _),cond_f]
  exact Zh (UB _ _ _) rfl
 ·rw[Y5.u4]
  simp only[Y5.g4,lt_t hi,ge_t,cond_t,w64_succ (i:=i) (by omega)]
  rw[show V.bt s (i:Int)=XA s i from rfl]
  generalize XA s i=c
  unfold Qe
  rw[show decide (c≥97)= !decide (c<97) by by_cases h:c<97<;>simp[h]<;>omega,show decide (c≤122)= !decide (c>122) by by_cases h:c>122<;>simp[h]<;>omega,show decide (c≥48)= !decide (c<48) by by_cases h:c<48<;>simp[h]<;>omega,show decide (c≤57)= !decide (c>57) by by_cases h:c>57<;>simp[h]<;>omega]
  generalize decide ((i:Int)<IntKind.i64.wrap ((s.size:Int)-(1:Int)))=g
  cases decide (c<97)<;>cases decide (c>122)<;>cases decide (c<48)<;>cases decide (c>57)<;>cases(c==(45:Int))<;>cases decide ((i:Int)>0)<;>cases g<;>rfl
def Wf (s:ByteArray):Bool:=(decide (1≤s.size)&&decide (s.size≤8))&&(UG (fun i=>Qe (XA s i)||((XA s i==(45:Int))&&(decide (0<i)&&decide (i+1<s.size)))) s.size)
theorem Z1C (s:ByteArray)(hs:s.size≤1050000):Y5 s=some (Wf s):=by
 refine(Z3k s hs).trans (congrArg some (QJ ?_))
 unfold Wf
 simp only[Bool.and_eq_true,decide_eq_true_eq,QH,Bool.or_eq_true]
 constructor
 ·intro h
  have hw:IntKind.i64.wrap ((s.size:Int)-(1:Int))=(s.size:Int)-1:=wd (by omega)
  refine⟨by omega,fun i hi=>(h.1 i hi).imp_right fun g=>⟨g.1,by omega,?_⟩⟩
  have:=g.2.2;rw[hw]at this;omega
 ·intro h
  have hw:IntKind.i64.wrap ((s.size:Int)-(1:Int))=(s.size:Int)-1:=wd (by omega)
  refine⟨fun i hi=>(h.2 i hi).imp_right fun g=>⟨g.1,by omega,?_⟩,by omega⟩
  rw[hw];omega
theorem Z1S :Qe 45=false:=by decide
theorem Z21 (s:ByteArray)(hs:s.size≤1050000):ZA s=some (Wf s):=by
 unfold ZA
 rw[Z4O s hs]
 refine Zh (UI _ _ _) ?_
 by_cases hl:1≤s.size∧s.size≤8
 ·have hw:IntKind.i64.wrap ((s.size:Int)-(1:Int))=((s.size-1:Nat):Int):=by rw[wd (by omega)];omega
  refine cF (by rw[decide_eq_true (by omega),decide_eq_true (by omega)];rfl) (cT rfl (cT (decide_eq_true (by omega)) ?_))
  rw[hw]
  rw[show V.bt s (0:Int)=XA s 0 from rfl,show V.bt s ((s.size-1:Nat):Int)=XA s (s.size-1)from rfl]
  have key:(bif XA s 0==(45:Int)then false else bif XA s (s.size-1)==(45:Int)then false else(UG (fun i=>Qe (XA s i)|| !(XA s i !=(45:Int))) s.size&&true))=Wf s:=by
   unfold Wf
   rw[decide_eq_true hl.1,decide_eq_true hl.2,Bool.and_self,Bool.true_and,Bool.and_true]
   refine QJ ?_
   rw[QH]
   constructor
   ·intro h i hi
    cases h0:(XA s 0==(45:Int))with
    |true=>rw[h0]at h;cases h
    |false=>
     rw[h0,cond_f]at h
     cases h1:(XA s (s.size-1)==(45:Int))with
     |true=>rw[h1]at h;cases h
     |false=>
      rw[h1,cond_f,QH]at h
      have:=h i hi
      simp only[Bool.or_eq_true,Bool.and_eq_true,decide_eq_true_eq,Bool.not_eq_true',bne_eq_false_iff_eq]at this⊢
      refine this.imp_right fun g=>⟨by rw[g];rfl,?_,?_⟩
      ·refine Nat.pos_of_ne_zero fun e=> ?_
       subst e
       rw[g]at h0;cases h0
      ·refine Nat.lt_of_not_le fun e=> ?_
       have e2:i=s.size-1:=by omega
       subst e2
       rw[g]at h1;cases h1
   ·intro h
    have h0:(XA s 0==(45:Int))=false:=by
     cases hc:(XA s 0==(45:Int))with
     |false=>rfl
     |true=>
      have e:XA s 0=45:=eq_of_beq hc
      have:=h 0 (by omega)
      rw[e,Z1S]at this
      simp at this
    have h1:(XA s (s.size-1)==(45:Int))=false:=by
     cases hc:(XA s (s.size-1)==(45:Int))with
     |false=>rfl
     |true=>
      have e:XA s (s.size-1)=45:=eq_of_beq hc
      have:=h (s.size-1) (by omega)
      rw[e,Z1S]at this
      simp only[Bool.false_or,Bool.and_eq_true,decide_eq_true_eq]at this
      omega
    rw[h0,h1,cond_f,cond_f,QH]
    intro i hi
    have:=h i hi
    simp only[Bool.or_eq_true,Bool.and_eq_true]at this
    rw[Bool.or_eq_true]
    refine this.imp_right fun g=> ?_
    have e:XA s i=45:=eq_of_beq g.1
    rw[e];rfl
  rw[←key]
  cases(XA s 0==(45:Int))with
  |true=>rfl
  |false=>
   refine cF rfl (cT ge_t (cT (lt_t (by omega)) ?_))
   cases(XA s (s.size-1)==(45:Int))<;>rfl
 ·have e:Wf s=false:=by
   unfold Wf
   have:(decide (1≤s.size)&&decide (s.size≤8))=false:=by
    rw[←Bool.decide_and]
    exact decide_eq_false hl
   rw[this,Bool.false_and]
  rw[e]
  refine cT ?_ rfl
  by_cases h1:1≤s.size
  ·rw[decide_eq_true (show(1:Int)≤(s.size:Int) by omega),decide_eq_false (show¬(s.size:Int)≤8 by omega)];rfl
  ·rw[decide_eq_false (show¬(1:Int)≤(s.size:Int) by omega)];rfl
theorem Z0B (e:Z4){n:Nat}(hx:YN e≤n):e.1.size≤n:=by
 unfold YN XF at hx;omega
theorem Z0C (e:Z4){n:Nat}(hx:YN e≤n):Xv e.2.2.2≤n:=by
 unfold YN at hx;omega
theorem Z1g {xs:List ByteArray}{i:Nat}(h:i<xs.length){n:Nat}(hx:Xv xs≤n):xs[i].size≤n:=by
 have:=Z1f XF h
 unfold Xv Xb at hx
 unfold XF at this hx
 omega
theorem Z2x {α:Type}(xs:List α)(p:α→Bool):(!(xs.any fun x=> !p x))=xs.all p:=by
 induction xs with
 |nil=>rfl
 |cons x t ih=>rw[List.any_cons,List.all_cons,Bool.not_or,ih,Bool.not_not]
def QN (p:List ByteArray):Bool:=(decide ((1:Int)≤(p.length:Int))&&decide ((p.length:Int)≤4))&&p.all Wf
theorem Z2w {α:Type}(xs:List α)(p:α→Bool)(q:Nat→Bool)(h:∀i (hi:i<xs.length),q i=p xs[i]):UG q xs.length=xs.all p:=by
 refine QJ ?_
 rw[QH,List.all_eq_true]
 constructor
 ·intro g x hx
  obtain⟨i,hi,rfl⟩:=List.getElem_of_mem hx
  rw[←h i hi]
  exact g i hi
 ·intro g i hi
  rw[h i hi]
  exact g _ (List.getElem_mem _)
theorem Z4P (p:List ByteArray)(hp:Xv p≤1050000):Yn p=some (QN p):=by
 have hl:p.length≤1050000:=by unfold Xv Xb at hp;omega
 refine(QG (len:=p.length) (by omega) (fun i=>Wf (p.getD i (⟨#[]⟩:ByteArray))) (decide ((1:Int)≤(p.length:Int))&&decide ((p.length:Int)≤4)) (Yn.l4 p) (fun n=> ?_) (fun n i hi=> ?_)).trans ?_
 ·rw[Yn.u4]
  simp only[Yn.g4,lt_f (Nat.le_refl _),cond_f]
  exact Zh (UI _ _ _) rfl
 ·rw[Yn.u4]
  simp only[Yn.g4,lt_t hi,ge_t,cond_t,w64_succ (i:=i) (by omega),Int.toNat_natCast,at_n hi]
  rw[Z21 _ (Z1g hi hp),bind_s]
  cases Wf p[i]<;>rfl
 ·unfold QN
  rw[Z2w p Wf _ (fun i hi=>by rw[at_n hi]),Bool.and_comm]
theorem Z2z (p:List ByteArray)(hp:Xv p≤1050000):Wz p ((),())=some (p.any fun s=> !Wf s):=by
 unfold Wz
 refine Z2O p _ ?_
 exact Z3H p (⟨#[]⟩:ByteArray) (fun s=>WU s) (fun s=> !Wf s) (by unfold Xv Xb at hp;omega) (fun i h=>Zh (Z1C _ (Z1g h hp)) rfl) (YJ.l4 p) (fun n L a=>YJ.u4 p n L a)
theorem Z3l (p:List ByteArray)(hp:Xv p≤1050000):Wn p=some (QN p):=by
 unfold Wn QN
 refine Zh (UB _ _ _) ?_
 cases(decide ((1:Int)≤(p.length:Int))&&decide ((p.length:Int)≤4))with
 |false=>rfl
 |true=>exact cT rfl (Zh (Z2z p hp) (by rw[Z2x,Bool.true_and]))
def WX (a b c:Int):Bool:=decide (b≤a)&&decide (a≤c)
def Q8 (e:Z4):Bool:=Wf e.1&&(bif e.2.1==(1:Int)then WX e.2.2.1 0 999999&&((e.2.2.2.length:Int)==(0:Int))else bif e.2.1==(2:Int)then WX e.2.2.1 0 2147483646&&((e.2.2.2.length:Int)==(0:Int))else bif e.2.1==(3:Int)then WX e.2.2.1 0 2147483646&&QN e.2.2.2 else false)
theorem Z4M (e:Z4)(hx:YN e≤1050000):WE e=some (Q8 e):=by
 have h1:=Z21 e.1 (Z0B e hx)
 have h2:=Z4P e.2.2.2 (Z0C e hx)
 unfold WE Q8
 cases e.2.1==(1:Int)with
 |true=>
  refine cT rfl (Zh h1 ?_)
  cases Wf e.1 with
  |false=>rfl
  |true=>
   refine cT rfl (Zh (UI _ _ _) ?_)
   show _=some (true&&(WX e.2.2.1 0 999999&&_))
   unfold WX
   cases(decide (0≤e.2.2.1)&&decide (e.2.2.1≤999999))<;>rfl
 |false=>
  refine cF rfl ?_
  cases e.2.1==(2:Int)with
  |true=>
   refine cT rfl (Zh h1 ?_)
   cases Wf e.1 with
   |false=>rfl
   |true=>
    refine cT rfl (Zh (UI _ _ _) ?_)
    show _=some (true&&(WX e.2.2.1 0 2147483646&&_))
    unfold WX
    cases(decide (0≤e.2.2.1)&&decide (e.2.2.1≤2147483646))<;>rfl
  |false=>
   refine cF rfl ?_
   cases e.2.1==(3:Int)with
   |true=>
    refine cT rfl (Zh h1 ?_)
    cases Wf e.1 with
    |false=>rfl
    |true=>
     refine cT rfl (Zh (UI _ _ _) ?_)
     show _=some (true&&(WX e.2.2.1 0 2147483646&&_))
     unfold WX
     cases(decide (0≤e.2.2.1)&&decide (e.2.2.1≤2147483646))with
     |false=>rfl
     |true=>exact cT rfl (Zh h2 (by rw[Bool.true_and,Bool.true_and]))
   |false=>exact cF rfl (by rw[cond_f,cond_f,cond_f,Bool.and_false])
theorem Z1F (a:Int):XK a=some (WX a 0 2147483646):=Zh (UB _ _ _) rfl
theorem Z3j (e:Z4)(hx:YN e≤1050000):Wm e=some (Q8 e):=by
 have h1:=Z1C e.1 (Z0B e hx)
 have h2:=Z3l e.2.2.2 (Z0C e hx)
 unfold Wm Q8
 refine Zh h1 ?_
 cases Wf e.1 with
 |false=>rfl
 |true=>
  refine cF rfl ?_
  rw[Bool.true_and]
  cases e.2.1==(1:Int)with
  |true=>
   refine cT rfl (Zh (UB _ _ _) ?_)
   show _=some (WX e.2.2.1 0 999999&&_)
   unfold WX
   cases(decide (0≤e.2.2.1)&&decide (e.2.2.1≤999999))<;>rfl
  |false=>
   refine cF rfl ?_
   cases e.2.1==(2:Int)with
   |true=>
    refine cT rfl (Zh (Z1F _) ?_)
    show _=some (WX e.2.2.1 0 2147483646&&_)
    cases WX e.2.2.1 0 2147483646<;>rfl
   |false=>
    refine cF rfl ?_
    cases e.2.1==(3:Int)with
    |true=>
     refine cT rfl (Zh (Z1F _) ?_)
     show _=some (WX e.2.2.1 0 2147483646&&_)
     cases WX e.2.2.1 0 2147483646 with
     |false=>rfl
     |true=>exact cT rfl (Zh h2 (by rw[Bool.true_and]))
    |false=>rfl
theorem Z20 (a b:ByteArray):W0 a b=some (Wj a b):=by
 unfold W0 Wj
 rw[Z0y,ByteArray.toList_eq,ByteArray.toList_eq]
 cases Op.bytesLess a.data.toList b.data.toList with
 |true=>rfl
 |false=>cases a.data.toList==b.data.toList<;>rfl
theorem Z3d (a b:ByteArray):WS a b=some (Wj a b):=rfl
def Ut (xs:List Z4):Bool:=UG (fun i=>Q8 (xs.getD i XI)&&(decide (i=0)||Wj (xs.getD (i-1) XI).1 (xs.getD i XI).1== -1)) xs.length&&decide ((xs.length:Int)≤(12:Int))
theorem Z0p (xs:List Z4)(hx:ZI xs≤1050000):ZY xs=some (Ut xs):=by
 have hl:xs.length≤1050000:=by unfold ZI Xb at hx;omega
 refine QG (len:=xs.length) (by omega) _ _ (ZY.l4 xs) (fun n=> ?_) (fun n i hi=> ?_)
 ·rw[ZY.u4]
  simp only[ZY.g4,lt_f (Nat.le_refl _),cond_f]
 ·rw[ZY.u4]
  simp only[ZY.g4,lt_t hi,ge_t,cond_t,w64_succ (i:=i) (by omega),Int.toNat_natCast,at_n hi]
  rw[Z4M _ (QL hi hx),bind_s]
  cases Q8 xs[i]with
  |false=>rfl
  |true=>
   by_cases h0:i=0
   ·subst h0;rfl
   ·have ew:IntKind.i64.wrap ((i:Int)-1)=((i-1:Nat):Int):=by rw[w64 (by omega) (by omega)];omega
    rw[decide_eq_true (show(i:Int)>0 by omega),decide_eq_false h0,ew]
    refine cF rfl (cT rfl (cT ge_t (cT (lt_t (by omega)) (Zh (Z20 _ _) ?_))))
    rw[Int.toNat_natCast,Bool.true_and,Bool.false_or]
    show _=bif(Wj (xs.getD (i-1) XI).1 xs[i].1== -1)then _ else _
    show(bif !(Wj (xs.getD (i-1) XI).1 xs[i].1== -1)then _ else _)=_
    cases(Wj (xs.getD (i-1) XI).1 xs[i].1== -1)<;>rfl
theorem Z38 (xs:List Z4)(hx:ZI xs≤1050000):Yi xs=some (Ut xs):=by
 have hl:xs.length≤1050000:=by unfold ZI Xb at hx;omega
 refine QG (len:=xs.length) (by omega) _ _ (fun n v=>Yi.l4 xs n (xs.length:Int) v) (fun n=> ?_) (fun n i hi=> ?_)
 ·rw[Yi.u4]
  simp only[Yi.g4,lt_f (Nat.le_refl _),cond_f]
 ·rw[Yi.u4]
  simp only[Yi.g4,lt_t hi,ge_t,cond_t,w64_succ (i:=i) (by omega),Int.toNat_natCast,at_n hi]
  rw[Z3j _ (QL hi hx),bind_s]
  cases Q8 xs[i]with
  |false=>rfl
  |true=>
   by_cases h0:i=0
   ·subst h0;rfl
   ·have ew:IntKind.i64.wrap ((i:Int)-1)=((i-1:Nat):Int):=by rw[w64 (by omega) (by omega)];omega
    rw[decide_eq_true (show(i:Int)>0 by omega),decide_eq_false h0,ew]
    refine cF rfl (cT rfl (cT ge_t (cT (lt_t (by omega)) (Zh (Z3d _ _) ?_))))
    rw[Int.toNat_natCast,Bool.true_and,Bool.false_or,Z2L (xs.getD (i-1) XI).1 xs[i].1]
    show(bif !(Wj (xs.getD (i-1) XI).1 xs[i].1== -1)then _ else _)=bif(Wj (xs.getD (i-1) XI).1 xs[i].1== -1)then _ else _
    cases(Wj (xs.getD (i-1) XI).1 xs[i].1== -1)<;>rfl
theorem Z0l {α β:Type}(xs:List α)(d:α)(f:α→Option β)(g:α→β)(pre:List β)(hl:xs.length≤1050000)(hp:pre.length≤1050000)(hf:∀i (h:i<xs.length),f xs[i]=some (g xs[i]))(l:Nat→List β→Int→Option (List β))(u:∀n ys a,l (n+1) ys a=(bif decide (a<(xs.length:Int))then bif decide (0≤a)then bif decide (a<(xs.length:Int))then(f (xs.getD a.toNat d)).bind fun y1=>bif decide (ys.length+[y1].length<68719476736)then l n (ys++[y1]) (IntKind.i64.wrap (a+(1:Int)))else none else none else none else some ys)):l KK pre (0:Int)=some (pre++xs.map g):=by
 have hh:∀i n,i≤xs.length→xs.length-i<n→l n (pre++(xs.take i).map g) (i:Int)=some (pre++xs.map g):=by
  refine idx_ind ?_ ?_
  ·intro n
   rw[u]
   simp only[lt_f (Nat.le_refl _),cond_f,List.take_length]
  ·intro i n hi ih
   rw[u]
   have hg:(pre++(xs.take i).map g).length+[g xs[i]].length<68719476736:=by rw[List.length_append,List.length_map,List.length_take];show _+1<_;omega
   simp only[lt_t hi,ge_t,cond_t,Int.toNat_natCast,at_n hi,hf i hi,bind_s,w64_succ (i:=i) (by omega)]
   rw[decide_eq_true hg,cond_t]
   have e:pre++(xs.take i).map g++[g xs[i]]=pre++(xs.take (i+1)).map g:=by
    rw[List.append_assoc,←List.take_append_getElem hi,List.map_append];rfl
   rw[e]
   exact ih
 have:=hh 0 KK (Nat.zero_le _) (KK_gt (by omega))
 rw[List.take_zero,List.map_nil,List.append_nil]at this
 exact this
theorem Z2E {α β:Type}(xs:List α)(d:α)(f:α→Option (List β))(g:α→List β)(pre:List β)(B:Nat)(hB:pre.length+(xs.flatMap g).length≤B)(hB2:B≤1073741824)(hl:xs.length≤1050000)(hf:∀i (h:i<xs.length),f xs[i]=some (g xs[i]))(l:Nat→List β→Int→Option (List β))(u:∀n ys a,l (n+1) ys a=(bif decide (a<(xs.length:Int))then bif decide (0≤a)then bif decide (a<(xs.length:Int))then(f (xs.getD a.toNat d)).bind fun y1=>bif decide (ys.length+y1.length<68719476736)then l n (ys++y1) (IntKind.i64.wrap (a+(1:Int)))else none else none else none else some ys)):l KK pre (0:Int)=some (pre++xs.flatMap g):=by
 have hh:∀i n,i≤xs.length→xs.length-i<n→l n (pre++(xs.take i).flatMap g) (i:Int)=some (pre++xs.flatMap g):=by
  refine idx_ind ?_ ?_
  ·intro n
   rw[u]
   simp only[lt_f (Nat.le_refl _),cond_f,List.take_length]
  ·intro i n hi ih
   rw[u]
   have e:pre++(xs.take i).flatMap g++g xs[i]=pre++(xs.take (i+1)).flatMap g:=by
    rw[List.append_assoc,←List.take_append_getElem hi,List.flatMap_append,List.flatMap_singleton]
   have hle:(pre++(xs.take (i+1)).flatMap g).length≤B:=by
    have:(xs.flatMap g).length=((xs.take (i+1)).flatMap g).length+((xs.drop (i+1)).flatMap g).length:=by
     rw[←List.length_append,←List.flatMap_append,List.take_append_drop]
    rw[List.length_append];omega
   have hg:(pre++(xs.take i).flatMap g).length+(g xs[i]).length<68719476736:=by
    rw[←List.length_append,e];omega
   simp only[lt_t hi,ge_t,cond_t,Int.toNat_natCast,at_n hi,hf i hi,bind_s,w64_succ (i:=i) (by omega)]
   rw[decide_eq_true hg,cond_t,e]
   exact ih
 have:=hh 0 KK (Nat.zero_le _) (KK_gt (by omega))
 rw[List.take_zero,List.flatMap_nil,List.append_nil]at this
 exact this
theorem Z0x (s:ByteArray):(V.bytesOf s).length=s.size:=by
 unfold V.bytesOf
 rw[List.length_map,Array.length_toList];rfl
noncomputable def QK (xs:List Int):List Int:=(xs.length:Int)::xs.map IntKind.i64.wrap
theorem Z2D (xs:List Int):(QK xs).length=xs.length+1:=by unfold QK;rw[List.length_cons,List.length_map]
theorem Z4w (xs:List Int)(hx:xs.length≤1050000):YF xs=some (QK xs):=
 Z0l xs 0 (fun a=>some (IntKind.i64.wrap a)) IntKind.i64.wrap [(xs.length:Int)] hx (by simp) (fun i h=>rfl) (fun n ys a=>YF.l6 xs n a ys) (fun n ys a=>YF.u6 xs n a ys)
theorem Z39 (xs:List Int)(hx:xs.length≤1050000):YB xs=some (QK xs):=
 Z0l xs 0 (fun a=>some (IntKind.i64.wrap a)) IntKind.i64.wrap [(xs.length:Int)] hx (by simp) (fun i h=>rfl) (fun n ys a=>YB.l6 xs n (xs.length:Int) a ys) (fun n ys a=>YB.u6 xs n (xs.length:Int) a ys)
theorem Z2e {s:ByteArray}(hs:s.size≤1050000):V.smallS s=true:=by
 rw[V.smallS_eq]
 exact decide_eq_true (by show(s.size:Int)<68719476736;omega)
noncomputable def UR (s:ByteArray):List Int:=QK (V.bytesOf s)
theorem Z0k (s:ByteArray):(UR s).length=s.size+1:=by unfold UR;rw[Z2D,Z0x]
theorem Z4Y (s:ByteArray)(hs:s.size≤1050000):Wa s=some (UR s):=by
 unfold Wa
 exact cT (Z2e hs) (Zh (Z4w _ (by rw[Z0x];exact hs)) rfl)
theorem Z3t (s:ByteArray)(hs:s.size≤1050000):W7 s=some (UR s):=by
 unfold W7
 exact cT (Z2e hs) (Zh (Z39 _ (by rw[Z0x];exact hs)) rfl)
noncomputable def UX (e:Z4):List Int:=(UR e.1++[e.2.1,e.2.2.1,(e.2.2.2.length:Int)])++e.2.2.2.flatMap UR
theorem Z1z (p:List ByteArray):(p.flatMap UR).length=Xv p:=by
 unfold Xv Xb
 induction p with
 |nil=>rfl
 |cons x t ih=>
  rw[List.flatMap_cons,List.length_append,ih,Z0k,List.length_cons,List.map_cons,List.sum_cons]
  unfold XF
  omega
theorem Z1y (e:Z4):(UX e).length=YN e+4:=by
 unfold UX YN XF
 rw[List.length_append,List.length_append,Z0k,Z1z]
 show e.1.size+1+3+_=_
 omega
theorem eL (e:Z4)(hx:YN e≤1050000)(f:ByteArray→Option (List Int))(hf:∀s,s.size≤1050000→f s=some (UR s))(l:Nat→List Int→Int→Option (List Int))(u:∀n ys a,l (n+1) ys a=(bif decide (a<(e.2.2.2.length:Int))then bif decide (0≤a)then bif decide (a<(e.2.2.2.length:Int))then(f (e.2.2.2.getD a.toNat (⟨#[]⟩:ByteArray))).bind fun y1=>bif decide (ys.length+y1.length<68719476736)then l n (ys++y1) (IntKind.i64.wrap (a+(1:Int)))else none else none else none else some ys)):((f e.1).bind fun y1=>bif decide (y1.length+[e.2.1,e.2.2.1,(e.2.2.2.length:Int)].length<68719476736)then l KK (y1++[e.2.1,e.2.2.1,(e.2.2.2.length:Int)]) (0:Int)else none)=some (UX e):=by
 have h1:=Z0B e hx
 have h2:=Z0C e hx
 refine Zh (hf _ h1) (cT (decide_eq_true (by rw[Z0k];show _+3<_;omega)) ?_)
 exact Z2E e.2.2.2 (⟨#[]⟩:ByteArray) f UR _ 2200000 (by rw[List.length_append,Z0k,Z1z];show _+3+_≤_;omega) (by omega) (by unfold Xv Xb at h2;omega) (fun i h=>hf _ (Z1g h h2)) l u
theorem Z4D (e:Z4)(hx:YN e≤1050000):YG e=some (UX e):=
 eL e hx Wa Z4Y (fun n ys a=>YG.l6 e n a ys) (fun n ys a=>YG.u6 e n a ys)
theorem Z3g (e:Z4)(hx:YN e≤1050000):YC e=some (UX e):=
 eL e hx W7 Z3t (fun n ys a=>YC.l6 e n (e.2.2.2.length:Int) a ys) (fun n ys a=>YC.u6 e n (e.2.2.2.length:Int) a ys)
def hs (xs:List Int):Int:=xs.foldl UY 11
noncomputable def QT (e:Z4):Int:=hs (227::UX e)
theorem Z4W (e:Z4)(hx:YN e≤1050000):Wh e=some (QT e):=by
 unfold Wh
 have hl:=Z1y e
 exact Zh (Z4D e hx) (cT (decide_eq_true (by show 1+_<_;omega)) (Zh (Qi _ (show([(227:Int)]++UX e).length≤_ by rw[List.length_append];show 1+_≤_;omega)) rfl))
theorem Z3r (e:Z4)(hx:YN e≤1050000):Wd e=some (QT e):=by
 unfold Wd
 have hl:=Z1y e
 exact Zh (Z3g e hx) (cT (decide_eq_true (by show 1+_<_;omega)) (Zh (Z0c _ (show([(227:Int)]++UX e).length≤_ by rw[List.length_append];show 1+_≤_;omega)) rfl))
noncomputable def leaves (xs:List Z4):List Int:=xs.map QT
theorem Z1T (xs:List Z4):(leaves xs).length=xs.length:=List.length_map ..
theorem Z4X (xs:List Z4)(hx:ZI xs≤1050000):YH xs=some (leaves xs):=
 Z0l xs XI Wh QT [] (by unfold ZI Xb at hx;omega) (by simp) (fun i h=>Z4W _ (QL h hx)) (fun n ys a=>YH.l6 xs n a ys) (fun n ys a=>YH.u6 xs n a ys)
theorem Z3s (xs:List Z4)(hx:ZI xs≤1050000):YD xs=some (leaves xs):=
 Z0l xs XI Wd QT [] (by unfold ZI Xb at hx;omega) (by simp) (fun i h=>Z3r _ (QL h hx)) (fun n ys a=>YD.l6 xs n (xs.length:Int) a ys) (fun n ys a=>YD.u6 xs n (xs.length:Int) a ys)
def QW (a b:Int):Int:=hs [229,a,b]
theorem Z52 (a b:Int):WJ a b=some (QW a b):=Zh (Qi _ (by show 3≤_;omega)) rfl
theorem Z0M (xs:List Int)(hx:xs.length≤1050000):XR xs=some (hs xs):=Zh (Z0c _ (by omega)) rfl
theorem Z3x (a b:Int):Ws a b=some (QW a b):=Zh (Z0M _ (by show 3≤_;omega)) rfl
def up :List Int→List Int
 |a::b::t=>QW a b::up t
 |[a]=>[a]
 |[]=>[]
theorem Z2j :∀xs:List Int,(up xs).length=(xs.length+1)/2
 |[]=>by rw[up];rfl
 |[a]=>by simp[up]
 |a::b::t=>by
  show(up t).length+1=(t.length+1+1+1)/2
  rw[Z2j t];omega
theorem upL (f:Int→Int→Option Int)(hf:∀a b,f a b=some (QW a b))(xs:List Int)(hx:xs.length≤1050000)(l:Nat→Int→List Int→Option (List Int))(u:∀n a ys,l (n+1) a ys=(bif decide (a<(xs.length:Int))then bif decide ((IntKind.i64.wrap (a+(1:Int)))<(xs.length:Int))then bif decide (0≤a)then bif decide (a<(xs.length:Int))then bif decide (0≤(IntKind.i64.wrap (a+(1:Int))))then bif decide ((IntKind.i64.wrap (a+(1:Int)))<(xs.length:Int))then(f (xs.getD a.toNat (0:Int)) (xs.getD ((IntKind.i64.wrap (a+(1:Int))).toNat) (0:Int))).bind fun y1=>bif decide (ys.length+[y1].length<68719476736)then l n (IntKind.i64.wrap (a+(2:Int))) (ys++[y1])else none else none else none else none else none else bif decide (0≤a)then bif decide (a<(xs.length:Int))then bif decide (ys.length+[xs.getD a.toNat (0:Int)].length<68719476736)then l n (IntKind.i64.wrap (a+(2:Int))) (ys++[xs.getD a.toNat (0:Int)])else none else none else none else some ys)):l KK (0:Int) []=some (up xs):=by
 have hh:∀(suf:List Int) (i n:Nat) (ys:List Int),suf=xs.drop i→suf.length<n→ys.length≤i→i≤xs.length+1→l n (i:Int) ys=some (ys++up suf):=by
  intro suf
  induction suf using up.induct with
  |case1 a b t ih=>
   intro i n ys hs hn hy hi0
   have hlen:(xs.drop i).length=t.length+2:=by rw[←hs];rfl
   rw[List.length_drop]at hlen
   have hi:i<xs.length:=by omega
   have hi':i+1<xs.length:=by omega
   have e1:=List.drop_eq_getElem_cons hi
   have e2:=List.drop_eq_getElem_cons hi'
   rw[e1,e2]at hs
   injection hs with ha hs
   injection hs with hb ht
   cases n with
   |zero=>simp at hn
   |succ n=>
    have ew:IntKind.i64.wrap ((i:Int)+2)=((i+2:Nat):Int):=by rw[w64 (by omega) (by omega)];omega
    have hg:ys.length+[QW xs[i] xs[i+1]].length<68719476736:=by show _+1<_;omega
    rw[u]
    simp only[w64_succ (i:=i) (by omega),lt_t hi,lt_t hi',ge_t,cond_t,Int.toNat_natCast,at_n hi,at_n hi',hf,bind_s,ew]
    rw[decide_eq_true hg,cond_t]
    rw[ih (i+2) n _ ht (by simp at hn;omega) (by rw[List.length_append];show _+1≤_;omega) (by omega)]
    rw[List.append_assoc,ha,hb];rfl
  |case2 a=>
   intro i n ys hs hn hy hi0
   have hlen:(xs.drop i).length=1:=by rw[←hs];rfl
   rw[List.length_drop]at hlen
   have hi:i<xs.length:=by omega
   have e1:=List.drop_eq_getElem_cons hi
   rw[e1]at hs
   injection hs with ha hs
   match n,hn with
   |n+2,_=>
    have ew:IntKind.i64.wrap ((i:Int)+2)=((i+2:Nat):Int):=by rw[w64 (by omega) (by omega)];omega
    have hg:ys.length+[xs[i]].length<68719476736:=by show _+1<_;omega
    rw[u]
    simp only[w64_succ (i:=i) (by omega),lt_t hi,lt_f (show xs.length≤i+1 by omega),ge_t,cond_t,cond_f,Int.toNat_natCast,at_n hi,ew]
    rw[decide_eq_true hg,cond_t,u]
    simp only[lt_f (show xs.length≤i+2 by omega),cond_f]
    rw[ha];rfl
  |case3=>
   intro i n ys hs hn hy hi0
   have hlen:(xs.drop i).length=0:=by rw[←hs];rfl
   rw[List.length_drop]at hlen
   cases n with
   |zero=>simp at hn
   |succ n=>
    rw[u]
    simp only[lt_f (show xs.length≤i by omega),cond_f]
    rw[up,List.append_nil]
 have:=hh xs 0 KK [] (by rw[List.drop_zero]) (KK_gt (by omega)) (Nat.le_refl _) (Nat.zero_le _)
 exact this
theorem Z5a (xs:List Int)(hx:xs.length≤1050000):Yy xs=some (up xs):=upL WJ Z52 xs hx (Yy.l6 xs) (fun n a ys=>Yy.u6 xs n a ys)
theorem Z3G (xs:List Int)(hx:xs.length≤1050000):Yw xs=some (up xs):=upL Ws Z3x xs hx (Yw.l6 xs) (fun n a ys=>Yw.u6 xs n a ys)
def Z0v :Nat→List Int→Int
 |0,_=>0
 |n+1,xs=>bif decide ((xs.length:Int)>(1:Int))then Z0v n (up xs)else xs.getD 0 0
noncomputable def Z01 (xs:List Int):Int:=bif(xs.length:Int)==(0:Int)then hs [229]else Z0v KK xs
theorem Z2g (f:List Int→Option (List Int))(hf:∀xs:List Int,xs.length≤1050000→f xs=some (up xs))(l:Nat→List Int→Option Int)(u:∀n xs,l (n+1) xs=(bif decide ((xs.length:Int)>(1:Int))then(f xs).bind fun y2=>l n y2 else bif decide (0≤(0:Int))then bif decide ((0:Int)<(xs.length:Int))then some (xs.getD ((0:Int).toNat) (0:Int))else none else none)):∀(n:Nat) (xs:List Int),0<xs.length→xs.length<n→xs.length≤1050000→l n xs=some (Z0v n xs):=by
 intro n
 induction n with
 |zero=>intro xs h0 h1;omega
 |succ n ih=>
  intro xs h0 h1 h2
  rw[u]
  show _=some (bif decide ((xs.length:Int)>(1:Int))then Z0v n (up xs)else xs.getD 0 0)
  by_cases h:1<xs.length
  ·rw[decide_eq_true (show(xs.length:Int)>1 by omega),cond_t,cond_t,hf xs h2,bind_s]
   have:=Z2j xs
   exact ih _ (by omega) (by omega) (by omega)
  ·rw[decide_eq_false (show¬(xs.length:Int)>1 by omega),cond_f,cond_f]
   exact cT rfl (cT (decide_eq_true (by omega)) rfl)
theorem Z59 (xs:List Int)(hx:xs.length≤1050000):Yx xs=some (Z01 xs):=by
 unfold Yx Z01
 cases h:((xs.length:Int)==(0:Int))with
 |true=>exact cT h (Zh (Qi _ (by show 1≤_;omega)) rfl)
 |false=>
  have h0:(xs.length:Int)≠0:=by simpa using h
  exact cF h (Z2g Yy Z5a Yx.l8 (fun n xs=>Yx.u8 n xs) KK xs (by omega) (KK_gt (by omega)) hx)
theorem Z3F (xs:List Int)(hx:xs.length≤1050000):Yv xs=some (Z01 xs):=by
 unfold Yv Z01
 cases h:((xs.length:Int)==(0:Int))with
 |true=>exact cT h (Zh (Z0M _ (by show 1≤_;omega)) rfl)
 |false=>
  have h0:(xs.length:Int)≠0:=by simpa using h
  exact cF h (Z2g Yw Z3G Yv.l6 (fun n xs=>Yv.u6 n xs) KK xs (by omega) (KK_gt (by omega)) hx)
noncomputable def Z16 (n t:Int):Int:=hs [231,n,t]
noncomputable def Z0o (xs:List Z4):Int:=Z16 (xs.length:Int) (Z01 (leaves xs))
theorem Z54 (n t:Int):WZ n t=some (Z16 n t):=Zh (Qi _ (by show 3≤_;omega)) rfl
theorem Z3z (n t:Int):WW n t=some (Z16 n t):=Zh (Z0M _ (by show 3≤_;omega)) rfl
theorem Z1a (xs:List Z4)(hx:ZI xs≤1050000):XN xs=some (Z0o xs):=by
 unfold XN
 have hl:xs.length≤1050000:=by unfold ZI Xb at hx;omega
 exact Zh (Z4X xs hx) (Zh (Z59 _ (by rw[Z1T];exact hl)) (Zh (Z54 _ _) rfl))
theorem Z3A (xs:List Z4)(hx:ZI xs≤1050000):Wt xs=some (Z0o xs):=by
 unfold Wt
 have hl:xs.length≤1050000:=by unfold ZI Xb at hx;omega
 exact Zh (Z3s xs hx) (Zh (Z3F _ (by rw[Z1T];exact hl)) (Zh (Z3z _ _) rfl))
theorem Z4n (x0:Z0)(x1 x2 x3:Int)(k:List Z4)(c:Z0)(v:Bool)(hx:Zg x0≤1050000)(hc:Wk (YS x0 x1 x2 x3) k=some c)(hs:Zg c≤1050000):ZQ.l5 x0 x1 x2 x3 ((),k) v=some (bif v then YT else bif Zn (YS x0 x1 x2 x3)&&Zn c then YV c true else YT):=by
 cases v with
 |true=>rfl
 |false=>
  have hu:Zg (YS x0 x1 x2 x3)≤1050000:=hx
  refine Zh (Uu x0 hx) (Zh (Z02 x2 x3) (Zh (Qw x0 hx) (Zh (Uu (YS x0 x1 x2 x3) hu) (Zh hc (Zh (Wb _ hu) ?_)))))
  cases Zn (YS x0 x1 x2 x3)with
  |false=>rfl
  |true=>
   refine Zh (Wb c hs) ?_
   cases Zn c<;>rfl
theorem Z4j (x0:Z0)(x1 x2 x3:Int)(k:List Z4)(chg:Z0→Z0)(hx:Zg x0≤1050000)(hc:Wk (YS x0 x1 x2 x3) k=some (chg (YS x0 x1 x2 x3)))(hs:Zn x0=true→Zg (chg (YS x0 x1 x2 x3))≤1050000):ZQ x0 x1 x2 x3 ((),k)=some (bif YQ x0 x2 x3&&(Zn (Zt x0 x1 x2 x3)&&Zn (chg (Zt x0 x1 x2 x3)))then YV (chg (Zt x0 x1 x2 x3)) true else YT):=by
 unfold ZQ YQ
 refine Zh (Wb x0 hx) ?_
 cases hb:Zn x0 with
 |false=>rfl
 |true=>
  have sp:=Qy x0 hb
  have h5:=fun v=>Z4n x0 x1 x2 x3 k _ v hx hc (hs hb)
  refine Zh (US _ _ _) ?_
  rw[Bool.true_and]
  cases h3:ZB x3 0 200 with
  |false=>
   rw[Bool.and_false,Bool.false_and]
   exact(h5 true)
  |true=>
   rw[Bool.and_true]
   refine(h5 _).trans ?_
   by_cases hl:x2<Zr x0
   ·rw[decide_eq_true hl,show ZB x2 (Zr x0) 100000=false by unfold ZB;rw[decide_eq_false (by omega),Bool.false_and]];rfl
   ·rw[decide_eq_false hl,cond_f]
    by_cases hu:x2≤100000
    ·rw[show ZB x2 (Zr x0) 100000=true by unfold ZB;rw[decide_eq_true (by omega),decide_eq_true hu,Bool.and_self],QV _ _ _ _ (by unfold ZB;rw[decide_eq_true (by omega),decide_eq_true hu,Bool.and_self]) h3,Bool.true_and]
    ·rw[show ZB x2 (Zr x0) 100000=false by unfold ZB;rw[decide_eq_false hu,Bool.and_false],QU _ _ _ _ (by unfold ZB;rw[decide_eq_false hu,Bool.and_false])];rfl
theorem Z4e (x0:Z0)(x1 x2 x3:Int):Zg (YS x0 x1 x2 x3)=Zg x0:=by unfold YS;rfl
def setC (h:Z0)(n r:Int):Z0:=YR (ZF h) (Zz h) (ZH h) (Zr h) (ZV h) n r (Yq h) (Zp h) (Ze h) (Zx h) (Zk h) (Zj h)
theorem setC_size (h:Z0)(n r:Int):Zg (setC h n r)=Zg h:=rfl
noncomputable def Ul (xs:List Z4)(h:Z0):Z0:=setC h (xs.length:Int) (Z0o xs)
theorem Z27 (x0:Z0)(xs:List Z4)(h:Z0)(hh:Zg h=Zg x0)(hx:Zg x0≤1050000):Zg (Ul xs h)≤1050000:=by
 unfold Ul
 rw[setC_size,hh];exact hx
noncomputable def Ug (x0:Z0)(xs:List Z4)(x2 x3:Int):Z7:=bif Ut xs&&(YQ x0 x2 x3&&(Zn (Zt x0 1 x2 x3)&&Zn (Ul xs (Zt x0 1 x2 x3))))then YV (Ul xs (Zt x0 1 x2 x3)) true else YT
theorem Z4y (x0:Z0)(xs:List Z4)(x2 x3:Int)(hx:Zg x0≤1050000)(he:ZI xs≤1050000):Ys x0 xs x2 x3=some (Ug x0 xs x2 x3):=by
 unfold Ys Ug
 refine Zh (QY x0 1 x2 x3 hx) ?_
 rw[Z0n]
 cases hg:(YQ x0 x2 x3&&Zn (Zt x0 1 x2 x3))with
 |false=>
  have e:(Ut xs&&(YQ x0 x2 x3&&(Zn (Zt x0 1 x2 x3)&&Zn (Ul xs (Zt x0 1 x2 x3)))))=false:=by
   rw[←Bool.and_assoc (YQ x0 x2 x3),hg,Bool.false_and,Bool.and_false]
  rw[e];rfl
 |true=>
  have e:(Ut xs&&(YQ x0 x2 x3&&(Zn (Zt x0 1 x2 x3)&&Zn (Ul xs (Zt x0 1 x2 x3)))))=(Ut xs&&Zn (Ul xs (Zt x0 1 x2 x3))):=by
   rw[←Bool.and_assoc (YQ x0 x2 x3),hg,Bool.true_and]
  rw[e]
  refine cF rfl (Zh (Z0p xs he) ?_)
  cases Ut xs with
  |false=>rfl
  |true=>
   have hs:Zg (Ul xs (Zt x0 1 x2 x3))≤1050000:=Z27 x0 xs _ (Z1V ..) hx
   refine Zh (Z1a xs he) ?_
   rw[Z0m _ _ _ _ hg,Bool.true_and]
   refine Zh (Qd (Ul xs (Zt x0 1 x2 x3)) hs) ?_
   unfold WN;rfl
theorem Z3b (x0:Z0)(xs:List Z4)(x2 x3:Int)(hx:Zg x0≤1050000)(he:ZI xs≤1050000):Xd x0 xs x2 x3=some (Ug x0 xs x2 x3):=by
 unfold Xd Ug
 refine Zh (Z38 xs he) ?_
 cases Ut xs with
 |false=>rfl
 |true=>
  rw[Bool.true_and]
  exact cF rfl (Zh (Z4j x0 1 x2 x3 xs (fun h=>Ul xs h) hx (Zh (Z3A xs he) rfl) (fun hb=>Z27 x0 xs _ (Z4e ..) hx)) rfl)
theorem Z45 (xs:List Z4)(hx:ZI xs≤1050000):YI xs=some xs:=
 Z1x xs XI XP (by unfold ZI Xb at hx;omega) (fun i h=>Z0i _ (QL h hx)) (fun n ys a=>YI.l6 xs n a ys) (fun n ys a=>YI.u6 xs n a ys)
noncomputable def Q6 (k:Z5)(s:Int)(xs:List Z4)(now u:Int):Z0:=YR (Z0w k s) 0 1 now u (xs.length:Int) (Z0o xs) s k Uo 0 Uo false
theorem Z31 (k:Z5)(s:Int)(xs:List Z4)(now u:Int):Zg (Q6 k s xs now u)=k.1.length:=by
 show k.1.length+(([]:List Int).length+([]:List Int).length)=_
 rfl
noncomputable def Z0D (k:Z5)(s:Int)(xs:List Z4)(now term:Int):Bool:=Ut xs&&((ZB now 0 100000&&ZB term 0 200)&&Zn (Q6 k s xs now (IntKind.i64.wrap (now+term))))
noncomputable def Z09 (k:Z5)(s:Int)(xs:List Z4)(now term:Int):Z7:=bif Z0D k s xs now term then YV (Q6 k s xs now (IntKind.i64.wrap (now+term))) true else YT
theorem Z17 (k:Z5)(s:Int)(xs:List Z4)(now term:Int)(v:Bool)(hk:k.1.length≤1050000)(hx:ZI xs≤1050000):YK.l5 k s xs now term v=some (bif !v&&Zn (Q6 k s xs now (IntKind.i64.wrap (now+term)))then YV (Q6 k s xs now (IntKind.i64.wrap (now+term))) true else YT):=by
 cases v with
 |true=>rfl
 |false=>
  refine Zh (Z26 k s hk) (Zh (Z1a xs hx) (Zh (UJ k hk) (Zh (Qj (Q6 k s xs now (IntKind.i64.wrap (now+term))) (by rw[Z31];exact hk)) ?_)))
  cases Zn (Q6 k s xs now (IntKind.i64.wrap (now+term)))<;>rfl
theorem Z4G (k:Z5)(s:Int)(xs:List Z4)(now term:Int)(hk:k.1.length≤1050000)(hx:ZI xs≤1050000):YK k s xs now term=some (Z09 k s xs now term):=by
 unfold YK Z09 Z0D
 refine Zh (Z0p xs hx) ?_
 cases Ut xs with
 |false=>exact Z17 k s xs now term true hk hx
 |true=>
  refine cF rfl (Zh (QR _ _ _) ?_)
  cases ZB now 0 100000 with
  |false=>exact Z17 k s xs now term true hk hx
  |true=>
   refine cF rfl (Zh (QR _ _ _) ?_)
   rw[Z17 k s xs now term _ hk hx]
   cases ZB term 0 200<;>rfl
def Ur (p h:Z0):Z5:=bif ZH h==(2:Int)then Ze p else bif ZH h==(3:Int)then Zk p else Zp p
theorem Z1e (p h:Z0):(Ur p h).1.length≤Zg p:=by
 unfold Ur Zg XE
 cases(ZH h==(2:Int))<;>cases(ZH h==(3:Int))<;>simp only[cond_t,cond_f]<;>omega
def XS (p h:Z0)(held:List Int):Z6:=Q0 held (Ur p h) h
theorem Z5j (p h:Z0)(held:List Int):Xy (XS p h held)≤Zg h+Zg p:=by
 have h1:=Z5i held (Ur p h) h
 have h2:=Z1e p h
 unfold XS
 omega
theorem Z3E (p h:Z0)(held:List Int)(h0:Zg p≤1050000)(h1:Zg h≤1050000)(h2:held.length≤1050000):Y4 p h held=some (XS p h held):=by
 have hk:=UM p h0
 unfold Y4 XS Ur
 cases hq:(ZH h==(2:Int))with
 |true=>exact cT hq (Zh (Z0L _ (Ze p) _ h2 hk.2.1 h1) rfl)
 |false=>
  refine cF hq ?_
  cases hr:(ZH h==(3:Int))with
  |true=>exact cT rfl (Zh (Z0L _ (Zk p) _ h2 hk.2.2 h1) rfl)
  |false=>exact cF rfl (Zh (Z0L _ (Zp p) _ h2 hk.1 h1) rfl)
def Ok {α:Type}(o:Option α)(Q:α→Prop):Prop:=∃a,o=some a∧Q a
theorem Ok.bind {α β:Type}{e:Option α}{P:α→Prop}{f:α→Option β}{Q:β→Prop}(h:Ok e P)(hf:∀a,P a→Ok (f a) Q):Ok (e.bind f) Q:=by
 obtain⟨a,rfl,ha⟩:=h
 rw[bind_s]
 exact hf a ha
theorem Ok.ret {α:Type}{a:α}{Q:α→Prop}(h:Q a):Ok (some a) Q:=⟨a,rfl,h⟩
theorem Ok.of {α:Type}{e:Option α}{a:α}{Q:α→Prop}(h:e=some a)(hq:Q a):Ok e Q:=⟨a,h,hq⟩
theorem Ok.mono {α:Type}{e:Option α}{P Q:α→Prop}(h:Ok e P)(hq:∀a,P a→Q a):Ok e Q:=by
 obtain⟨a,h1,h2⟩:=h
 exact⟨a,h1,hq a h2⟩
theorem Ok.ite {α:Type}{c:Bool}{a b:Option α}{Q:α→Prop}(h1:c=true→Ok a Q)(h2:c=false→Ok b Q):Ok (bif c then a else b) Q:=by
 cases c with
 |true=>rw[cond_t];exact h1 rfl
 |false=>rw[cond_f];exact h2 rfl
theorem Ok.chk {α:Type}{c:Bool}{a b:Option α}{Q:α→Prop}(h:c=true)(h1:Ok a Q):Ok (bif c then a else b) Q:=by
 subst h
 rw[cond_t]
 exact h1
theorem Ok.both {α:Type}{x:Option α}{Q:α→Prop}(h:Ok x Q):Ok (V.both x x) Q:=by
 rw[both_eq]
 exact h
def Cu (code:List Int)(c:Z3):Prop:=c.1=code∧0≤c.2.1∧c.2.1≤(code.length:Int)∧code.length≤1050000
theorem Cu.re {code:List Int}{c d:Z3}(h:Cu code c)(h':Cu code d):Cu code (c.1,d.2.1,d.2.2):=⟨h.1,h'.2⟩
theorem Z1k (a:Int):0≤IntKind.i64.wrap ((BitVec.ofInt IntKind.i64.bits a&&&BitVec.ofInt IntKind.i64.bits (255:Int)).toNat:Int)∧IntKind.i64.wrap ((BitVec.ofInt IntKind.i64.bits a&&&BitVec.ofInt IntKind.i64.bits (255:Int)).toNat:Int)≤255:=by
 have h:(BitVec.ofInt IntKind.i64.bits a&&&BitVec.ofInt IntKind.i64.bits (255:Int)).toNat≤255:=by
  rw[BitVec.toNat_and]
  exact Nat.le_trans Nat.and_le_right (by decide)
 rw[w64 (by omega) (by omega)]
 omega
theorem Z03 {code:List Int}{c:Z3}(hc:Cu code c):Ok (W4 c) (fun r=>Cu code r.1∧0≤r.2∧r.2≤255):=by
 obtain⟨h1,h2,h3,h4⟩:=hc
 unfold W4
 refine Ok.chk (by decide) (Ok.chk (by decide) (Ok.ite (fun h=> ?_) (fun _=>Ok.ret ⟨⟨h1,h2,h3,h4⟩,Z1k _⟩)))
 have h:=of_decide_eq_true h
 rw[h1]at h
 refine Ok.chk (decide_eq_true h2) (Ok.chk (decide_eq_true (by rw[h1];exact h)) (Ok.ret ⟨⟨h1,?_,?_,h4⟩,Z1k _⟩))
 ·show 0≤IntKind.i64.wrap (c.2.1+1)
  rw[w64 (by omega) (by omega)]
  omega
 ·show IntKind.i64.wrap (c.2.1+1)≤_
  rw[w64 (by omega) (by omega)]
  omega
theorem YY {code:List Int}{c:Z3}(hc:Cu code c)(n:Int):Ok (Zm c n) (fun r=>Cu code r.1∧0≤r.2∧(0<n→r.2<n)∧(n≤0→r.2=0)):=by
 unfold Zm
 refine Ok.ite (fun h=> ?_) (fun h=> ?_)
 ·have h:=of_decide_eq_true h
  exact Ok.ret ⟨hc,Int.le_refl 0,fun h'=>by omega,fun _=>rfl⟩
 ·have h:=of_decide_eq_false h
  have hn:(n==(0:Int))=false:=by rw[beq_eq_false_iff_ne];omega
  refine Ok.ite (fun _=>(Z03 hc).bind fun y hy=> ?_) (fun _=>(Z03 hc).bind fun y hy=>(Z03 (hc.re hy.1)).bind fun z hz=>(Z03 (hc.re hz.1)).bind fun u hu=> ?_)
  ·rw[hn,cond_f]
   exact Ok.ret ⟨hc.re hy.1,Int.tmod_nonneg n hy.2.1,fun h'=>Int.tmod_lt_of_pos _ h',fun h'=>by omega⟩
  ·rw[hn,cond_f]
   obtain⟨_,y1,y2⟩:=hy
   obtain⟨_,z1,z2⟩:=hz
   obtain⟨_,u1,u2⟩:=hu
   have e1:IntKind.i64.wrap (y.2*65536)=y.2*65536:=w64 (by omega) (by omega)
   have e2:IntKind.i64.wrap (z.2*256)=z.2*256:=w64 (by omega) (by omega)
   have e3:IntKind.i64.wrap (y.2*65536+z.2*256)=y.2*65536+z.2*256:=w64 (by omega) (by omega)
   have e4:IntKind.i64.wrap (y.2*65536+z.2*256+u.2)=y.2*65536+z.2*256+u.2:=w64 (by omega) (by omega)
   rw[e1,e2,e3,e4]
   exact Ok.ret ⟨hc.re ‹_›,Int.tmod_nonneg n (by omega),fun h'=>Int.tmod_lt_of_pos _ h',fun h'=>by omega⟩
theorem Qg {code:List Int}{c:Z3}(hc:Cu code c)(n:Int):Ok (Xw c n) (fun r=>Cu code r.1):=by
 unfold Xw
 exact(YY hc n).bind fun y hy=>Ok.ret (hc.re hy.1)
theorem Uq {code:List Int}{c:Z3}(hc:Cu code c){xs:List Int}(hx:0<xs.length):Ok (Z8 c xs) (fun r=>Cu code r.1∧r.2∈xs):=by
 unfold Z8
 refine(YY hc _).bind fun y hy=> ?_
 obtain⟨h1,h2,h3,_⟩:=hy
 have h3:=h3 (by omega)
 refine Ok.chk (decide_eq_true h2) (Ok.chk (decide_eq_true h3) (Ok.ret ⟨hc.re h1,?_⟩))
 show xs.getD y.2.toNat 0∈xs
 rw[List.getD_eq_getElem?_getD,List.getElem?_eq_getElem (show y.2.toNat<xs.length by omega)]
 exact List.getElem_mem _
theorem Z5n {code:List Int}{c:Z3}(hc:Cu code c){xs:List ByteArray}(hx:0<xs.length):Ok (XW c xs) (fun r=>Cu code r.1∧r.2∈xs):=by
 unfold XW
 refine(YY hc _).bind fun y hy=> ?_
 obtain⟨h1,h2,h3,_⟩:=hy
 have h3:=h3 (by omega)
 refine Ok.chk (decide_eq_true h2) (Ok.chk (decide_eq_true h3) (Ok.ret ⟨hc.re h1,?_⟩))
 show xs.getD y.2.toNat _∈xs
 rw[List.getD_eq_getElem?_getD,List.getElem?_eq_getElem (show y.2.toNat<xs.length by omega)]
 exact List.getElem_mem _
theorem ge0 {v:Int}(h:decide (v>(0:Int))=true):0<v:=of_decide_eq_true h
theorem Z15 {v:Int}(h0:0<v)(h1:v≤1000):IntKind.i64.wrap (v-(1:Int))=v-1:=w64 (by omega) (by omega)
theorem UV {α:Type}{xs:List α}{x:α}(h:xs.length≤1050000):decide (xs.length+[x].length<68719476736)=true:=decide_eq_true (by show xs.length+1<_;omega)
theorem QB {α:Type}(xs:List α)(x:α):(xs++[x]).length=xs.length+1:=by simp
theorem Z00 {α:Type}(f:α→Nat)(xs:List α)(x:α):Xb f (xs++[x])=Xb f xs+1+f x:=by
 unfold Xb
 simp only[List.length_append,List.map_append,List.sum_append,List.map_cons,List.map_nil,List.sum_cons,List.sum_nil,List.length_cons,List.length_nil]
 omega
theorem Z2f {code:List Int}{c:Z3}(hc:Cu code c){xs:List ByteArray}{n:Nat}(hx:0<xs.length)(hs:(xs.all fun s=>decide (s.size≤n))=true):Ok (XW c xs) (fun r=>Cu code r.1∧r.2.size≤n):=
 (Z5n hc hx).mono fun r h=>⟨h.1,of_decide_eq_true (List.all_eq_true.1 hs r.2 h.2)⟩
theorem Z0W {code:List Int}{c:Z3}(hc:Cu code c):Ok (XO c) (fun r=>Cu code r.1∧r.2.size≤9):=by
 unfold XO
 exact(Z2f (n:=9) hc (by decide) (by decide)).bind fun y hy=>Ok.ret ⟨hc.re hy.1,hy.2⟩
theorem Z3Y {code:List Int}{x0:Z3}:∀(n:Nat) (v a b:Int) (acc:List ByteArray),v<(n:Int)→0≤v→v≤1000→acc.length+v.toNat≤1000→Cu code (x0.1,a,b)→Ok (Yh.l6 x0 n v a b acc) (fun r=>Cu code r.1∧Xv r.2≤Xv acc+10*v.toNat):=by
 intro n
 induction n with
 |zero=>intro v a b acc h0 h1;omega
 |succ n ih=>
  intro v a b acc h0 h1 h2 ha hc
  rw[Yh.u6]
  refine Ok.ite (fun h=> ?_) (fun h=>Ok.ret ⟨hc,by show Xv acc≤_;omega⟩)
  have h:=ge0 h
  refine(Z0W hc).bind fun y hy=>Ok.chk (UV (by omega)) ?_
  rw[Z15 h h2]
  refine(ih (v-1) _ _ (acc++[y.2]) (by omega) (by omega) (by omega) (by rw[QB];omega) (hc.re hy.1)).mono fun r hr=>⟨hr.1,?_⟩
  have e:Xv (acc++[y.2])=Xv acc+1+XF y.2:=Z00 _ _ _
  have e2:XF y.2≤9:=hy.2
  have:=hr.2
  omega
theorem Z1M {code:List Int}{c:Z3}(hc:Cu code c):Ok (Yh c) (fun r=>Cu code r.1∧Xv r.2≤30):=by
 unfold Yh
 refine(YY hc 3).bind fun y hy=> ?_
 obtain⟨h1,h2,h3,_⟩:=hy
 have h3:=h3 (by omega)
 have e:IntKind.i64.wrap ((1:Int)+y.2)=1+y.2:=w64 (by omega) (by omega)
 rw[e]
 have hk:=KK_gt (n:=1000) (by omega)
 refine(Z3Y KK (1+y.2) _ _ [] (by omega) (by omega) (by omega) (by show 0+_≤_;omega) (hc.re h1)).mono fun r hr=>⟨hr.1,?_⟩
 have e0:Xv []=0:=rfl
 have:=hr.2
 omega
theorem Z1N {code:List Int}{c:Z3}(hc:Cu code c):Ok (W6 c) (fun r=>Cu code r.1∧YN r.2≤39):=by
 unfold W6
 refine(Z0W hc).bind fun y1 h1=>(YY (hc.re h1.1) 5).bind fun y2 h2=>Ok.ite (fun _=> ?_) fun _=>Ok.ite (fun _=> ?_) fun _=> ?_
 ·refine(YY (hc.re h2.1) 5000).bind fun y3 h3=>Ok.bind (P:=fun e=>YN e≤39) ?_ fun e he=>Ok.ret ⟨hc.re h3.1,he⟩
  exact Ok.ret (by show XF y1.2+0≤39;have:XF y1.2≤9:=h1.2;omega)
 ·refine(YY (hc.re h2.1) 5000).bind fun y3 h3=>(Z1M (hc.re h3.1)).bind fun y6 h6=>Ok.bind (P:=fun e=>YN e≤39) ?_ fun e he=>Ok.ret ⟨hc.re h6.1,he⟩
  have hl:y6.2.length≤1050000:=by have:=h6.2;unfold Xv Xb at this;omega
  exact Ok.of (Zh (Z1L y6.2 hl) rfl) (by show XF y1.2+Xv y6.2≤39;have:XF y1.2≤9:=h1.2;have:=h6.2;omega)
 ·refine(YY (hc.re h2.1) 50).bind fun y3 h3=>Ok.bind (P:=fun e=>YN e≤39) ?_ fun e he=>Ok.ret ⟨hc.re h3.1,he⟩
  exact Ok.ret (by show XF y1.2+0≤39;have:XF y1.2≤9:=h1.2;omega)
theorem Z5p {α:Type}(f:α→Nat){xs:List α}{i:Nat}(h:i<xs.length):Xb f (xs.drop i)=1+f xs[i]+Xb f (xs.drop (i+1)):=by
 rw[List.drop_eq_getElem_cons h]
 unfold Xb
 simp only[List.map_cons,List.sum_cons,List.length_cons]
 omega
theorem QE {α:Type}(f:α→Nat)(xs:List α):xs.length≤Xb f xs:=by unfold Xb;omega
theorem Z4t (xs:List Z4)(e:Z4)(hx:ZI xs+YN e≤100000):∀(n i:Nat) (done:Bool) (out:List Z4),xs.length-i<n→i≤xs.length→ZI out+(bif done then 0 else YN e+1)+ZI (xs.drop i)≤ZI xs+YN e+1→
 Ok (Zi.l8 xs e n done (i:Int) out) (fun r=>ZI r.1≤ZI xs+YN e+1):=by
 have hlx:=QE YN xs
 have hl:xs.length≤100000:=by unfold ZI at hx;omega
 have fin:∀out:List Z4,ZI out≤ZI xs+YN e+1→Ok (Zi.l29 xs out) (fun r=>ZI r.1≤ZI xs+YN e+1):=by
  intro out ho
  have tail:∀v:Bool,Ok (Zi.l31 xs out v) (fun r=>ZI r.1≤ZI xs+YN e+1):=by
   intro v
   refine Ok.ite (fun _=> ?_) fun _=>Ok.ret ho
   exact Ok.of (Zh (Z45 xs (by omega)) rfl) (by show ZI xs≤_;omega)
  refine Ok.bind (P:=fun _=>True) (Ok.of (Z0p xs (by omega)) trivial) fun y _=>Ok.ite (fun _=>tail _) fun _=> ?_
  exact Ok.bind (P:=fun _=>True) (Ok.of (Z0p out (by omega)) trivial) fun y _=>tail _
 intro n
 induction n with
 |zero=>intro i done out h0;omega
 |succ n ih=>
  intro i done out h0 h1 hi
  have hlo:=QE YN out
  have hou:ZI out≤100001:=by omega
  have hlo:out.length≤100001:=by unfold ZI at hou;omega
  rw[Zi.u8]
  refine Ok.ite (fun h=> ?_) (fun h=> ?_)
  ·have hlt:i<xs.length:=by have:=of_decide_eq_true h;omega
   have hd:=Z5p YN hlt
   have hd:ZI (xs.drop i)=1+YN xs[i]+ZI (xs.drop (i+1)):=hd
   refine Ok.chk (decide_eq_true (by omega)) (Ok.chk h ?_)
   rw[Int.toNat_natCast,at_n hlt]
   refine Ok.bind (P:=fun _=>True) (Ok.of (Z20 _ _) trivial) fun k _=> ?_
   have hei:YN xs[i]≤1050000:=by omega
   have nx:∀(d:Bool) (o:List Z4),ZI o+(bif d then 0 else YN e+1)+ZI (xs.drop i)≤ZI xs+YN e+1→Ok (Zi.l21 xs e (i:Int) k (Zi.l8 xs e n) d o) (fun r=>ZI r.1≤ZI xs+YN e+1):=by
    intro d o ho
    have hlo:o.length≤ZI o:=QE YN o
    have hlo:o.length≤1050000:=by omega
    refine Ok.ite (fun _=> ?_) fun _=> ?_
    ·refine Ok.chk (decide_eq_true (by omega)) (Ok.chk h ?_)
     rw[Int.toNat_natCast,at_n hlt,w64_succ (by omega)]
     refine Ok.bind (P:=fun y=>y=xs[i]) (Ok.of (Z0i _ hei) rfl) fun y hy=>Ok.chk (UV hlo) ?_
     subst hy
     refine ih (i+1) d _ (by omega) (by omega) ?_
     have e2:ZI (o++[xs[i]])=ZI o+1+YN xs[i]:=Z00 _ _ _
     omega
    ·rw[w64_succ (by omega)]
     exact ih (i+1) d o (by omega) (by omega) (by omega)
   have cs:∀v:Bool,(v=true→done=false)→Ok (Zi.l17 xs e done (i:Int) out k (Zi.l8 xs e n) v) (fun r=>ZI r.1≤ZI xs+YN e+1):=by
    intro v hv
    refine Ok.ite (fun h=> ?_) fun _=>nx _ _ hi
    have hd:=hv h
    subst hd
    rw[cond_f]at hi
    refine Ok.bind (P:=fun y=>y=e) (Ok.of (Z0i _ (by omega)) rfl) fun y hy=>Ok.chk (UV (by omega)) (nx _ _ ?_)
    subst hy
    have e2:ZI (out++[y])=ZI out+1+YN y:=Z00 _ _ _
    rw[cond_t]
    omega
   exact Ok.ite (fun _=>cs _ (fun h=>by cases done<;>simp_all)) (fun _=>cs _ (fun h=>by cases h))
  ·have e0:i=xs.length:=by have:=of_decide_eq_false h;omega
   subst e0
   rw[List.drop_length]at hi
   have e0:ZI []=0:=rfl
   refine Ok.ite (fun h=> ?_) (fun h=>fin _ (by omega))
   have hd:done=false:=by cases done<;>simp_all
   subst hd
   rw[cond_f]at hi
   refine Ok.bind (P:=fun y=>y=e) (Ok.of (Z0i _ (by omega)) rfl) fun y hy=>Ok.chk (UV (by omega)) (fin _ ?_)
   subst hy
   have e2:ZI (out++[y])=ZI out+1+YN y:=Z00 _ _ _
   omega
theorem Z1X (xs:List Z4)(e:Z4)(hx:ZI xs+YN e≤100000):Ok (Zi xs e) (fun r=>ZI r.1≤ZI xs+YN e+1):=by
 have hlx:=QE YN xs
 have hlx:xs.length≤100000:=by unfold ZI at hx;omega
 refine Z4t xs e hx KK 0 false [] (KK_gt (by omega)) (Nat.zero_le _) ?_
 have e0:ZI []=0:=rfl
 rw[cond_f,List.drop_zero]
 omega
theorem Z46 {code:List Int}{x0:Z3}:∀(n:Nat) (v a b:Int) (acc:List Z4),v<(n:Int)→0≤v→v≤1000→ZI acc+40*v.toNat≤50000→Cu code (x0.1,a,b)→Ok (Y6.l6 x0 n v a b acc) (fun r=>Cu code r.1∧ZI r.2≤ZI acc+40*v.toNat):=by
 intro n
 induction n with
 |zero=>intro v a b acc h0 h1;omega
 |succ n ih=>
  intro v a b acc h0 h1 h2 ha hc
  rw[Y6.u6]
  refine Ok.ite (fun h=> ?_) (fun h=>Ok.ret ⟨hc,by show ZI acc≤_;omega⟩)
  have h:=ge0 h
  refine(Z1N hc).bind fun y hy=> ?_
  have hy2:=hy.2
  refine(Z1X acc y.2 (by omega)).bind fun z hz=> ?_
  rw[Z15 h h2]
  refine(ih (v-1) _ _ z.1 (by omega) (by omega) (by omega) (by omega) (hc.re hy.1)).mono fun r hr=>⟨hr.1,?_⟩
  have:=hr.2
  omega
theorem Z0X {code:List Int}{c:Z3}(hc:Cu code c):Ok (Y6 c) (fun r=>Cu code r.1∧ZI r.2≤240):=by
 unfold Y6
 refine(YY hc 7).bind fun y hy=> ?_
 obtain⟨h1,h2,h3,_⟩:=hy
 have h3:=h3 (by omega)
 have hk:=KK_gt (n:=1000) (by omega)
 have e0:ZI []=0:=rfl
 refine(Z46 KK y.2 _ _ [] (by omega) (by omega) (by omega) (by omega) (hc.re h1)).mono fun r hr=>⟨hr.1,?_⟩
 have:=hr.2
 omega
theorem Z41 {code:List Int}{x0:Z3}{m:Int}(hm:m≤1000):∀(n:Nat) (t i a b:Int) (acc:List Int),m-i<(n:Int)→0≤i→i≤m→(acc.length:Int)=i→Cu code (x0.1,a,b)→Ok (ZK.l10 x0 n m t i a b acc) (fun r=>Cu code r.1∧(r.2.1.length:Int)=m):=by
 intro n
 induction n with
 |zero=>intro t i a b acc h0 h1 h2;omega
 |succ n ih=>
  intro t i a b acc h0 h1 h2 ha hc
  rw[ZK.u10]
  refine Ok.ite (fun h=> ?_) (fun h=> ?_)
  ·have h:=of_decide_eq_true h
   refine(YY hc 3).bind fun y hy=>Ok.chk (UV (by omega)) ?_
   have e:IntKind.i64.wrap (i+(1:Int))=i+1:=w64 (by omega) (by omega)
   rw[e]
   exact ih _ (i+1) _ _ _ (by omega) (by omega) (by omega) (by rw[QB];omega) (hc.re hy.1)
  ·have h:=of_decide_eq_false h
   exact(YY hc m).bind fun y hy=>Ok.ret ⟨hc.re hy.1,by show(acc.length:Int)=m;omega⟩
theorem Ux {code:List Int}{c:Z3}(hc:Cu code c):Ok (ZK c) (fun r=>Cu code r.1∧r.2.1.length≤3):=by
 unfold ZK
 refine(YY hc 3).bind fun y hy=>(YY (hc.re hy.1) 4).bind fun z hz=> ?_
 obtain⟨h1,h2,h3,_⟩:=hy
 have h3:=h3 (by omega)
 have e:IntKind.i64.wrap ((1:Int)+y.2)=1+y.2:=w64 (by omega) (by omega)
 rw[e]
 have hk:=KK_gt (n:=2000) (by omega)
 refine(Z41 (m:=1+y.2) (by omega) KK z.2 0 _ _ [] (by omega) (by omega) (by omega) rfl (hc.re hz.1)).mono fun r hr=>⟨hr.1,?_⟩
 have:=hr.2
 omega
theorem QS {code:List Int}{c:Z3}(hc:Cu code c):Ok (XH c) (fun r=>Cu code r.1∧r.2.1.length≤4):=by
 unfold XH
 refine(Ux hc).bind fun y1 h1=>(YY (hc.re h1.1) 10).bind fun y2 h2=>Ok.ite (fun _=> ?_) fun _=>Ok.ite (fun _=> ?_) fun _=>Ok.ite (fun _=> ?_) fun _=> ?_
 ·exact(Uq (hc.re h2.1) (by decide)).bind fun y3 h3=>Ok.ret ⟨hc.re h3.1,Nat.le_succ_of_le h1.2⟩
 ·have one:Ok ((Z8 (c.1,y2.1.2.1,y2.1.2.2) [(1:Int),(99:Int),(100:Int)]).bind fun y4=>bif decide (y1.2.1.length+[y4.2].length<68719476736)then some ((c.1,y4.1.2.1,y4.1.2.2),y1.2.1++[y4.2],y1.2.2)else none) (fun r=>Cu code r.1∧r.2.1.length≤4):=
   (Uq (hc.re h2.1) (by decide)).bind fun y3 h3=>Ok.chk (UV (Nat.le_trans h1.2 (by decide))) (Ok.ret ⟨hc.re h3.1,by show(y1.2.1++[y3.2]).length≤4;rw[QB];have:=h1.2;omega⟩)
  simp only[both_eq]
  exact one
 ·exact Ok.ret ⟨hc.re h2.1,by show([]:List Int).length≤4;decide⟩
 ·exact Ok.ret ⟨hc.re h2.1,Nat.le_succ_of_le h1.2⟩
theorem Z3W {code:List Int}(hl:code.length≤1050000):∀(n i:Nat) (v:Int),code.length-i<n→i≤code.length→Ok (Zy.l6 code n v (i:Int)) (Cu code):=by
 intro n
 induction n with
 |zero=>intro i v h0;omega
 |succ n ih=>
  intro i v h0 h1
  rw[Zy.u6]
  have ret:∀v:Int,Ok (some ((code,(0:Int),v):Z3)) (Cu code):=fun v=>Ok.ret ⟨rfl,Int.le_refl 0,by show(0:Int)≤_;omega,hl⟩
  refine Ok.ite (fun h=>Ok.ite (fun _=> ?_) fun _=>ret v) fun _=>ret v
  have hlt:i<code.length:=by have:=of_decide_eq_true h;omega
  unfold Zy.l11
  refine Ok.chk (decide_eq_true (by omega)) (Ok.chk h ?_)
  rw[w64_succ (by omega)]
  exact ih (i+1) _ (by omega) (by omega)
theorem Z0h {code:List Int}(hl:code.length≤1050000):Ok (Zy code) (Cu code):=
 Z3W hl KK 0 _ (KK_gt (by omega)) (Nat.zero_le _)
def kB (h:Z0):Prop:=(Zp h).1.length≤4∧(Ze h).1.length≤4∧(Zk h).1.length≤4
theorem Qb {h:Z0}(hk:kB h):Zg h≤12:=by
 obtain⟨h1,h2,h3⟩:=hk
 unfold Zg XE
 omega
def sB (s:Z6):Prop:=kB (Zf s)∧(U9 s).length≤8
theorem Z1Y {s:Z6}(hs:sB s):Xy s≤20:=by
 have h1:=Qb hs.1
 have h2:=hs.2
 unfold Xy
 omega
theorem Z5h {sk:List Int}{k:Z5}{h:Z0}(hh:kB h)(hk:k.1.length≤4):sB (Q0 sk k h):=by
 have:=Z2b sk (XM h) k.1 []
 rw[List.length_nil,Nat.zero_add]at this
 exact⟨hh,by show(Wg sk (XM h) k.1 []).length≤8;omega⟩
theorem Z28 {sk:List Int}{k:Z5}{h:Z0}(hh:kB h)(hk:k.1.length≤4)(hs:sk.length≤4):Ok (X4 sk k h) sB:=
 Ok.of (Z58 sk k h (by omega) (by omega) (Nat.le_trans (Qb hh) (by decide))) (Z5h hh hk)
theorem Z1J {code:List Int}{x0:Z3}{a b v1 v2 v25 v26:Int}{y1 y2 y4 y5 y6 y7:Z3×Int}{y8:Z3×List Int×Int}{l:List Int}(hc:Cu code (x0.1,v1,v2))(h8:y8.2.1.length≤3)(hl:l.length≤3):Ok (ZM.l13 x0 a b y1 y2 y4 y5 y6 y7 y8 v1 v2 v25 v26 l) (fun r=>Cu code r.1∧kB r.2):=by
 refine(Qg hc 2).bind fun y h=>Ok.ite (fun _=> ?_) fun _=>Ok.ret ⟨hc.re h,Nat.le_succ_of_le h8,Nat.le_succ_of_le hl,Nat.zero_le _⟩
 exact(Ux (hc.re h)).bind fun z hz=>(Qg (hc.re hz.1) 3).bind fun u hu=>Ok.ret ⟨hc.re hu,Nat.le_succ_of_le h8,Nat.le_succ_of_le hl,Nat.le_succ_of_le hz.2⟩
theorem Z3S {code:List Int}{c:Z3}(hc:Cu code c):Ok (ZM c) (fun r=>Cu code r.1∧kB r.2):=by
 unfold ZM ZM.b
 simp only[both_eq]
 refine(YY hc 50).bind fun y1 h1=>(YY (hc.re h1.1) 4).bind fun y2 h2=>(YY (hc.re h2.1) 3).bind fun y3 h3=>(YY (hc.re h3.1) 40).bind fun y4 h4=>(YY (hc.re h4.1) 90).bind fun y5 h5=>(YY (hc.re h5.1) 9).bind fun y6 h6=>(YY (hc.re h6.1) 5).bind fun y7 h7=>(Ux (hc.re h7.1)).bind fun y8 h8=>(YY (hc.re h8.1) 60).bind fun y9 h9=> ?_
 refine(Qg (hc.re h9.1) 2).bind fun y h=>Ok.ite (fun _=> ?_) fun _=>Z1J (hc.re h) h8.2 (Nat.zero_le _)
 exact(Ux (hc.re h)).bind fun z hz=>(YY (hc.re hz.1) 30).bind fun u hu=>Z1J (hc.re hu.1) h8.2 hz.2
theorem Z3R {code:List Int}{c:Z3}(hc:Cu code c):Ok (WK c) (fun r=>Cu code r.1∧kB r.2):=by
 unfold WK
 refine(Z3S hc).bind fun y1 h1=>(YY (hc.re h1.1) 14).bind fun y2 h2=>Ok.ite (fun _=> ?_) fun _=>Ok.ite (fun _=> ?_) fun _=>Ok.ite (fun _=> ?_) fun _=>Ok.ite (fun _=> ?_) fun _=>Ok.ite (fun _=> ?_) fun _=>Ok.ite (fun _=> ?_) fun _=>Ok.ite (fun _=> ?_) fun _=> ?_
 ·exact(Uq (hc.re h2.1) (by decide)).bind fun y h=>Ok.ret ⟨hc.re h.1,h1.2⟩
 ·exact(Uq (hc.re h2.1) (by decide)).bind fun y h=>Ok.ret ⟨hc.re h.1,h1.2⟩
 ·exact(Uq (hc.re h2.1) (by decide)).bind fun y h=>Ok.ret ⟨hc.re h.1,h1.2⟩
 ·exact(QS (hc.re h2.1)).bind fun y h=>Ok.ret ⟨hc.re h.1,h.2,h1.2.2.1,h1.2.2.2⟩
 ·exact(Uq (hc.re h2.1) (by decide)).bind fun y h=>Ok.ret ⟨hc.re h.1,h1.2⟩
 ·exact Ok.ret ⟨hc.re h2.1,h1.2⟩
 ·exact(QS (hc.re h2.1)).bind fun y h=>Ok.ret ⟨hc.re h.1,h1.2.1,h1.2.2.1,h.2⟩
 ·exact Ok.ret ⟨hc.re h2.1,h1.2⟩
theorem Z0U {code:List Int}{x0:Z3}{v18 v19 v20 v21 v22 v23 v24 v25 v26 v1 v2 v27 v28 v29:Int}{b:Bool}{l1 l2 l3:List Int}{y1:Z3×List Int×Int}(hc:Cu code (x0.1,v1,v2))(h1:y1.2.1.length≤3)(hl1:l1.length≤4)(hl2:l2.length≤4)(hl3:l3.length≤4):Ok (ZN.l25 x0 v18 v19 v20 v21 v22 v23 v24 v25 v26 b l1 y1 v1 v2 v27 v28 v29 l2 l3) (fun r=>Cu code r.1∧sB r.2):=by
 refine(Z28 ?_ ?_ ?_).bind fun y hy=>Ok.ret ⟨hc,hy⟩
 ·exact⟨hl1,hl2,hl3⟩
 ·exact Nat.le_succ_of_le h1
 ·exact Nat.le_succ_of_le h1
theorem Z33 {k:Z5}{s:Int}{xs:List Z4}{now term:Int}(hk:k.1.length≤3):kB (Zc (Z09 k s xs now term)):=by
 unfold Z09
 cases Z0D k s xs now term with
 |true=>exact⟨Nat.le_succ_of_le hk,Nat.zero_le _,Nat.zero_le _⟩
 |false=>exact⟨Nat.zero_le _,Nat.zero_le _,Nat.zero_le _⟩
theorem Z3T {code:List Int}{c:Z3}(hc:Cu code c):Ok (ZN c) (fun r=>Cu code r.1∧sB r.2):=by
 unfold ZN ZN.b
 simp only[both_eq]
 refine(Ux hc).bind fun y1 h1=>(YY (hc.re h1.1) 9).bind fun y2 h2=>(Z0X (hc.re h2.1)).bind fun y3 h3=>(YY (hc.re h3.1) 40).bind fun y4 h4=>(YY (hc.re h4.1) 60).bind fun y5 h5=>Ok.bind (P:=fun y=>kB (Zc y)) ?_ fun y6 h6=> ?_
 ·have hx:=h3.2
  have hk:=h1.2
  exact Ok.of (Z4G y1.2 y2.2 y3.2 y4.2 y5.2 (by show y1.2.1.length≤_;omega) (by omega)) (Z33 h1.2)
 ·refine(YY (hc.re h5.1) 4).bind fun y7 h7=>Ok.ite (fun _=> ?_) fun _=>Ok.ite (fun _=> ?_) fun _=>Z0U (hc.re h7.1) h1.2 h6.1 h6.2.1 h6.2.2
  ·exact(Ux (hc.re h7.1)).bind fun y8 h8=>(YY (hc.re h8.1) 30).bind fun y9 h9=>Z0U (hc.re h9.1) h1.2 h6.1 (Nat.le_succ_of_le h8.2) h6.2.2
  ·exact(Ux (hc.re h7.1)).bind fun y8 h8=>Z0U (hc.re h8.1) h1.2 h6.1 h6.2.1 (Nat.le_succ_of_le h8.2)
theorem Qf {code:List Int}{x0:Z3}{a b v1 v2 v18 v19 v20 v21 v22 v24 v25 v26 v27 v33:Int}{h:Z0}{f:Bool}{l1 l2 l3 l4:List Int}(hc:Cu code (x0.1,v1,v2))(h1:l1.length≤4)(h2:l2.length≤4)(h3:l3.length≤4)(h4:l4.length≤4):Ok (Zd.l63 x0 a h b v1 v2 v18 v19 v20 v21 v22 v24 v25 v26 v27 f l1 l2 l3 l4 v33) (fun r=>Cu code r.1∧sB r.2):=by
 refine(Z28 ?_ ?_ ?_).bind fun y hy=>Ok.ret ⟨hc,hy⟩
 ·exact⟨h1,h2,h3⟩
 ·exact h4
 ·exact h4
theorem Z4d {code:List Int}{x0:Z3}{x1 y1:Z0}{a b v1 v2 v35 v36:Int}(hc:Cu code (x0.1,v1,v2))(hx:kB x1)(hy:kB y1):Ok (Zd.l27 x0 x1 a v35 y1 b v1 v2 v36) (fun r=>Cu code r.1∧sB r.2):=by
 refine Ok.bind (P:=fun k=>k=Ze x1) (Ok.of (UJ _ (by have:=hx.2.1;omega)) rfl) fun k hk=> ?_
 subst hk
 exact Qf hc hx.2.1 hy.2.1 hy.2.2 hx.2.1
theorem Z4c {code:List Int}{x0:Z3}{x1 y1:Z0}{a b v1 v2 v35 v36:Int}(hc:Cu code (x0.1,v1,v2))(hx:kB x1)(hy:kB y1):Ok (Zd.l25 x0 x1 a v36 y1 b v1 v2 v35) (fun r=>Cu code r.1∧sB r.2):=by
 unfold Zd.l25 Zd.g25
 simp only[both_eq]
 exact(YY hc 60).bind fun y h=>Z4d (hc.re h.1) hx hy
theorem Z1U {code:List Int}{x0:Z3}{x1 y1:Z0}{a b v1 v2 v35 v36:Int}{f g:Bool}(hc:Cu code (x0.1,v1,v2))(hx:kB x1)(hy:kB y1):Ok (Zd.l41 x0 x1 a v35 v36 y1 b f v1 v2 g) (fun r=>Cu code r.1∧sB r.2):=
 Ok.ite (fun _=>(Ux hc).bind fun y h=>Qf (hc.re h.1) (Nat.le_succ_of_le h.2) hy.2.1 hy.2.2 hx.2.2) fun _=>Qf hc hy.1 hy.2.1 hy.2.2 hx.2.2
theorem Z4b {code:List Int}{x0:Z3}{x1 y1:Z0}{a b v1 v2 v35 v36:Int}(hc:Cu code (x0.1,v1,v2))(hx:kB x1)(hy:kB y1):Ok (Zd.l13 x0 x1 a v35 y1 b v1 v2 v36) (fun r=>Cu code r.1∧sB r.2):=by
 unfold Zd.l13 Zd.g13
 simp only[both_eq]
 refine(YY hc 6).bind fun y5 h5=>Ok.ite (fun _=> ?_) fun _=>Ok.ite (fun _=>Ok.ite (fun _=> ?_) fun _=> ?_) fun _=>Ok.ite (fun _=> ?_) fun _=>Ok.ite (fun _=> ?_) fun _=>Ok.ite (fun _=> ?_) fun _=> ?_
 ·exact(YY (hc.re h5.1) 3).bind fun y h=>Z4c (hc.re h.1) hx hy
 ·exact(Qg (hc.re h5.1) 2).bind fun y h=>Z1U (hc.re h) hx hy
 ·exact Z1U (hc.re h5.1) hx hy
 ·exact(Ux (hc.re h5.1)).bind fun y h=>Qf (hc.re h.1) (Nat.le_succ_of_le h.2) hy.2.1 hy.2.2 hx.1
 ·refine(Z0X (hc.re h5.1)).bind fun y h=>Ok.bind (P:=fun _=>True) (Ok.of (Z1a _ (by have:=h.2;omega)) trivial) fun z _=>Qf (hc.re h.1) hy.1 hy.2.1 hy.2.2 hx.1
 ·exact(Ux (hc.re h5.1)).bind fun y h=>(YY (hc.re h.1) 20).bind fun z hz=>(Ux (hc.re hz.1)).bind fun u hu=>Qf (hc.re hu.1) hy.1 (Nat.le_succ_of_le h.2) (Nat.le_succ_of_le hu.2) hx.1
 ·exact Qf (hc.re h5.1) hy.1 hy.2.1 hy.2.2 hx.1
theorem Z4h {code:List Int}{c:Z3}(hc:Cu code c){p:Z0}(hp:kB p):Ok (Zd c p) (fun r=>Cu code r.1∧sB r.2):=by
 have hz:=Qb hp
 unfold Zd Zd.b
 simp only[both_eq]
 refine Ok.bind (P:=fun h=>h=p) (Ok.of (QQ p (by omega)) rfl) fun h hh=> ?_
 subst hh
 refine Ok.bind (P:=fun _=>True) (Ok.of (Z18 h (by omega)) trivial) fun d _=>(YY hc 40).bind fun y3 h3=> ?_
 unfold Zd.l11 Zd.g11
 simp only[both_eq]
 exact(YY (hc.re h3.1) 60).bind fun y4 h4=>Z4b (hc.re h4.1) hp hp
def lB (xs:List Z6):Prop:=∀s∈xs,sB s
theorem Z1P :∀{xs:List Z6},lB xs→W9 xs≤21*xs.length
 |[],_=>Nat.le_refl _
 |s::xs,h=>by
  have ih:=Z1P (xs:=xs) fun t ht=>h t (List.mem_cons_of_mem _ ht)
  have hs:=Z1Y (h s (List.mem_cons_self ..))
  unfold W9 Xb at ih⊢
  simp only[List.map_cons,List.sum_cons,List.length_cons]
  omega
theorem Z47 {xs:List Z6}{s:Z6}(h:lB xs)(hs:sB s):lB (xs++[s]):=by
 intro t ht
 rcases List.mem_append.1 ht with ht|ht
 ·exact h t ht
 ·rw[List.mem_singleton.1 ht];exact hs
theorem Z30 (xs:List Z6)(s:Z6):(ext xs s).1=xs∨(ext xs s).1=xs++[s]:=by
 unfold ext Z08
 cases(!Ui xs||decide ((xs.length:Int)≥(12:Int)))with
 |true=>exact .inl rfl
 |false=>
  cases Uy (Zf (UZ xs)) s !=(1:Int)with
  |true=>exact .inl rfl
  |false=>exact .inr rfl
theorem Z2Z {xs:List Z6}{s:Z6}(h:lB xs)(hs:sB s):lB (ext xs s).1∧xs.length≤(ext xs s).1.length∧(ext xs s).1.length≤xs.length+1:=by
 rcases Z30 xs s with e|e<;>rw[e]
 ·exact⟨h,Nat.le_refl _,Nat.le_succ _⟩
 ·exact⟨Z47 h hs,by rw[QB];omega,by rw[QB];omega⟩
theorem Z2P :sB YZ:=⟨⟨Nat.zero_le _,Nat.zero_le _,Nat.zero_le _⟩,Nat.zero_le _⟩
theorem Z1O {xs:List Z6}(h:lB xs)(i:Nat):sB (xs.getD i YZ):=by
 by_cases hi:i<xs.length
 ·rw[at_n hi];exact h _ (List.getElem_mem _)
 ·have e:xs.getD i YZ=YZ:=by simp[List.getD,show xs.length≤i by omega]
  rw[e];exact Z2P
theorem Z3U {code:List Int}{x0:Z3}:∀(n:Nat) (v a b:Int) (xs:List Z6),v<(n:Int)→0≤v→v≤1000→1≤xs.length→xs.length+v.toNat≤1000→lB xs→Cu code (x0.1,a,b)→Ok (Yz.l6 x0 n v a b xs) (fun r=>Cu code r.1∧lB r.2∧1≤r.2.length∧r.2.length≤xs.length+v.toNat):=by
 intro n
 induction n with
 |zero=>intro v a b xs h0 h1;omega
 |succ n ih=>
  intro v a b xs h0 h1 h2 hx ha hl hc
  rw[Yz.u6]
  refine Ok.ite (fun h=> ?_) (fun h=>Ok.ret ⟨hc,hl,hx,by show xs.length≤_;omega⟩)
  have h:=ge0 h
  have e:IntKind.i64.wrap ((xs.length:Int)-(1:Int))=(xs.length:Int)-1:=w64 (by omega) (by omega)
  rw[e]
  refine Ok.chk (decide_eq_true (by omega)) (Ok.chk (decide_eq_true (by omega)) ?_)
  refine(Z4h hc (Z1O hl _).1).bind fun y hy=>Ok.bind (P:=fun z=>z=ext xs y.2) (Ok.of (Z4F xs y.2 ?_ ?_) rfl) fun z hz=> ?_
  ·have:=Z1P hl;omega
  ·have:=Z1Y hy.2;omega
  ·subst hz
   rw[Z15 h h2]
   obtain⟨k1,k2,k3⟩:=Z2Z hl hy.2
   refine(ih (v-1) _ _ (ext xs y.2).1 (by omega) (by omega) (by omega) (by omega) (by omega) k1 (hc.re hy.1)).mono fun r hr=>⟨hr.1,hr.2.1,hr.2.2.1,?_⟩
   have:=hr.2.2.2
   omega
theorem Z3V {code:List Int}{c:Z3}(hc:Cu code c):Ok (Yz c) (fun r=>Cu code r.1∧lB r.2∧1≤r.2.length∧r.2.length≤5):=by
 unfold Yz
 refine(Z3T hc).bind fun y1 h1=>(YY (hc.re h1.1) 5).bind fun y hy=> ?_
 obtain⟨k1,k2,k3,_⟩:=hy
 have k3:=k3 (by omega)
 have hk:=KK_gt (n:=1000) (by omega)
 refine(Z3U KK y.2 _ _ [y1.2] (by omega) (by omega) (by omega) (Nat.le_refl 1) (by show 1+_≤_;omega) (fun s hs=>by rw[List.mem_singleton.1 hs];exact h1.2) (hc.re k1)).mono fun r hr=>⟨hr.1,hr.2.1,hr.2.2.1,?_⟩
 have:r.2.length≤1+y.2.toNat:=hr.2.2.2
 omega
theorem Z0f {code:List Int}{c:Z3}(hc:Cu code c):Ok (Yd c) (fun r=>Cu code r.1∧kB r.2):=by
 unfold Yd Yd.b
 refine(Qg hc 6).bind fun y1 h1=>Ok.ite (fun _=> ?_) fun _=> ?_
 ·exact(Z3R (hc.re h1)).bind fun y2 h2=>Ok.ret ⟨hc.re h2.1,h2.2⟩
 ·refine(Z3V (hc.re h1)).bind fun y3 h3=> ?_
  obtain⟨k0,hl,k1,k2⟩:=h3
  have e:IntKind.i64.wrap ((y3.2.length:Int)-(1:Int))=(y3.2.length:Int)-1:=w64 (by omega) (by omega)
  unfold Yd.l9 Yd.g9
  simp only[e]
  exact Ok.chk (decide_eq_true (by omega)) (Ok.chk (decide_eq_true (by omega)) (Ok.ret ⟨hc.re k0,(Z1O hl _).1⟩))
theorem Z0V {code:List Int}{c:Z3}(hc:Cu code c):Ok (XX c) (fun r=>Cu code r.1∧r.2.size≤9):=by
 unfold XX
 refine(Qg hc 4).bind fun y1 h1=>Ok.ite (fun _=> ?_) fun _=> ?_
 ·exact(Z2f (n:=9) (hc.re h1) (by decide) (by decide)).bind fun y2 h2=>Ok.ret ⟨hc.re h2.1,h2.2⟩
 ·exact(Z0W (hc.re h1)).bind fun y2 h2=>Ok.ret ⟨hc.re h2.1,h2.2⟩
theorem Z5o {α:Type}(f:α→Nat)(xs:List α)(x y:α):Xb f (xs++[x,y])=Xb f xs+2+f x+f y:=by
 unfold Xb
 simp only[List.length_append,List.map_append,List.sum_append,List.map_cons,List.map_nil,List.sum_cons,List.sum_nil,List.length_cons,List.length_nil]
 omega
theorem Z3X {code:List Int}{c:Z3}(hc:Cu code c):Ok (WL c) (fun r=>Cu code r.1∧Xv r.2≤50):=by
 unfold WL
 refine(Z1M hc).bind fun y1 h1=>(YY (hc.re h1.1) 8).bind fun y2 h2=>Ok.ite (fun _=> ?_) fun _=>Ok.ite (fun _=> ?_) fun _=> ?_
 ·refine(Z0V (hc.re h2.1)).bind fun y3 h3=>(Z0V (hc.re h3.1)).bind fun y4 h4=> ?_
  have hl:y1.2.length≤Xv y1.2:=QE XF y1.2
  have h1:=h1.2
  refine Ok.chk (decide_eq_true (by show y1.2.length+2<_;omega)) (Ok.ret ⟨hc.re h4.1,?_⟩)
  have e:Xv (y1.2++[y3.2,y4.2])=Xv y1.2+2+XF y3.2+XF y4.2:=Z5o _ _ _ _
  have e3:XF y3.2≤9:=h3.2
  have e4:XF y4.2≤9:=h4.2
  show Xv (y1.2++[y3.2,y4.2])≤50
  omega
 ·exact Ok.ret ⟨hc.re h2.1,by show Xv []≤50;decide⟩
 ·exact Ok.ret ⟨hc.re h2.1,Nat.le_trans h1.2 (by decide)⟩
theorem Z42 {code:List Int}{c:Z3}(hc:Cu code c):Ok (WM c) (fun r=>Cu code r.1∧YN r.2≤89):=by
 unfold WM
 refine(Z1N hc).bind fun y1 h1=>(YY (hc.re h1.1) 10).bind fun y2 h2=> ?_
 have hz:XF y1.2.1+Xv y1.2.2.2.2≤39:=h1.2
 refine Ok.ite (fun _=> ?_) fun _=>Ok.ite (fun _=> ?_) fun _=>Ok.ite (fun _=> ?_) fun _=>Ok.ite (fun _=> ?_) fun _=> ?_
 ·exact(Uq (hc.re h2.1) (by decide)).bind fun y h=>Ok.ret ⟨hc.re h.1,Nat.le_trans hz (by decide)⟩
 ·exact(Uq (hc.re h2.1) (by decide)).bind fun y h=>Ok.ret ⟨hc.re h.1,Nat.le_trans hz (by decide)⟩
 ·refine(Z0V (hc.re h2.1)).bind fun y h=>Ok.ret ⟨hc.re h.1,?_⟩
  have h3:XF y.2≤9:=h.2
  show XF y.2+Xv y1.2.2.2.2≤89
  omega
 ·refine(Z3X (hc.re h2.1)).bind fun y h=>Ok.ret ⟨hc.re h.1,?_⟩
  have h3:=h.2
  show XF y1.2.1+Xv y.2≤89
  omega
 ·exact Ok.ret ⟨hc.re h2.1,Nat.le_trans hz (by decide)⟩
theorem Z43 {code:List Int}{x0:Z3}{y2:Z3×Int}(hc:Cu code (x0.1,y2.1.2.1,y2.1.2.2))(ss:List ByteArray)(hs:∀s∈ss,s.size≤1)(hl:ss.length≤12):∀(n i:Nat) (acc:List Z4),ss.length-i<n→i≤ss.length→ZI acc≤240+2*i→
 Ok (YA.l14 x0 y2 n (ss.length:Int) (i:Int) acc ss) (fun r=>Cu code r.1∧ZI r.2≤330):=by
 intro n
 induction n with
 |zero=>intro i acc h0;omega
 |succ n ih=>
  intro i acc h0 h1 h2
  rw[YA.u14]
  refine Ok.ite (fun h=> ?_) fun _=>Ok.ret ⟨hc,by show ZI acc≤330;omega⟩
  have hi:i<ss.length:=by have:=of_decide_eq_true h;omega
  refine Ok.chk (decide_eq_true (by omega)) (Ok.chk h ?_)
  rw[Int.toNat_natCast,at_n hi,w64_succ (by omega)]
  have hq:XF ss[i]≤1:=hs _ (List.getElem_mem hi)
  refine Ok.bind (P:=fun e=>YN e≤1) (Ok.ret hq) fun e he=>(Z1X acc e (by omega)).bind fun z hz=> ?_
  exact ih (i+1) _ (by omega) (by omega) (by omega)
theorem Z44 {code:List Int}{c:Z3}(hc:Cu code c):Ok (YA c) (fun r=>Cu code r.1∧ZI r.2≤330):=by
 unfold YA
 refine(Z0X hc).bind fun y1 h1=>(YY (hc.re h1.1) 10).bind fun y2 h2=>Ok.ite (fun _=> ?_) fun _=>Ok.ite (fun _=> ?_) fun _=> ?_
 ·refine(Z42 (hc.re h2.1)).bind fun y3 h3=> ?_
  have hl:y1.2.length≤ZI y1.2:=QE YN y1.2
  have h1:=h1.2
  refine Ok.chk (UV (by omega)) (Ok.ret ⟨hc.re h3.1,?_⟩)
  have e:ZI (y1.2++[y3.2])=ZI y1.2+1+YN y3.2:=Z00 _ _ _
  have h3:=h3.2
  show ZI (y1.2++[y3.2])≤330
  omega
 ·have hk:=KK_gt (n:=100) (by omega)
  refine Z43 (hc.re h2.1) _ ?_ (by decide) KK 0 y1.2 (Nat.lt_of_le_of_lt (by decide) hk) (Nat.zero_le _) h1.2
  intro s hs
  exact of_decide_eq_true (List.all_eq_true.1 (by decide:([(⟨#[99]⟩:ByteArray),(⟨#[100]⟩:ByteArray),(⟨#[101]⟩:ByteArray),(⟨#[102]⟩:ByteArray),(⟨#[103]⟩:ByteArray),(⟨#[104]⟩:ByteArray),(⟨#[105]⟩:ByteArray),(⟨#[106]⟩:ByteArray),(⟨#[107]⟩:ByteArray),(⟨#[108]⟩:ByteArray),(⟨#[109]⟩:ByteArray),(⟨#[110]⟩:ByteArray)].all fun s=>decide (s.size≤1))=true) s hs)
 ·exact Ok.ret ⟨hc.re h2.1,Nat.le_trans h1.2 (by decide)⟩
theorem Z0g {code:List Int}{c:Z3}(hc:Cu code c)(h:Z0):Ok (Y3 c h) (fun r=>Cu code r.1):=by
 unfold Y3 Y3.b
 simp only[both_eq]
 exact(Uq hc (by decide)).bind fun y1 h1=>(Uq (hc.re h1.1) (by decide)).bind fun y2 h2=>Ok.ret (hc.re h2.1)
theorem Z2R {code:List Int}(hl:code.length≤1050000):Ok (WB code) (fun r=>kB (U8 r)∧ZI (Us r)≤330):=by
 unfold WB
 exact(Z0h hl).bind fun c hc=>(Z0f hc).bind fun y2 h2=>(Z44 (hc.re h2.1)).bind fun y3 h3=>(Z0g (hc.re h3.1) _).bind fun y4 h4=>Ok.ret ⟨h2.2,h3.2⟩
theorem Z2U {code:List Int}(hl:code.length≤1050000):Ok (WC code) (fun r=>kB (XY r)∧(WO r).1.length≤4):=by
 unfold WC
 simp only[both_eq]
 exact(Z0h hl).bind fun c hc=>(Z0f hc).bind fun y2 h2=>(QS (hc.re h2.1)).bind fun y3 h3=>(Z0g (hc.re h3.1) _).bind fun y4 h4=>Ok.ret ⟨h2.2,h3.2⟩
theorem Z2S {code:List Int}(hl:code.length≤1050000):Ok (Zv code) (fun r=>kB (Um r)):=by
 unfold Zv Zv.b
 refine(Z0h hl).bind fun c hc=>(Z0f hc).bind fun y2 h2=> ?_
 unfold Zv.l7 Zv.g7 Zv.h7_0 Zv.h7_1 Zv.h7_2 Zv.h7_3 Zv.h7_4
 simp only[both_eq]
 exact(YY (hc.re h2.1) 4).bind fun y3 h3=>(Uq (hc.re h3.1) (by decide)).bind fun y4 h4=>Ok.ret h2.2
theorem Z2T {code:List Int}(hl:code.length≤1050000):Ok (YP code) (fun r=>kB (UC r)∧(UU r).1.length≤4∧(Q4 r).1.length≤4):=by
 unfold YP YP.b YP.l19 YP.g19
 simp only[both_eq]
 refine(Z0h hl).bind fun c hc=>(Z0f hc).bind fun y2 h2=>(QS (hc.re h2.1)).bind fun y3 h3=>(Uq (hc.re h3.1) (by decide)).bind fun y4 h4=>(QS (hc.re h4.1)).bind fun y5 h5=>(Qg (hc.re h5.1) 3).bind fun y6 h6=>Ok.ite (fun _=> ?_) fun _=> ?_
 ·exact(Z0g (hc.re h6) _).bind fun y7 h7=>Ok.ret ⟨h2.2,Nat.zero_le _,h5.2⟩
 ·exact(Z0g (hc.re h6) _).bind fun y7 h7=>Ok.ret ⟨h2.2,h3.2,h5.2⟩
def Uv (ks:List Int):Prop:=ks.length≤99∧∀k:Int,1≤k→k≤99→WQ ks k=true
theorem Z2X :∀(n:Nat) (v:Int) (acc:List Int),100-v<(n:Int)→1≤v→v≤100→(acc.length:Int)=v-1→(∀k:Int,1≤k→k<v→WQ acc k=true)→Ok (YE.l6 n v acc) Uv:=by
 intro n
 induction n with
 |zero=>intro v acc h0 h1 h2;omega
 |succ n ih=>
  intro v acc h0 h1 h2 h3 h4
  rw[YE.u6]
  refine Ok.ite (fun h=> ?_) fun h=> ?_
  ·have h:=of_decide_eq_true h
   refine Ok.chk (UV (by omega)) ?_
   rw[show IntKind.i64.wrap (v+(1:Int))=v+1 from w64 (by omega) (by omega)]
   refine ih (v+1) _ (by omega) (by omega) (by omega) (by rw[QB];omega) ?_
   intro k g0 g1
   unfold WQ
   rw[List.any_append]
   by_cases hk:k<v
   ·rw[show(acc.any fun a=>a==k)=true from h4 k g0 hk];rfl
   ·rw[show v=k by omega];simp
  ·have h:=of_decide_eq_false h
   exact Ok.ret ⟨by omega,fun k g0 g1=>h4 k g0 (by omega)⟩
theorem Z2Y :Ok YE Uv:=by
 have hk:=KK_gt (n:=200) (by omega)
 exact Z2X KK 1 [] (by omega) (by omega) (by omega) rfl (fun k h0 h1=>by omega)
theorem Z29 (sk m:List Int):∀(ks:List Int) (acc:List Zb),(∀k∈ks,WQ sk k=true)→Wg sk m ks acc=acc++ks.map (fun k=>(k,UA k m))
 |[],acc,_=>by rw[List.map_nil,List.append_nil];rfl
 |k::ks,acc,h=>by
  show Wg sk m ks (bif WQ sk k then acc++[(k,UA k m)]else acc)=_
  rw[h k (List.mem_cons_self ..),cond_t,Z29 sk m ks _ (fun j hj=>h j (List.mem_cons_of_mem _ hj)),List.map_cons,List.append_assoc]
  rfl
theorem Z2c (m:List Int):∀(ks:List Int) (acc:List Zb),Wg [] m ks acc=acc
 |[],acc=>rfl
 |k::ks,acc=>Z2c m ks acc
theorem Z1t (p:Int→Bool):∀(ks:List Int) (c:Int),(∀k∈ks,p k=true)→U1 p ks c=c+(ks.length:Int)
 |[],c,_=>(Int.add_zero c).symm
 |k::ks,c,h=>by
  show U1 p ks (bif p k then c+1 else c)=_
  rw[h k (List.mem_cons_self ..),cond_t,Z1t p ks _ (fun j hj=>h j (List.mem_cons_of_mem _ hj)),List.length_cons]
  omega
theorem Z1v (p:Int→Bool):∀(ks:List Int) (c:Int),(∀k∈ks,p k=false)→U1 p ks c=c
 |[],c,_=>rfl
 |k::ks,c,h=>by
  show U1 p ks (bif p k then c+1 else c)=_
  rw[h k (List.mem_cons_self ..),cond_f,Z1v p ks _ (fun j hj=>h j (List.mem_cons_of_mem _ hj))]
theorem Z1G (k:Z5)(hx:k.1.length≤1050000)(h:XB k=true):(∀j∈k.1,1≤j∧j≤99)∧1≤k.2∧k.2≤(k.1.length:Int):=by
 obtain⟨s,hs,hS⟩:=Z0s k hx 0 KK (Nat.zero_le _) (KK_gt (by omega))
 have e:ZU k=some s:=hs
 rw[Qk k hx,h]at e
 injection e with e
 obtain⟨h1,h2⟩:=hS.mp e.symm
 refine⟨fun j hj=> ?_,h2.2⟩
 obtain⟨i,hi,rfl⟩:=List.getElem_of_mem hj
 have:=(h1 i hi (Nat.zero_le _)).1
 unfold gk at this
 rw[at_n hi]at this
 exact this
theorem Z37 {ks:List Int}(k:Z5)(h:Z0)(hx:k.1.length≤1050000)(hk:(∀j∈k.1,1≤j∧j≤99)→∀j∈k.1,WQ ks j=true):XV (Q0 ks k h) k=XB k:=by
 unfold XV Qa
 cases hb:XB k with
 |false=>rfl
 |true=>
  obtain⟨h1,h2,h3⟩:=Z1G k hx hb
  rw[Bool.true_and]
  apply decide_eq_true
  show U1 (Uh (Wg ks (XM h) k.1 []) (XM h)) k.1 0≥k.2
  rw[Z29 _ _ _ _ (hk h1),Z1t _ _ _ ?_]
  ·omega
  ·intro j hj
   unfold Uh
   rw[List.nil_append,List.any_eq_true]
   refine⟨(j,UA j (XM h)),List.mem_map.2 ⟨j,hj,rfl⟩,?_⟩
   unfold UL UP
   simp only[beq_self_eq_true,Bool.and_true,Bool.true_and,decide_eq_true (h1 j hj).1,decide_eq_true (h1 j hj).2]
theorem Z2y {ks:List Int}(hk:Uv ks)(k:Z5)(h:Z0)(hx:k.1.length≤1050000):XV (Q0 ks k h) k=XB k:=
 Z37 k h hx (fun h1 j hj=>hk.2 j (h1 j hj).1 (h1 j hj).2)
theorem Z4i (k:Z5)(h:Z0)(hx:k.1.length≤1050000):XV (Q0 [] k h) k=false:=by
 unfold XV Qa
 cases hb:XB k with
 |false=>rfl
 |true=>
  obtain⟨h1,h2,h3⟩:=Z1G k hx hb
  rw[Bool.true_and]
  apply decide_eq_false
  show¬U1 (Uh (Wg [] (XM h) k.1 []) (XM h)) k.1 0≥k.2
  rw[Z2c,Z1v (Uh [] (XM h)) _ _ (fun j hj=>rfl)]
  omega
noncomputable def UF (p h:Z0):Int:=bif ZH h==(2:Int)then UN p h else bif ZH h==(3:Int)then UQ p h else Qh p h
theorem Z1I (p h:Z0)(ks:List Int):Qz p (XS p h ks)=Ua (UF p h) (XV (XS p h ks) (Ur p h)):=by
 have e:Zf (XS p h ks)=h:=rfl
 unfold Qz UF Ur
 rw[e]
 cases(ZH h==(2:Int))<;>cases(ZH h==(3:Int))<;>rfl
theorem Z0Y {p h:Z0}{ks:List Int}(hk:Uv ks)(hp:Zg p≤1050000)(h1:Zn p=true)(h2:Zn h=true)(h3:UO p h=true)(h4:XB (Ur p h)=true):Ww p (XS p h ks)=(UF p h==(1:Int)):=by
 have e:Zf (XS p h ks)=h:=rfl
 have hl:=Z1e p h
 unfold Ww Uy
 rw[Z1I,e,h1,h2,h3,show XV (XS p h ks) (Ur p h)=true from(Z2y hk _ h (by omega)).trans h4]
 show(Ua (UF p h) true==(1:Int))=_
 unfold Ua
 cases hc:(UF p h==(1:Int))with
 |true=>rw[cond_t,cond_t];exact hc
 |false=>rw[cond_f];exact hc
theorem Z49 {p h:Z0}(hp:Zg p≤1050000):Ww p (XS p h [])=false:=by
 have hl:=Z1e p h
 unfold Ww Uy
 rw[Z1I,show XV (XS p h []) (Ur p h)=false from Z4i _ h (by omega)]
 cases(Zn p&&Zn (Zf (XS p h [])))with
 |false=>rfl
 |true=>
  cases UO p (Zf (XS p h []))with
  |false=>rfl
  |true=>
   show(Ua (UF p h) false==(1:Int))=false
   unfold Ua
   cases hc:(UF p h==(1:Int))with
   |true=>rfl
   |false=>rw[cond_f];exact hc
theorem Z0N {x:Z0}(h:Zn x=true):XB (Zp x)=true∧(X7 (Ze x)=false→XB (Ze x)=true)∧(X7 (Zk x)=false→XB (Zk x)=true):=by
 unfold Zn Qc at h
 simp only[Bool.and_eq_true]at h
 obtain⟨_,_,_,h1,h2,h3⟩:=h
 refine⟨h1,fun hn=> ?_,fun hn=> ?_⟩
 ·rw[hn,cond_f,Bool.and_eq_true]at h2
  exact h2.1
 ·rw[hn,Bool.false_and,Bool.or_false]at h3
  exact h3
theorem Z11 {x:Z0}{a b:Int}(h:YQ x a b=true):Zr x≤a:=by
 unfold YQ ZB at h
 simp only[Bool.and_eq_true,decide_eq_true_eq]at h
 exact h.2.1.1
theorem Z0P {p h:Z0}{k a b:Int}(ht:Zr p≤a)(e1:ZF h=ZF p)(e2:Zz h=IntKind.i64.wrap (Zz p+1))(e3:Yq h=WR p)(e4:Zr h=a):UO p h=true:=by
 unfold UO
 rw[e1,e2,e3,e4]
 simp only[beq_self_eq_true,Bool.true_and,decide_eq_true_eq]
 exact ht
theorem Z4s {p h:Z0}{ks:List Int}{a b:Int}(hk:Uv ks)(hp:Zg p≤1050000)(hg:YQ p a b=true)(h2:Zn h=true)(e1:ZF h=ZF p)(e2:Zz h=IntKind.i64.wrap (Zz p+1))(e3:Yq h=WR p)(e4:Zr h=a)(e5:ZH h=1)(e6:Zj h=Zj p):Ww p (XS p h ks)= !Zj p:=by
 have hb:=Z10 hg
 rw[Z0Y hk hp hb h2 (Z0P (k:=1) (b:=b) (Z11 hg) e1 e2 e3 e4) (by unfold Ur;rw[e5];exact(Z0N hb).1)]
 unfold UF Qh
 rw[e5,e6]
 cases Zj p<;>rfl
theorem Z12 (p:Z0)(k a b:Int):ZF (Zt p k a b)=ZF p∧Zz (Zt p k a b)=IntKind.i64.wrap (Zz p+1)∧Yq (Zt p k a b)=WR p∧Zr (Zt p k a b)=a∧ZH (Zt p k a b)=k∧Zj (Zt p k a b)=Zj p:=by
 unfold Zt Uz
 generalize WR p=d
 generalize IntKind.i64.wrap (Zz p+1)=e
 generalize IntKind.i64.wrap (a+b)=u
 exact⟨rfl,rfl,rfl,rfl,rfl,rfl⟩
def QZ (x y:Z0):Prop:=ZF x=ZF y∧Zz x=Zz y∧Yq x=Yq y∧Zr x=Zr y∧ZH x=ZH y∧Zj x=Zj y
theorem Z14 {p h:Z0}{ks:List Int}{a b:Int}(hk:Uv ks)(hp:Zg p≤1050000)(hg:YQ p a b=true)(h2:Zn h=true)(hs:QZ h (Zt p 1 a b)):Ww p (XS p h ks)= !Zj p:=by
 obtain⟨e1,e2,e3,e4,e5,e6⟩:=Z12 p 1 a b
 obtain⟨f1,f2,f3,f4,f5,f6⟩:=hs
 exact Z4s hk hp hg h2 (f1.trans e1) (f2.trans e2) (f3.trans e3) (f4.trans e4) (f5.trans e5) (f6.trans e6)
theorem Z5b (h:Z0)(n r:Int):QZ (setC h n r) h:=⟨rfl,rfl,rfl,rfl,rfl,rfl⟩
theorem Z5d (h:Z0)(k:Z5):QZ (Ue h k) h:=⟨rfl,rfl,rfl,rfl,rfl,rfl⟩
theorem Z5f (i j:Z5)(w:Int)(h:Z0):QZ (Uf i w j h) h:=⟨rfl,rfl,rfl,rfl,rfl,rfl⟩
theorem Z05 (h:Z0)(k:Z5):QZ (XL h k) h:=⟨rfl,rfl,rfl,rfl,rfl,rfl⟩
theorem Z2F {p:Z0}{xs:List Z4}{a b:Int}{ks:List Int}(hk:Uv ks)(hp:Zg p≤12)(h:X6 (Ug p xs a b)=true):Zg (Zc (Ug p xs a b))≤12∧Ww p (XS p (Zc (Ug p xs a b)) ks)= !Zj p:=by
 have hr:=QF (Ut xs&&(YQ p a b&&(Zn (Zt p 1 a b)&&Zn (Ul xs (Zt p 1 a b))))) (Ul xs (Zt p 1 a b))
 have hc:=hr.1.symm.trans h
 rw[show Zc (Ug p xs a b)=Ul xs (Zt p 1 a b)from hr.2 hc]
 simp only[Bool.and_eq_true]at hc
 exact⟨Nat.le_trans (Nat.le_of_eq (setC_size _ _ _)) hp,Z14 hk (by omega) hc.2.1 hc.2.2.2 (Z5b _ _ _)⟩
theorem Z4u {p:Z0}{k:Z5}{a b:Int}{ks:List Int}(hk:Uv ks)(hp:Zg p≤12)(hkl:k.1.length≤4)(h:X6 (Uk p k a b)=true):Zg (Zc (Uk p k a b))≤12∧Ww p (XS p (Zc (Uk p k a b)) ks)= !Zj p∧Zp (Zc (Uk p k a b))=k:=by
 have hr:=QF (YQ p a b&&(Zn (Zt p 1 a b)&&Zn (Ue (Zt p 1 a b) k))) (Ue (Zt p 1 a b) k)
 have hc:=hr.1.symm.trans h
 rw[show Zc (Uk p k a b)=Ue (Zt p 1 a b) k from hr.2 hc]
 simp only[Bool.and_eq_true]at hc
 exact⟨Q9 _ (Z1c p k _ rfl (by omega)) hc.2.2,Z14 hk (by omega) hc.1 hc.2.2 (Z5d _ _),rfl⟩
theorem Z4a {p:Z0}{i j:Z5}{w a b:Int}{ks:List Int}(hk:Uv ks)(hp:Zg p≤12)(hi:i.1.length≤4)(hj:j.1.length≤4)(h:X6 (UK p i w j a b)=true):Zg (Zc (UK p i w j a b))≤12∧Ww p (XS p (Zc (UK p i w j a b)) ks)= !Zj p∧Ze (Zc (UK p i w j a b))=i:=by
 have hr:=QF (YQ p a b&&(Zn (Zt p 1 a b)&&Zn (Uf i w j (Zt p 1 a b)))) (Uf i w j (Zt p 1 a b))
 have hc:=hr.1.symm.trans h
 rw[show Zc (UK p i w j a b)=Uf i w j (Zt p 1 a b)from hr.2 hc]
 simp only[Bool.and_eq_true]at hc
 exact⟨Q9 _ (Z1d p i w j _ rfl (by omega)) hc.2.2,Z14 hk (by omega) hc.1 hc.2.2 (Z5f _ _ _ _),rfl⟩
theorem Z5c (f:Bool)(k:Z5)(h:Z0):ZF (XC f k h)=ZF h∧Zz (XC f k h)=Zz h∧Yq (XC f k h)=Yq h∧Zr (XC f k h)=Zr h∧ZH (XC f k h)=ZH h∧Ud (XC f k h) h=true∧Zk (XC f k h)=Zk h∧Ze (XC f k h)=Ze h∧Zx (XC f k h)=Zx h∧Zj (XC f k h)= !f∧(f=false→Zp (XC f k h)=Zp h):=by
 have hs:∀x:Z0,ZO x=ZO h→ZP x=ZP h→Ud x h=true:=by
  intro x h1 h2
  unfold Ud
  rw[h1,h2,beq_self_eq_true,beq_self_eq_true];rfl
 cases f with
 |true=>exact⟨rfl,rfl,rfl,rfl,rfl,hs _ rfl rfl,rfl,rfl,rfl,rfl,fun h=>by cases h⟩
 |false=>exact⟨rfl,rfl,rfl,rfl,rfl,hs _ rfl rfl,rfl,rfl,rfl,rfl,fun _=>rfl⟩
theorem Z3M {p h:Z0}(hn:X7 (Zk p)=false)(h1:Ud h p=true)(h2:Zk h=Zk p)(h3:Ze h=Ze p)(h4:Zx h=Zx p)(h5:Zj h= !Zj p)(h6:Zj p=false→Zp h=Zp p):UQ p h=1:=by
 unfold UQ
 rw[hn,h1,h2,h3,h4,h5]
 cases hf:Zj p with
 |true=>simp
 |false=>simp[h6 hf]
theorem Z3N {p:Z0}{k:Z5}{a b:Int}{ks:List Int}(hk:Uv ks)(hp:Zg p≤12)(hkl:k.1.length≤4)(h:X6 (Uw p k a b)=true):Zg (Zc (Uw p k a b))≤12∧Ww p (XS p (Zc (Uw p k a b)) ks)=true:=by
 have hr:=QF (!X7 (Zk p)&&(YQ p a b&&(Zn (Zt p 3 a b)&&Zn (XC (Zj p) k (Zt p 3 a b))))) (XC (Zj p) k (Zt p 3 a b))
 have hc:=hr.1.symm.trans h
 rw[show Zc (Uw p k a b)=XC (Zj p) k (Zt p 3 a b)from hr.2 hc]
 simp only[Bool.and_eq_true,Bool.not_eq_true']at hc
 obtain⟨hn,hg,_,hb⟩:=hc
 have hpb:=Z10 hg
 refine⟨Q9 _ (Z1b p _ k _ rfl (by omega)) hb,?_⟩
 obtain⟨e1,e2,e3,e4,e5,e6,e7,e8,e9,e10,e11⟩:=Z5c (Zj p) k (Zt p 3 a b)
 obtain⟨g1,g2,g3,g4,g5,g6⟩:=Z12 p 3 a b
 have e5:ZH (XC (Zj p) k (Zt p 3 a b))=3:=e5.trans g5
 rw[Z0Y hk (by omega) hpb hb (Z0P (k:=1) (b:=b) (Z11 hg) (e1.trans g1) (e2.trans g2) (e3.trans g3) (e4.trans g4)) ?_]
 ·unfold UF
  rw[e5]
  show(UQ p _==(1:Int))=true
  rw[Z3M hn (by rw[←e6];rfl) (e7.trans rfl) (e8.trans rfl) (e9.trans rfl) e10 (fun hf=>(e11 hf).trans rfl)]
  rfl
 ·unfold Ur
  rw[e5]
  exact(Z0N hpb).2.2 hn
theorem Z2I {p:Z0}{a b:Int}{ks:List Int}(hk:Uv ks)(hp:Zg p≤12)(h:X6 (U0 p a b)=true):Zg (Zc (U0 p a b))≤12∧Ww p (XS p (Zc (U0 p a b)) ks)=true:=by
 unfold U0 at h⊢
 cases hg:(Un p a&&(YQ p a b&&Zn (Zt p 2 a b)))with
 |false=>rw[hg,cond_f,(Qm _ _).2]at h;cases h
 |true=>
  rw[hg,cond_t]at h
  rw[cond_t]
  unfold WN at h⊢
  cases hb:Zn (XL (Zt p 2 a b) (Ze p))with
  |false=>rw[hb,cond_f,(Qm _ _).2]at h;cases h
  |true=>
   rw[cond_t,(Qm _ _).1]
   simp only[Bool.and_eq_true]at hg
   obtain⟨hc,hG,_⟩:=hg
   unfold Un Z04 at hc
   simp only[Bool.and_eq_true,Bool.not_eq_true',decide_eq_true_eq]at hc
   obtain⟨hpb,hf,hn,hw⟩:=hc
   have hz:=Z2G p (IntKind.i64.wrap (Zz p+1)) 2 a (WR p) (IntKind.i64.wrap (a+b)) (by omega)
   obtain⟨g1,g2,g3,g4,g5,g6⟩:=Z12 p 2 a b
   refine⟨Q9 _ (show Zg (XL (Zt p 2 a b) (Ze p))≤1050000 from ?_) hb,?_⟩
   ·rw[Z1q]
    have:Zg (Zt p 2 a b)=Zg p:=Z1V ..
    unfold Zg XE at this hp
    omega
   ·rw[Z0Y hk (by omega) hpb hb (Z0P (k:=1) (b:=b) (Z11 hG) ((Z05 _ _).1.trans g1) ((Z05 _ _).2.1.trans g2) ((Z05 _ _).2.2.1.trans g3) ((Z05 _ _).2.2.2.1.trans g4)) ?_]
    ·have e:UN p (XL (Zt p 2 a b) (Ze p))=1:=by
      have e1:Zr (XL (Zt p 2 a b) (Ze p))=a:=rfl
      have e2:Zj (XL (Zt p 2 a b) (Ze p))=Zj p:=rfl
      have e3:Zp (XL (Zt p 2 a b) (Ze p))=Ze p:=rfl
      have e4:Ud (XL (Zt p 2 a b) (Ze p)) p=true:=by
       have q1:ZO (XL (Zt p 2 a b) (Ze p))=ZO p:=rfl
       have q2:ZP (XL (Zt p 2 a b) (Ze p))=ZP p:=rfl
       unfold Ud
       rw[q1,q2,beq_self_eq_true,beq_self_eq_true];rfl
      unfold UN Z0j
      rw[e1,e2,e3,e4,hf,hn,decide_eq_false (show¬a<IntKind.i64.wrap (ZV p+Zx p) by omega)]
      simp
     unfold UF
     show(UN p _==(1:Int))=true
     rw[e];rfl
    ·exact(Z0N hpb).2.1 hn
theorem Qs {p h:Z0}{ks:List Int}(hks:ks.length≤99)(hp:Zg p≤12)(hh:Zg h≤12){f:Bool→Option Bool}{v:Option Bool}(hf:f (Ww p (XS p h ks))=v):((Y4 p h ks).bind fun s=>(X2 p s).bind f)=v:=by
 have:=Z5j p h ks
 exact Zh (Z3E p h ks (by omega) (by omega) (by omega)) (Zh (Z3u p _ (by omega) (by omega)) hf)
theorem Z13 (b:Bool):((!b)==b)=false:=by cases b<;>rfl
theorem pure_FnActs (x0:List Int):Zl x0=some true:=by
 unfold Zl Zl.b
 refine Zh rfl ?_
 by_cases hb:(x0.length:Int)>1048576
 ·exact cT (decide_eq_true hb) rfl
 refine cF (decide_eq_false hb) ?_
 have hc:x0.length≤1050000:=by omega
 obtain⟨ks,hks,hK⟩:=Z2Y
 obtain⟨y3,h3,k3,z3⟩:=Z2R hc
 have p3:=Qb k3
 have tail57:∀(a b c d e:Z7),Zl.l57 a b c d e a b c d e=some true:=by
  intro a b c d e
  unfold Zl.l57 Zl.g57
  simp only[beq_self_eq_true,cond_t]
 obtain⟨y7,h7,k7,z7⟩:=Z2U hc
 have p7:=Qb k7
 obtain⟨y15,h15,k15⟩:=Z2S hc
 have p15:=Qb k15
 obtain⟨y21,h21,k21,z21,w21⟩:=Z2T hc
 have p21:=Qb k21
 have name:Zl.l39 x0 ks y3 (Ug (U8 y3) (Us y3) (UD y3) (UE y3)) y7 (Uk (XY y7) (WO y7) (U6 y7) (U7 y7)) (Uw (XY y7) (WO y7) (U6 y7) (U7 y7)) y15 (U0 (Um y15) (Q2 y15) (Q3 y15))=some true:=by
  unfold Zl.l39 Zl.g39
  refine Zh h21 (Zh (Z3v _ _ _ _ _ _ (by omega) (by omega) (by omega) (by omega)) (Zh (Z4y _ _ _ _ (by omega) (by omega)) (Zh (Z55 _ _ _ _ (by omega) (by omega) (by omega)) (Zh (Z4S _ _ _ _ (by omega) (by omega) (by omega)) (Zh (Z4z _ _ _ (by omega)) (Zh (Z50 _ _ _ _ _ _ (by omega) (by omega) (by omega) (by omega)) ?_))))))
  cases hr:X6 (UK (UC y21) (UU y21) (Qo y21) (Q4 y21) (Qp y21) (Qq y21))with
  |false=>rw[cond_f];exact tail57 _ _ _ _ _
  |true=>
   obtain⟨m1,m2,m3⟩:=Z4a hK p21 z21 w21 hr
   rw[cond_t]
   refine Qs hK.1 p21 m1 ?_
   rw[m2,Z13,cond_f,m3]
   refine Zh (Ql _ _ (by omega)) ?_
   rw[decide_eq_true rfl]
   exact cF rfl (tail57 _ _ _ _ _)
 have claim:Zl.l31 x0 ks y3 (Ug (U8 y3) (Us y3) (UD y3) (UE y3)) y7 (Uk (XY y7) (WO y7) (U6 y7) (U7 y7)) (Uw (XY y7) (WO y7) (U6 y7) (U7 y7))=some true:=by
  unfold Zl.l31 Zl.g31
  refine Zh h15 (Zh (Z3c _ _ _ (by omega)) ?_)
  cases hr:X6 (U0 (Um y15) (Q2 y15) (Q3 y15))with
  |false=>rw[cond_f];exact name
  |true=>
   obtain⟨m1,m2⟩:=Z2I hK p15 hr
   rw[cond_t]
   refine Qs hK.1 p15 m1 ?_
   rw[m2]
   refine cF rfl (Qs (Nat.zero_le _) p15 m1 ?_)
   rw[Z49 (by omega),cond_f]
   exact name
 have judge:Zl.l25 x0 ks y3 (Ug (U8 y3) (Us y3) (UD y3) (UE y3)) y7 (Uk (XY y7) (WO y7) (U6 y7) (U7 y7))=some true:=by
  unfold Zl.l25 Zl.g25
  refine Zh (Z3o _ _ _ _ (by omega) (by omega) (by omega)) ?_
  cases hr:X6 (Uw (XY y7) (WO y7) (U6 y7) (U7 y7))with
  |false=>rw[cond_f];exact claim
  |true=>
   obtain⟨m1,m2⟩:=Z3N hK p7 z7 hr
   rw[cond_t]
   refine Qs hK.1 p7 m1 ?_
   rw[m2]
   exact cF rfl claim
 have rotate:Zl.l17 x0 ks y3 (Ug (U8 y3) (Us y3) (UD y3) (UE y3))=some true:=by
  unfold Zl.l17 Zl.g17
  refine Zh h7 (Zh (Z3B _ _ _ _ (by omega) (by omega) (by omega)) ?_)
  cases hr:X6 (Uk (XY y7) (WO y7) (U6 y7) (U7 y7))with
  |false=>rw[cond_f];exact judge
  |true=>
   obtain⟨m1,m2,m3⟩:=Z4u hK p7 z7 hr
   rw[cond_t]
   refine Qs hK.1 p7 m1 ?_
   rw[m2,Z13,cond_f,m3]
   refine Zh (Ql _ _ (by omega)) ?_
   rw[decide_eq_true rfl]
   exact cF rfl judge
 refine Zh hks (Zh h3 (Zh (Z3b _ _ _ _ (by omega) (by omega)) ?_))
 cases hr:X6 (Ug (U8 y3) (Us y3) (UD y3) (UE y3))with
 |false=>rw[cond_f];exact rotate
 |true=>
  obtain⟨m1,m2⟩:=Z2F hK p3 hr
  rw[cond_t]
  refine Qs hK.1 p3 m1 ?_
  rw[m2,Z13,cond_f]
  exact rotate

end Go.Proofs.YtcbeaoigenjoeabGreat
