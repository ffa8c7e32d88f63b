/- The plain law of FnPublished: what the printed functions compute is true, for all data in range. -/
import Derived.Test.YtkadeffepgcceadGreatFnPublishedPure0
namespace Go.Proofs.YtkadeffepgcceadGreat
open V
set_option linter.unusedVariables false
set_option linter.unusedSimpArgs false
set_option maxHeartbeats 1000000
theorem Zf {α β:Type}{e:Option α}{a:α}{f:α→Option β}{r:Option β}(h:e=some a)(hf:f a=r):e.bind f=r:=by rw[h,bind_s];exact hf
theorem cF {α:Type}{c:Bool}{a b r:α}(h:c=false)(hb:b=r):(bif c then a else b)=r:=by rw[h,cond_f];exact hb
theorem cT {α:Type}{c:Bool}{a b r:α}(h:c=true)(ha:a=r):(bif c then a else b)=r:=by rw[h,cond_t];exact ha
theorem Z62 {α:Type}[BEq α][ReflBEq α](a:α):(!(a==a))=false:=by rw[beq_self_eq_true];rfl
def UH {α:Type}(p:α→Bool):List α→Int→Int
 |[],_=> -1
 |x::xs,k=>bif p x then k else UH p xs (k+1)
theorem Z2J {α:Type}(p:α→Bool)(x:α)(xs:List α)(k:Int):UH p (x::xs) k=bif p x then k else UH p xs (k+1):=rfl
theorem Z1D {α:Type}(p:α→Bool){xs:List α}{i:Nat}(h:i<xs.length):UH p (xs.drop i) (i:Int)=bif p xs[i]then(i:Int)else UH p (xs.drop (i+1)) ((i+1:Nat):Int):=by
 rw[List.drop_eq_getElem_cons h,Z2J];rfl
theorem Z1C {α:Type}(p:α→Bool)(xs:List α)(k:Int):UH p (xs.drop xs.length) k= -1:=by
 rw[List.drop_length];rfl
theorem Z1B {α:Type}(p:α→Bool)(xs:List α):∀k:Int,0≤k→decide (UH p xs k≥0)=xs.any p:=by
 induction xs with
 |nil=>intro k hk;rfl
 |cons x t ih=>
  intro k hk
  rw[Z2J,List.any_cons]
  cases p x with
  |true=>rw[cond_t,Bool.true_or];exact decide_eq_true hk
  |false=>rw[cond_f,Bool.false_or];exact ih _ (by omega)
def all2 {α β:Type}(g:α→β→Bool):List α→List β→Bool
 |x::xs,y::ys=>g x y&&all2 g xs ys
 |_,_=>true
theorem Z2k {α β:Type}(g:α→β→Bool){xs:List α}{ys:List β}{i:Nat}(h:i<xs.length)(h':i<ys.length):all2 g (xs.drop i) (ys.drop i)=(g xs[i] ys[i]&&all2 g (xs.drop (i+1)) (ys.drop (i+1))):=by
 rw[List.drop_eq_getElem_cons h,List.drop_eq_getElem_cons h'];rfl
theorem Z4a {α β:Type}(g:α→β→Bool)(xs:List α)(ys:List β):all2 g (xs.drop xs.length) ys=true:=by
 rw[List.drop_length];rfl
def UQ {α:Type}(g:α→α→Bool)(xs ys:List α):Bool:=decide (xs.length=ys.length)&&all2 g xs ys
theorem Z1z {α:Type}(xs ys:List α)(d:α)(f:α→α→Option Bool)(g:α→α→Bool)(hl:xs.length≤1050000)(hf:∀i (h:i<xs.length) (h':i<ys.length),f xs[i] ys[i]=some (g xs[i] ys[i]))(l:Nat→Int→Option Bool)(u:∀n a,l (n+1) a=(bif decide (a<(xs.length:Int))then bif decide (0≤a)then bif decide (a<(xs.length:Int))then bif decide (0≤a)then bif decide (a<(ys.length:Int))then(f (xs.getD a.toNat d) (ys.getD a.toNat d)).bind fun y1=>bif !y1 then some false else l n (IntKind.i64.wrap (a+(1:Int)))else none else none else none else none else some true)):(bif(xs.length:Int) !=(ys.length:Int)then some false else l KK (0:Int))=some (UQ g xs ys):=by
 unfold UQ
 by_cases hq:xs.length=ys.length
 ·have hh:∀i n,i≤xs.length→xs.length-i<n→l n (i:Int)=some (all2 g (xs.drop i) (ys.drop i)):=by
   refine idx_ind ?_ ?_
   ·intro n
    rw[u]
    simp only[lt_f (Nat.le_refl _),cond_f,Z4a]
   ·intro i n hi ih
    have hi':i<ys.length:=by omega
    rw[u]
    simp only[lt_t hi,lt_t hi',ge_t,cond_t,Int.toNat_natCast,at_n hi,at_n hi',hf i hi hi',bind_s,w64_succ (i:=i) (by omega),ih,Z2k g hi hi']
    cases g xs[i] ys[i]<;>rfl
  rw[len_eq hq,cond_f,decide_eq_true hq,Bool.true_and]
  have:=hh 0 KK (Nat.zero_le _) (KK_gt (by omega))
  rw[List.drop_zero,List.drop_zero]at this
  exact this
 ·rw[len_ne hq,cond_t,decide_eq_false hq,Bool.false_and]
theorem Qg (a b c:Int):Yj a b c=some (decide (b≤a)&&decide (a≤c)):=by
 show(bif decide (b≤a)then some (decide (a≤c))else some false)=_
 cases decide (b≤a)<;>rfl
theorem Q6 (a b c:Int):YD a b c=some (decide (b≤a)&&decide (a≤c)):=by
 show(bif decide (b≤a)then some (decide (a≤c))else some false)=_
 cases decide (b≤a)<;>rfl
def YO {α:Type}(size:α→Nat)(xs:List α):Nat:=xs.length+(xs.map size).sum
theorem Z0i {α:Type}(size:α→Nat){xs:List α}{i:Nat}(h:i<xs.length):size xs[i]≤(xs.map size).sum:=by
 induction xs generalizing i with
 |nil=>simp at h
 |cons x t ih=>
  rw[List.map_cons,List.sum_cons]
  cases i with
  |zero=>show size x≤_;omega
  |succ i=>
   have hi:i<t.length:=by simpa using h
   have:=ih hi
   show size t[i]≤_
   omega
theorem wd {n:Int}(h:0≤n∧n≤4611686018427387904):IntKind.i64.wrap n=n:=w64 (by omega) (by omega)
def XL (x:ByteArray):Nat:=x.size
def Xj (xs:List ByteArray):Nat:=YO XL xs
def WK (x:Zc):Nat:=x.1.length
def ZD (x:Z6):Nat:=WK (Z8 x)+(WK (Z7 x)+(WK (Z9 x)))
def X2 (x:Z5):Nat:=ZD (Ze x)+((W3 x).length)
def YQ (xs:List Z5):Nat:=YO X2 xs
def Yp (x:Z4):Nat:=XL x.1+(Xj x.2.2.2)
def Zx (xs:List Z4):Nat:=YO Yp xs
def Xh (x:Zt):Nat:=YQ x.1+(Zx x.2)
theorem Z44 (n:Int)(h0:0≤n)(h1:n<68719476736):YR [] n=some []:=by
 have e0:IntKind.i64.wrap ((0:Int)-((0:Nat):Int))=0:=w64 (by omega) (by omega)
 have e1:IntKind.i64.wrap (n-0)=n:=by rw[w64 (by omega) (by omega)];omega
 unfold YR
 simp only[YR.b,YR.l7,YR.g7,e0,e1]
 rw[decide_eq_false (by omega),cond_f]
 by_cases h:n>0
 ·rw[decide_eq_true h,cond_t,decide_eq_true (by omega),cond_t,decide_eq_true h1,cond_t,decide_eq_true (by omega),cond_t,decide_eq_true (by omega),cond_t,decide_eq_true (by omega),cond_t]
  simp
 ·rw[decide_eq_false h,cond_f]
theorem Z3Y (x0:List (List Int))(hl:x0.length<1152921504606846976):∀i n,i≤x0.length→x0.length-i<n→∀acc:List Int,acc.length+(x0.drop i).flatten.length<68719476736→ZE.l22 x0 n (x0.length:Int) (i:Int) acc=some (acc++(x0.drop i).flatten):=by
 refine idx_ind ?_ ?_
 ·intro n acc ha
  rw[ZE.u22]
  simp only[ZE.g22,lt_f (Nat.le_refl _),cond_f,List.drop_length,List.flatten_nil,List.append_nil]
 ·intro i n hi ih acc ha
  rw[List.drop_eq_getElem_cons hi,List.flatten_cons]at ha⊢
  rw[List.length_append]at ha
  rw[ZE.u22]
  simp only[ZE.g22,lt_t hi,ge_t,cond_t,w64_succ (i:=i) (by omega),Int.toNat_natCast,at_n hi]
  rw[decide_eq_true (by omega),cond_t,ih _ (by rw[List.length_append];omega),List.append_assoc]
theorem Z3Z (x0:List (List Int))(hl:x0.length<1152921504606846976)(hf:x0.flatten.length<68719476736):∀i n,i≤x0.length→x0.length-i<n→∀s:Int,0≤s→s+(x0.drop i).flatten.length<68719476736→ZE.l6 x0 n s (x0.length:Int) (i:Int)=some x0.flatten:=by
 refine idx_ind ?_ ?_
 ·intro n s h0 ha
  rw[ZE.u6]
  rw[List.drop_length,List.flatten_nil]at ha
  simp only[ZE.g6,lt_f (Nat.le_refl _),cond_f]
  rw[Z44 s h0 (by simpa using ha),bind_s]
  have:=Z3Y x0 hl 0 KK (Nat.zero_le _) (KK_gt (by omega)) [] (by simpa using hf)
  simpa using this
 ·intro i n hi ih s h0 ha
  rw[List.drop_eq_getElem_cons hi,List.flatten_cons,List.length_append]at ha
  rw[ZE.u6]
  simp only[ZE.g6,lt_t hi,ge_t,cond_t,w64_succ (i:=i) (by omega),Int.toNat_natCast,at_n hi]
  rw[w64 (n:=s+(x0[i].length:Int)) (by omega) (by omega),decide_eq_false (by omega),cond_f,ih _ (by omega) (by omega)]
theorem Z2d (x0:List (List Int))(hl:x0.length<1152921504606846976)(hf:x0.flatten.length<68719476736):ZE x0=some x0.flatten:=by
 have:=Z3Z x0 hl hf 0 KK (Nat.zero_le _) (KK_gt (by omega)) 0 (Int.le_refl 0) (by rw[List.drop_zero,Int.zero_add];omega)
 exact this
theorem Z49 (a b:Int):Uh a b=WA a b:=by
 unfold Uh WA
 rw[Qg,Q6]
def Z20 (a:Int):Int:=Int.tmod (IntKind.i64.wrap (Int.tmod a 2147483647+2147483647)) 2147483647
theorem Z2f (a:Int):WA a 2147483647=some (Z20 a):=by
 unfold WA Z20
 rw[Q6,bind_s]
 rw[decide_eq_true (by omega),decide_eq_true (by omega),Bool.and_self,Bool.not_true,cond_f]
 rw[show((2147483647:Int)==0)=false from by decide,cond_f,cond_f]
def QH (h a:Int):Int:=Int.tmod (IntKind.i64.wrap ((IntKind.i64.wrap ((IntKind.i64.wrap (h*(1000003:Int)))+Z20 a))+(13:Int))) (2147483647:Int)
theorem Z6z (x0:List Int)(hx:x0.length≤1152921504606846976):∀i n,i≤x0.length→x0.length-i<n→∀h:Int,ZM.l6 x0 n h (i:Int)=some ((x0.drop i).foldl QH h):=by
 refine idx_ind ?_ ?_
 ·intro n h
  rw[ZM.u6]
  simp only[ZM.g6,lt_f (Nat.le_refl _),cond_f,List.drop_length,List.foldl_nil]
 ·intro i n hi ih h
  rw[List.drop_eq_getElem_cons hi,List.foldl_cons]
  rw[ZM.u6]
  simp only[ZM.g6,lt_t hi,ge_t,cond_t,bind_s,w64_succ (i:=i) (by omega),Int.toNat_natCast,at_n hi,Z49,Z2f]
  rw[show((2147483647:Int)==0)=false from by decide,cond_f,ih]
  rfl
theorem Z52 (x0:List Int)(hx:x0.length≤1152921504606846976):∀i n,i≤x0.length→x0.length-i<n→∀h:Int,ZP.l6 x0 n h (x0.length:Int) (i:Int)=some ((x0.drop i).foldl QH h):=by
 refine idx_ind ?_ ?_
 ·intro n h
  rw[ZP.u6]
  simp only[ZP.g6,lt_f (Nat.le_refl _),cond_f,List.drop_length,List.foldl_nil]
 ·intro i n hi ih h
  rw[List.drop_eq_getElem_cons hi,List.foldl_cons]
  rw[ZP.u6]
  simp only[ZP.g6,lt_t hi,ge_t,cond_t,bind_s,w64_succ (i:=i) (by omega),Int.toNat_natCast,at_n hi,Z2f]
  rw[show((2147483647:Int)==0)=false from by decide,cond_f,ih]
  rfl
theorem Z03 (x0:List Int)(hx:x0.length≤1152921504606846976):ZM x0=some (x0.foldl QH 11):=by
 have:=Z6z x0 hx 0 KK (Nat.zero_le _) (KK_gt (by omega)) 11
 rw[List.drop_zero]at this
 exact this
theorem Z0A (x0:List Int)(hx:x0.length≤1152921504606846976):ZP x0=some (x0.foldl QH 11):=by
 have:=Z52 x0 hx 0 KK (Nat.zero_le _) (KK_gt (by omega)) 11
 rw[List.drop_zero]at this
 exact this
def WB (k:Zc):List Int:=[k.2,(k.1.length:Int)]++k.1
theorem Z0d (k:Zc):(WB k).length=k.1.length+2:=by unfold WB;simp
theorem Z1n (k:Zc)(h:k.1.length≤1050000):XS k=some (WB k):=by
 unfold XS WB
 rw[decide_eq_true (by simp;omega),cond_t]
theorem Z15 (k:Zc)(h:k.1.length≤1050000):XQ k=some (WB k):=by
 unfold XQ WB
 rw[decide_eq_true (by simp;omega),cond_t]
def UI (x0:Z6):List Int:=[(Zn x0),(Zm x0),(Zk x0),(Za x0),(Zl x0),(Zo x0),(Zp x0),(Zr x0)]
def UX (x0:Z6):List Int:=[(Zi x0)]
def QF (x0:Z6):List Int:=[bif(Zg x0)then(1:Int)else 0]
def XN (x0:Z6):List Int:=((((UI x0++WB (Z8 x0))++WB (Z7 x0))++UX x0)++WB (Z9 x0))++QF x0
theorem QG (x0:Z6):(XN x0).length=ZD x0+16:=by
 unfold XN ZD WK
 simp only[List.length_append,Z0d]
 simp[UI,UX,QF];omega
theorem Z4e {α:Type}(a b:List α):(a++b).length=a.length+b.length:=List.length_append
theorem Z0O (x0:Z6)(h:ZD x0≤1050000):X0 x0=some (XN x0):=by
 have hs:=h
 unfold ZD WK at hs
 have e1:=Z1n (Z8 x0) (by omega)
 have e2:=Z1n (Z7 x0) (by omega)
 have e3:=Z1n (Z9 x0) (by omega)
 have l1:=Z0d (Z8 x0)
 have l2:=Z0d (Z7 x0)
 have l3:=Z0d (Z9 x0)
 have l8:(UI x0).length=8:=rfl
 have le:(UX x0).length=1:=rfl
 show((XS (Z8 x0)).bind fun y1=>bif decide ((UI x0).length+y1.length<68719476736)then(XS (Z7 x0)).bind fun y2=>bif decide ((UI x0++y1).length+y2.length<68719476736)then bif decide (((UI x0++y1)++y2).length+(UX x0).length<68719476736)then(XS (Z9 x0)).bind fun y3=>bif decide ((((UI x0++y1)++y2)++UX x0).length+y3.length<68719476736)then bif(Zg x0)then bif decide (((((UI x0++y1)++y2)++UX x0)++y3).length+[(1:Int)].length<68719476736)then some (((((UI x0++y1)++y2)++UX x0)++y3)++[(1:Int)])else none else bif decide (((((UI x0++y1)++y2)++UX x0)++y3).length+[(0:Int)].length<68719476736)then some (((((UI x0++y1)++y2)++UX x0)++y3)++[(0:Int)])else none else none else none else none else none)=_
 simp only[e1,e2,e3,bind_s,Z4e,l1,l2,l3,l8,le,List.length_singleton]
 rw[decide_eq_true (by omega),cond_t,decide_eq_true (by omega),cond_t,decide_eq_true (by omega),cond_t,decide_eq_true (by omega),cond_t,decide_eq_true (by omega),cond_t]
 unfold XN QF
 cases(Zg x0)<;>rfl
theorem Z0B (x0:Z6)(h:ZD x0≤1050000):YZ x0=some (XN x0):=by
 have hs:=h
 unfold ZD WK at hs
 have e1:=Z15 (Z8 x0) (by omega)
 have e2:=Z15 (Z7 x0) (by omega)
 have e3:=Z15 (Z9 x0) (by omega)
 have eb:WH (Zg x0)=some (bif(Zg x0)then(1:Int)else 0):=by
  unfold WH
  cases(Zg x0)<;>rfl
 have ef:[UI x0,WB (Z8 x0),WB (Z7 x0),UX x0,WB (Z9 x0),QF x0].flatten=XN x0:=by
  simp[XN]
 have ec:=Z2d [UI x0,WB (Z8 x0),WB (Z7 x0),UX x0,WB (Z9 x0),QF x0] (by simp) (by rw[ef,QG];omega)
 rw[ef]at ec
 show((XQ (Z8 x0)).bind fun y1=>(XQ (Z7 x0)).bind fun y2=>(XQ (Z9 x0)).bind fun y3=>(WH (Zg x0)).bind fun y4=>(ZE [UI x0,y1,y2,UX x0,y3,[y4]]).bind fun y5=>some y5)=_
 simp only[e1,e2,e3,eb,bind_s]
 rw[show [bif(Zg x0)then(1:Int)else 0]=QF x0 from rfl,ec,bind_s]
def Qd (x0:Z6):Int:=([(233:Int)]++XN x0).foldl QH 11
theorem Z25 (x0:Z6)(h:ZD x0≤1050000):X5 x0=some (Qd x0):=by
 have hl:=QG x0
 unfold X5 Qd
 rw[Z0O x0 h,bind_s,decide_eq_true (by simp[hl];omega),cond_t,Z03 _ (by simp[hl];omega),bind_s]
theorem Z2T (x0:Z6)(h:ZD x0≤1050000):Xe x0=some (Qd x0):=by
 have hl:=QG x0
 unfold Xe Qd
 rw[Z0B x0 h,bind_s,decide_eq_true (by simp[hl];omega),cond_t,Z0A _ (by simp[hl];omega),bind_s]
def Z0D (k:Int)(xs:List Int):Int:=(([k]++xs)++[k]).foldl QH 11
theorem Z6I (k:Int)(xs:List Int)(h:xs.length≤16777216):Ug k xs=some (Z0D k xs):=by
 unfold Ug Z0D
 rw[decide_eq_true (by simp;omega),cond_t,decide_eq_true (by simp;omega),cond_t,Z03 _ (by simp;omega),bind_s]
theorem Z5c (k:Int)(xs:List Int)(h:xs.length≤16777216):WW k xs=some (Z0D k xs):=by
 have ef:[[k],xs,[k]].flatten=([k]++xs)++[k]:=by simp
 have ec:=Z2d [[k],xs,[k]] (by simp) (by rw[ef];simp;omega)
 rw[ef]at ec
 unfold WW Z0D
 rw[ec,bind_s,Z0A _ (by simp;omega),bind_s]
def Q5 (k:Int)(xs:List Int):Int:=Z0D k ([(223:Int)]++xs)
theorem Z3D (k:Int)(xs:List Int)(h:xs.length≤8388608):Ws k xs=some (Q5 k xs):=by
 unfold Ws Q5
 rw[decide_eq_true (by simp;omega),cond_t,Z6I _ _ (by simp;omega),bind_s]
theorem Z30 (k:Int)(xs:List Int)(h:xs.length≤8388608):Wo k xs=some (Q5 k xs):=by
 unfold Wo Q5
 rw[decide_eq_true (by simp;omega),cond_t,Z5c _ _ (by simp;omega),bind_s]
theorem Z1L (k:Int):Wg k=some (decide (1≤k)&&decide (k≤99)):=by
 unfold Wg
 rw[Q6,bind_s]
def Qq (s:Zb)(xs:List Int):Bool:=(decide (1≤s.1)&&decide (s.1≤99))&&(s.2==Q5 s.1 xs)
theorem Z6G (s:Zb)(xs:List Int)(h:xs.length≤8388608):Uf s xs=some (Qq s xs):=by
 unfold Uf Qq
 rw[Qg,bind_s,Z3D _ _ h,bind_s]
 cases(decide (1≤s.1)&&decide (s.1≤99))<;>rfl
theorem Z59 (s:Zb)(xs:List Int)(h:xs.length≤8388608):WU s xs=some (Qq s xs):=by
 unfold WU Qq
 rw[Z1L,bind_s,Z30 _ _ h,bind_s]
 cases(decide (1≤s.1)&&decide (s.1≤99))<;>rfl
def Qi (k:Int)(xs:List Int)(s:Zb):Bool:=s.1==k&&Qq s xs
theorem Z46 (x0:List Zb)(x1:Unit×(Int×List Int))(hx:x0.length≤1050000)(hm:x1.2.2.length≤8388608):∀i n,i≤x0.length→x0.length-i<n→Y9.l4 x0 x1 n (x0.length:Int) (i:Int)=some (UH (Qi x1.2.1 x1.2.2) (x0.drop i) (i:Int)):=by
 refine idx_ind ?_ ?_
 ·intro n
  rw[Y9.u4]
  simp only[Y9.g4,lt_f (Nat.le_refl _),cond_f,Z1C]
 ·intro i n hi ih
  rw[Y9.u4]
  simp only[Y9.g4,Up,Z59 _ _ hm,lt_t hi,ge_t,cond_t,bind_s,w64_succ (i:=i) (by omega),Int.toNat_natCast,at_n hi,Z1D _ hi,ih]
  unfold Qi
  cases(x0[i].1==x1.2.1)<;>cases(Qq x0[i] x1.2.2)<;>rfl
theorem Z40 (x0:List Zb)(k:Int)(xs:List Int)(hx:x0.length≤1050000)(hm:xs.length≤8388608):U7 x0 ((),(k,xs))=some (x0.any (Qi k xs)):=by
 have h:=Z46 x0 ((),(k,xs)) hx hm 0 KK (Nat.zero_le _) (KK_gt (by omega))
 have e:Y9 x0 ((),(k,xs))=some (UH (Qi k xs) x0 0):=by
  unfold Y9
  simpa [Y9.b]using h
 unfold U7
 rw[e,bind_s,Z1B _ _ _ (Int.le_refl 0)]
def UW (p:Int→Bool):List Int→Int→Int
 |[],c=>c
 |k::ks,c=>UW p ks (bif p k then c+1 else c)
theorem Z2x (p:Int→Bool){ks:List Int}{i:Nat}(h:i<ks.length)(c:Int):UW p (ks.drop i) c=UW p (ks.drop (i+1)) (bif p ks[i]then c+1 else c):=by
 rw[List.drop_eq_getElem_cons h];rfl
theorem Z2w (p:Int→Bool)(ks:List Int)(c:Int):UW p (ks.drop ks.length) c=c:=by
 rw[List.drop_length];rfl
def Q4 (sg:List Zb)(xs:List Int)(k:Int):Bool:=sg.any (Qi k xs)
theorem Z4S (x0:Zc)(xs:List Int)(sg:List Zb)(hk:x0.1.length≤1050000)(hs:sg.length≤1050000)(hm:xs.length≤8388608):∀i n,i≤x0.1.length→x0.1.length-i<n→∀c:Int,0≤c→c≤i→Yl.l6 x0 xs sg n c (x0.1.length:Int) (i:Int)=some (UW (Q4 sg xs) (x0.1.drop i) c):=by
 refine idx_ind ?_ ?_
 ·intro n c h0 h1
  rw[Yl.u6]
  simp only[Yl.g6,lt_f (Nat.le_refl _),cond_f,Z2w]
 ·intro i n hi ih c h0 h1
  rw[Yl.u6]
  simp only[Yl.g6,lt_t hi,ge_t,cond_t,bind_s,w64_succ (i:=i) (by omega),Int.toNat_natCast,at_n hi,Z40 _ _ _ hs hm,Z2x _ hi,w64 (n:=c+1) (by omega) (by omega)]
  rw[show sg.any (Qi x0.1[i] xs)=Q4 sg xs x0.1[i]from rfl]
  cases Q4 sg xs x0.1[i]with
  |true=>rw[cond_t,cond_t];exact ih _ (by omega) (by omega)
  |false=>rw[cond_f,cond_f];exact ih _ (by omega) (by omega)
theorem Z4T (x0:Zc)(xs:List Int)(sg:List Zb)(hk:x0.1.length≤1050000)(hs:sg.length≤1050000)(hm:xs.length≤8388608):Yl x0 xs sg=some (UW (Q4 sg xs) x0.1 0):=by
 have:=Z4S x0 xs sg hk hs hm 0 KK (Nat.zero_le _) (KK_gt (by omega)) 0 (Int.le_refl 0) (by omega)
 rw[List.drop_zero]at this
 exact this
theorem Z6t (x0:Zc)(xs:List Int)(sg:List Zb)(hs:sg.length≤1050000)(hm:xs.length≤8388608)(c:Int)(j:Nat)(hj:j<x0.1.length)(r:Int→Int→Option Int):∀i n,i≤sg.length→sg.length-i<n→Zu.l12 x0 xs sg c (j:Int) r n (i:Int)=bif(sg.drop i).any (Qi x0.1[j] xs)then r (IntKind.i64.wrap (c+1)) (IntKind.i64.wrap ((j:Int)+1))else r c (IntKind.i64.wrap ((j:Int)+1)):=by
 refine idx_ind ?_ ?_
 ·intro n
  rw[Zu.u12]
  simp only[Zu.g12,lt_f (Nat.le_refl _),cond_f,List.drop_length,List.any_nil]
 ·intro i n hi ih
  rw[Zu.u12]
  simp only[Zu.g12,Zu.l19,Zu.g19,lt_t hi,lt_t hj,ge_t,cond_t,cond_f,bind_s,w64_succ (i:=i) (by omega),Int.toNat_natCast,at_n hi,at_n hj,Z6G _ _ hm,ih]
  rw[List.drop_eq_getElem_cons hi,List.any_cons]
  rw[show Qi x0.1[j] xs sg[i]=(sg[i].1==x0.1[j]&&Qq sg[i] xs)from rfl]
  cases(sg[i].1==x0.1[j])<;>cases(Qq sg[i] xs)<;>rfl
theorem Z6s (x0:Zc)(xs:List Int)(sg:List Zb)(hk:x0.1.length≤1050000)(hs:sg.length≤1050000)(hm:xs.length≤8388608):∀i n,i≤x0.1.length→x0.1.length-i<n→∀c:Int,0≤c→c≤i→Zu.l6 x0 xs sg n c (i:Int)=some (UW (Q4 sg xs) (x0.1.drop i) c):=by
 refine idx_ind ?_ ?_
 ·intro n c h0 h1
  rw[Zu.u6]
  simp only[Zu.g6,lt_f (Nat.le_refl _),cond_f,Z2w]
 ·intro i n hi ih c h0 h1
  have hl:=Z6t x0 xs sg hs hm c i hi (Zu.l6 x0 xs sg n) 0 KK (Nat.zero_le _) (KK_gt (by omega))
  rw[List.drop_zero]at hl
  rw[Zu.u6]
  simp only[Zu.g6,lt_t hi,cond_t]
  refine Eq.trans hl ?_
  rw[w64_succ (i:=i) (by omega),w64 (n:=c+1) (by omega) (by omega),Z2x _ hi]
  rw[show sg.any (Qi x0.1[i] xs)=Q4 sg xs x0.1[i]from rfl]
  cases Q4 sg xs x0.1[i]with
  |true=>rw[cond_t,cond_t];exact ih _ (by omega) (by omega)
  |false=>rw[cond_f,cond_f];exact ih _ (by omega) (by omega)
theorem Z6u (x0:Zc)(xs:List Int)(sg:List Zb)(hk:x0.1.length≤1050000)(hs:sg.length≤1050000)(hm:xs.length≤8388608):Zu x0 xs sg=some (UW (Q4 sg xs) x0.1 0):=by
 have:=Z6s x0 xs sg hk hs hm 0 KK (Nat.zero_le _) (KK_gt (by omega)) 0 (Int.le_refl 0) (by omega)
 rw[List.drop_zero]at this
 exact this
def gk (x0:Zc)(j:Nat):Int:=x0.1.getD j 0
theorem Z12 (x0:Zc)(j:Nat):x0.1.getD j 0=gk x0 j:=rfl
def Z1M (x0:Zc)(i:Nat):Prop:=∀j,j<x0.1.length→i≤j→0<j→gk x0 (j-1)<gk x0 j
def Z1O (x0:Zc)(i:Nat):Prop:=∀j,j<x0.1.length→i≤j→(1≤gk x0 j∧gk x0 j≤99)∧(0<j→gk x0 (j-1)<gk x0 j)
def Z33 (x0:Zc):Prop:=(1≤(x0.1.length:Int)∧(x0.1.length:Int)≤4)∧(1≤x0.2∧x0.2≤(x0.1.length:Int))
theorem Z1m (x0:Zc)(hx:x0.1.length≤1050000):∀i n,i≤x0.1.length→x0.1.length-i<n→∃b,ZT.l4 x0 n (i:Int)=some b∧(b=true↔Z1O x0 i∧Z33 x0):=by
 refine idx_ind ?_ ?_
 ·intro n
  rw[ZT.u4]
  simp only[ZT.g4,lt_f (Nat.le_refl _),cond_f,Qg,bind_s]
  refine⟨(decide ((1:Int)≤(x0.1.length:Int))&&decide ((x0.1.length:Int)≤4))&&(decide (1≤x0.2)&&decide (x0.2≤(x0.1.length:Int))),?_,?_⟩
  ·cases(decide ((1:Int)≤(x0.1.length:Int))&&decide ((x0.1.length:Int)≤4))<;>rfl
  ·unfold Z1O Z33
   simp only[Bool.and_eq_true,decide_eq_true_eq]
   exact⟨fun h=>⟨fun j h1 h2=>absurd h1 (by omega),h⟩,fun h=>h.2⟩
 ·intro i n hi ih
  obtain⟨b,hb,hP⟩:=ih
  rw[ZT.u4]
  simp only[ZT.g4,lt_t hi,ge_t,cond_t,Qg,bind_s,w64_succ (i:=i) (by omega),Int.toNat_natCast,hb,Z12]
  by_cases hr:1≤gk x0 i∧gk x0 i≤99
  ·rw[decide_eq_true hr.1,decide_eq_true hr.2,Bool.and_self,Bool.not_true,cond_f]
   by_cases h0:0<i
   ·have ew:IntKind.i64.wrap ((i:Int)-1)=((i-1:Nat):Int):=by rw[w64 (by omega) (by omega)];omega
    simp only[decide_eq_true (show(i:Int)>0 by omega),cond_t,ew,ge_t,lt_t (show i-1<x0.1.length by omega),Int.toNat_natCast,Z12]
    by_cases ha:gk x0 (i-1)<gk x0 i
    ·rw[decide_eq_false (by omega),cond_f]
     refine⟨b,rfl,hP.trans ⟨fun h=>⟨fun j h1 h2=> ?_,h.2⟩,fun h=>⟨fun j h1 h2=>h.1 j h1 (by omega),h.2⟩⟩⟩
     by_cases e:j=i
     ·subst e;exact⟨hr,fun _=>ha⟩
     ·exact h.1 j h1 (by omega)
    ·rw[decide_eq_true (by omega),cond_t]
     refine⟨false,rfl,⟨fun h=>Bool.noConfusion h,fun h=>absurd ((h.1 i hi (Nat.le_refl _)).2 h0) ha⟩⟩
   ·rw[decide_eq_false (by omega),cond_f]
    refine⟨b,rfl,hP.trans ⟨fun h=>⟨fun j h1 h2=> ?_,h.2⟩,fun h=>⟨fun j h1 h2=>h.1 j h1 (by omega),h.2⟩⟩⟩
    by_cases e:j=i
    ·subst e;exact⟨hr,fun h=>absurd h h0⟩
    ·exact h.1 j h1 (by omega)
  ·have e:(decide (1≤gk x0 i)&&decide (gk x0 i≤99))=false:=by
    cases hc:(decide (1≤gk x0 i)&&decide (gk x0 i≤99))
    ·rfl
    ·simp only[Bool.and_eq_true,decide_eq_true_eq]at hc;exact absurd hc hr
   rw[e,Bool.not_false,cond_t]
   exact⟨false,rfl,⟨fun h=>Bool.noConfusion h,fun h=>absurd (h.1 i hi (Nat.le_refl _)).1 hr⟩⟩
theorem Z4i (x0:Zc)(hx:x0.1.length≤1050000):∀i n,i≤x0.1.length→x0.1.length-i<n→∃b,Yn.l4 x0.1 n (x0.1.length:Int) (i:Int)=some b∧(b=true↔Z1M x0 i):=by
 refine idx_ind ?_ ?_
 ·intro n
  rw[Yn.u4]
  simp only[Yn.g4,lt_f (Nat.le_refl _),cond_f]
  exact⟨true,rfl,⟨fun _ j h1 h2=>absurd h1 (by omega),fun _=>rfl⟩⟩
 ·intro i n hi ih
  obtain⟨b,hb,hP⟩:=ih
  rw[Yn.u4]
  simp only[Yn.g4,lt_t hi,ge_t,cond_t,w64_succ (i:=i) (by omega),Int.toNat_natCast,hb,Z12]
  by_cases h0:0<i
  ·have ew:IntKind.i64.wrap ((i:Int)-1)=((i-1:Nat):Int):=by rw[w64 (by omega) (by omega)];omega
   simp only[decide_eq_true (show(i:Int)>0 by omega),cond_t,ew,ge_t,lt_t (show i-1<x0.1.length by omega),Int.toNat_natCast,Z12]
   by_cases ha:gk x0 (i-1)<gk x0 i
   ·rw[decide_eq_false (by omega),cond_f]
    refine⟨b,rfl,hP.trans ⟨fun h j h1 h2 h3=> ?_,fun h j h1 h2 h3=>h j h1 (by omega) h3⟩⟩
    by_cases e:j=i
    ·subst e;exact ha
    ·exact h j h1 (by omega) h3
   ·rw[decide_eq_true (by omega),cond_t]
    exact⟨false,rfl,⟨fun h=>Bool.noConfusion h,fun h=>absurd (h i hi (Nat.le_refl _) h0) ha⟩⟩
  ·rw[decide_eq_false (by omega),cond_f]
   refine⟨b,rfl,hP.trans ⟨fun h j h1 h2 h3=>h j h1 (by omega) h3,fun h j h1 h2 h3=>h j h1 (by omega) h3⟩⟩
theorem Z2n (x0:Zc)(h:Z1M x0 0)(a:Nat):∀b,a≤b→b<x0.1.length→gk x0 a≤gk x0 b:=by
 intro b
 induction b with
 |zero=>intro h1 _;have:a=0:=by omega
        subst this;exact Int.le_refl _
 |succ b ih=>
  intro h1 h2
  by_cases e:a=b+1
  ·subst e;exact Int.le_refl _
  ·have:=ih (by omega) (by omega)
   have h3:=h (b+1) h2 (by omega) (by omega)
   rw[show b+1-1=b from rfl]at h3
   omega
theorem Z5D (x0:Zc)(h:Z1M x0 0)(h0:1≤gk x0 0)(h1:gk x0 (x0.1.length-1)≤99):Z1O x0 0:=by
 intro j hj _
 have a:=Z2n x0 h 0 j (by omega) hj
 have b:=Z2n x0 h j (x0.1.length-1) (by omega) (by omega)
 exact⟨⟨by omega,by omega⟩,h j hj (by omega)⟩
theorem Z0q {a b:Bool}(h:a=true↔b=true):a=b:=by cases a<;>cases b<;>simp_all
theorem Z2e (x0:Zc)(hx:x0.1.length≤1050000):∃b,ZT x0=some b∧XV x0=some b:=by
 obtain⟨s,hs,hS⟩:=Z1m x0 hx 0 KK (Nat.zero_le _) (KK_gt (by omega))
 obtain⟨a,ha,hA⟩:=Z4i x0 hx 0 KK (Nat.zero_le _) (KK_gt (by omega))
 refine⟨s,hs,?_⟩
 have ea:Yn x0.1=some a:=ha
 unfold XV
 rw[Q6,bind_s]
 by_cases hl:1≤(x0.1.length:Int)∧(x0.1.length:Int)≤4
 ·rw[decide_eq_true hl.1,decide_eq_true hl.2,Bool.and_self,cond_t,ea,bind_s]
  have ew:IntKind.i64.wrap ((x0.1.length:Int)-1)=((x0.1.length-1:Nat):Int):=by rw[w64 (by omega) (by omega)];omega
  cases a with
  |false=>
   rw[cond_f]
   have:s=false:=by
    cases s with
    |false=>rfl
    |true=>
     have h:=(hS.mp rfl).1
     exact(hA.mpr (fun j h1 h2 h3=>(h j h1 h2).2 h3)).symm
   rw[this]
  |true=>
   have hasc:=hA.mp rfl
   rw[cond_t,decide_eq_true (Int.le_refl 0),cond_t,decide_eq_true (by omega),cond_t,Z1L,bind_s,ew,ge_t,cond_t,lt_t (by omega),cond_t,Z1L,bind_s,Q6,bind_s,Int.toNat_natCast,show(0:Int).toNat=0 from rfl]
   rw[show x0.1.getD 0 0=gk x0 0 from rfl,show x0.1.getD (x0.1.length-1) 0=gk x0 (x0.1.length-1)from rfl]
   have e:s=((decide (1≤gk x0 0)&&decide (gk x0 0≤99))&&((decide (1≤gk x0 (x0.1.length-1))&&decide (gk x0 (x0.1.length-1)≤99))&&(decide (1≤x0.2)&&decide (x0.2≤(x0.1.length:Int))))):=by
    refine Z0q (hS.trans ?_)
    simp only[Bool.and_eq_true,decide_eq_true_eq]
    constructor
    ·intro h
     exact⟨(h.1 0 (by omega) (Nat.le_refl _)).1,(h.1 (x0.1.length-1) (by omega) (by omega)).1,h.2.2⟩
    ·intro h
     exact⟨Z5D x0 hasc h.1.1 h.2.1.2,hl,h.2.2⟩
   rw[e]
   cases(decide (1≤gk x0 0)&&decide (gk x0 0≤99))<;>cases(decide (1≤gk x0 (x0.1.length-1))&&decide (gk x0 (x0.1.length-1)≤99))<;>rfl
 ·have e:(decide (1≤(x0.1.length:Int))&&decide ((x0.1.length:Int)≤4))=false:=by
   cases hc:(decide (1≤(x0.1.length:Int))&&decide ((x0.1.length:Int)≤4))
   ·rfl
   ·simp only[Bool.and_eq_true,decide_eq_true_eq]at hc;exact absurd hc hl
  rw[e,cond_f]
  have:s=false:=by
   cases s with
   |false=>rfl
   |true=>exact absurd (hS.mp rfl).2.1 hl
  rw[this]
theorem Z48 (x0:Zc)(hx:x0.1.length≤1050000)(h:ZT x0=some true):1≤x0.1.length:=by
 obtain⟨s,hs,hS⟩:=Z1m x0 hx 0 KK (Nat.zero_le _) (KK_gt (by omega))
 have e:ZT x0=some s:=hs
 rw[h]at e
 injection e with e
 have:=(hS.mp e.symm).2.1
 omega
noncomputable def XR (k:Zc):Bool:=(ZT k).getD false
theorem Z04 (k:Zc)(hx:k.1.length≤1050000):ZT k=some (XR k):=by
 obtain⟨b,h1,h2⟩:=Z2e k hx
 unfold XR
 rw[h1];rfl
theorem Z14 (k:Zc)(hx:k.1.length≤1050000):XV k=some (XR k):=by
 obtain⟨b,h1,h2⟩:=Z2e k hx
 unfold XR
 rw[h1,h2];rfl
def XH (k:Zc):Bool:=k.2==(0:Int)&&((k.1.length:Int)==(0:Int))
theorem Z1o (k:Zc):XX k=some (XH k):=by
 unfold XX XH
 cases(k.2==(0:Int))<;>rfl
theorem Z16 (k:Zc):XF k=some (XH k):=by
 unfold XF XH
 cases(k.2==(0:Int))<;>rfl
theorem Z5C (k:Zc)(hx:k.1.length≤1050000):(XR k&&XH k)=false:=by
 cases h:XR k with
 |false=>rfl
 |true=>
  have:=Z48 k hx (by rw[Z04 k hx,h])
  unfold XH
  have e:((k.1.length:Int)==(0:Int))=false:=by rw[beq_eq_false_iff_ne];omega
  rw[e,Bool.and_false];rfl
def YV (a b c:Int):Bool:=decide (b≤a)&&decide (a≤c)
theorem Z0G (a b c:Int):Yj a b c=some (YV a b c):=Qg a b c
theorem Z0n (a b c:Int):YD a b c=some (YV a b c):=Q6 a b c
theorem Z5s (a:Int):XW a=some (YV a 0 2147483646):=by
 unfold XW
 rw[Z0n,bind_s]
theorem QO {α:Type}(c:Bool)(a b:α):(bif c then some a else some b)=some (bif c then a else b):=by cases c<;>rfl
theorem Z2o (c a:Bool):(bif c then a else false)=(c&&a):=by cases c<;>rfl
theorem Z2p (c a:Bool):(bif c then false else a)=(!c&&a):=by cases c<;>rfl
theorem Z2q (c a:Bool):(bif c then true else a)=(c||a):=by cases c<;>rfl
theorem Z2r (c a:Bool):(bif c then a else true)=(!c||a):=by cases c<;>rfl
def hr4 (x:Z6):Bool:=YV (Zn x) 0 2147483646&&(YV (Zp x) 0 2147483646&&(YV (Zr x) 0 2147483646&&(YV (Zm x) 0 200&&YV (Zk x) 1 3)))
def Z0j (x:Z6):Bool:=decide ((Za x)≥0)&&(decide ((Za x)≤(Zl x))&&(decide ((Zl x)≤100000)&&decide (IntKind.i64.wrap ((Zl x)-(Za x))≤200)))
theorem Z78 (x:Z6)(r:Bool):(YV (Za x) 0 100000&&(YV (Zl x) (Za x) 100000&&(!decide (IntKind.i64.wrap ((Zl x)-(Za x))>200)&&r)))=(Z0j x&&r):=by
 have:(YV (Za x) 0 100000&&(YV (Zl x) (Za x) 100000&& !decide (IntKind.i64.wrap ((Zl x)-(Za x))>200)))=Z0j x:=by
  unfold YV Z0j
  generalize IntKind.i64.wrap ((Zl x)-(Za x))=w
  refine Z0q ?_
  simp only[Bool.and_eq_true,decide_eq_true_eq,Bool.not_eq_true',decide_eq_false_iff_not]
  omega
 rw[←this]
 simp only[Bool.and_assoc]
noncomputable def QV (x:Z6):Bool:=(bif XH (Z7 x)then((Zi x)==(0:Int))else(XR (Z7 x)&&YV (Zi x) 1 500))&&(XR (Z9 x)||(XH (Z9 x)&& !(Zg x)))
noncomputable def ZZ (x:Z6):Bool:=hr4 x&&(Z0j x&&(YV (Zo x) 0 12&&(XR (Z8 x)&&QV x)))
theorem Z0g (x:Z6)(hx:ZD x≤1050000):Zw x=some (ZZ x):=by
 unfold ZD WK at hx
 have k1:=Z04 (Z8 x) (by omega)
 have k2:=Z04 (Z7 x) (by omega)
 have k3:=Z04 (Z9 x) (by omega)
 have n2:=Z1o (Z7 x)
 have n3:=Z1o (Z9 x)
 have key:(bif XH (Z7 x)then(!((Zi x) !=(0:Int))&&(XR (Z9 x)||(XH (Z9 x)&& !(Zg x))))else(XR (Z7 x)&&(YV (Zi x) 1 500&&(XR (Z9 x)||(XH (Z9 x)&& !(Zg x))))))=QV x:=by
  unfold QV
  cases XH (Z7 x)with
  |true=>simp[bne]
  |false=>simp only[cond_f,Bool.and_assoc]
 unfold Zw
 simp only[Zw.b,Zw.l7,Zw.g7,Zw.l11,Zw.g11,Zw.l21,Zw.g21,Z0G,k1,k2,k3,n2,n3,bind_s,QO,Z2o,Z2p,Z2q,Z2r,Bool.not_not]
 rw[key,Z78]
 unfold ZZ hr4 Z8
 simp only[Bool.and_assoc]
theorem QQ (x:Z6)(hx:ZD x≤1050000):YY x=some (ZZ x):=by
 unfold ZD WK at hx
 have k1:=Z14 (Z8 x) (by omega)
 have k2:=Z14 (Z7 x) (by omega)
 have k3:=Z14 (Z9 x) (by omega)
 have n2:=Z16 (Z7 x)
 have n3:=Z16 (Z9 x)
 have q3:=Z5C (Z9 x) (by omega)
 have key:((XH (Z7 x)||XR (Z7 x))&&((XH (Z9 x)||XR (Z9 x))&&((bif XH (Z7 x)then((Zi x)==(0:Int))else YV (Zi x) 1 500)&&(!(Zg x)|| !XH (Z9 x)))))=QV x:=by
  unfold QV
  revert q3
  generalize ((Zi x)==(0:Int))=a
  generalize YV (Zi x) 1 500=b
  generalize (Zg x)=c
  cases XH (Z7 x)<;>cases XR (Z7 x)<;>cases XH (Z9 x)<;>cases XR (Z9 x)<;>cases a<;>cases b<;>cases c<;>decide
 unfold YY
 simp only[U0,Ur,Xy,Z5s,Z0n,k1,k2,k3,n2,n3,bind_s,QO,Z2o,Z2p,Z2q,Z2r,Bool.not_not]
 rw[key]
 unfold ZZ hr4 Z0j Z8
 simp only[Bool.and_assoc]
theorem Z1K (x:Z6)(h:ZZ x=true):0≤(Za x)∧(Za x)≤(Zl x)∧(Zl x)≤100000:=by
 unfold ZZ Z0j at h
 simp only[Bool.and_eq_true,decide_eq_true_eq]at h
 omega
theorem Z42 (x0 x1:List Int)(hl:x0.length=x1.length)(hx:x0.length≤1152921504606846976):∀i n,i≤x0.length→x0.length-i<n→Y8.l8 x0 x1 n (i:Int)=some (decide (x0.drop i=x1.drop i)):=by
 refine idx_ind ?_ ?_
 ·intro n
  rw[Y8.u8]
  simp only[Y8.g8,lt_f (Nat.le_refl _),cond_f]
  rw[List.drop_length,hl,List.drop_length];simp
 ·intro i n hi ih
  have hi':i<x1.length:=by omega
  rw[Y8.u8]
  simp only[Y8.g8,lt_t hi,lt_t hi',ge_t,cond_t,w64_succ (i:=i) (by omega),Int.toNat_natCast,at_n hi,at_n hi']
  rw[dec_step (drop_eq hi hi')]
  by_cases he:x0[i]=x1[i]
  ·rw[show(x0[i] !=x1[i])=false by simp[he],cond_f,ih,decide_eq_true he,Bool.true_and]
  ·rw[show(x0[i] !=x1[i])=true by simp[he],cond_t,decide_eq_false he,Bool.false_and]
theorem Z43 (x0 x1:List Int)(hx:x0.length≤1152921504606846976):Y8 x0 x1=some (decide (x0=x1)):=by
 unfold Y8
 by_cases hl:x0.length=x1.length
 ·simp only[Y8.b,len_eq hl,cond_f]
  have:=Z42 x0 x1 hl hx 0 KK (Nat.zero_le _) (KK_gt (by omega))
  simpa using this
 ·simp only[Y8.b,len_ne hl,cond_t]
  rw[decide_eq_false (fun h=>hl (by rw[h]))]
theorem Z76 (x0 x1:List Int)(hl:x0.length=x1.length)(hx:x0.length≤1152921504606846976):∀i n,i≤x0.length→x0.length-i<n→ZW.l8 x0 x1 n (x0.length:Int) (i:Int)=some (decide (x0.drop i=x1.drop i)):=by
 refine idx_ind ?_ ?_
 ·intro n
  rw[ZW.u8]
  simp only[ZW.g8,lt_f (Nat.le_refl _),cond_f]
  rw[List.drop_length,hl,List.drop_length];simp
 ·intro i n hi ih
  have hi':i<x1.length:=by omega
  rw[ZW.u8]
  simp only[ZW.g8,lt_t hi,lt_t hi',ge_t,cond_t,w64_succ (i:=i) (by omega),Int.toNat_natCast,at_n hi,at_n hi']
  rw[dec_step (drop_eq hi hi')]
  by_cases he:x0[i]=x1[i]
  ·rw[show(x0[i] !=x1[i])=false by simp[he],cond_f,ih,decide_eq_true he,Bool.true_and]
  ·rw[show(x0[i] !=x1[i])=true by simp[he],cond_t,decide_eq_false he,Bool.false_and]
theorem Z3L (x0 x1:List Int)(hx:x0.length≤1152921504606846976):ZW x0 x1=some (decide (x0=x1)):=by
 unfold ZW
 by_cases hl:x0.length=x1.length
 ·simp only[ZW.b,len_eq hl,cond_f]
  have:=Z76 x0 x1 hl hx 0 KK (Nat.zero_le _) (KK_gt (by omega))
  simpa using this
 ·simp only[ZW.b,len_ne hl,cond_t]
  rw[decide_eq_false (fun h=>hl (by rw[h]))]
theorem Z70 (a b:Zb):((a.1==b.1)&&((a.2==b.2)&&true))=decide (a=b):=by
 obtain⟨a1,a2⟩:=a
 obtain⟨b1,b2⟩:=b
 by_cases h1:a1=b1<;>by_cases h2:a2=b2<;>simp[h1,h2]
theorem Z74 (x0 x1:List Zb)(hl:x0.length=x1.length)(hx:x0.length≤1152921504606846976):∀i n,i≤x0.length→x0.length-i<n→Y5.l8 x0 x1 n (x0.length:Int) (i:Int)=some (decide (x0.drop i=x1.drop i)):=by
 refine idx_ind ?_ ?_
 ·intro n
  rw[Y5.u8]
  simp only[Y5.g8,lt_f (Nat.le_refl _),cond_f]
  rw[List.drop_length,hl,List.drop_length];simp
 ·intro i n hi ih
  have hi':i<x1.length:=by omega
  rw[Y5.u8]
  simp only[Y5.g8,lt_t hi,lt_t hi',ge_t,cond_t,w64_succ (i:=i) (by omega),Int.toNat_natCast,at_n hi,at_n hi',Z70]
  rw[dec_step (drop_eq hi hi')]
  by_cases he:x0[i]=x1[i]
  ·simp only[he,decide_true,Bool.not_true,cond_f,Bool.true_and]
   exact ih
  ·simp only[he,decide_false,Bool.not_false,cond_t,Bool.false_and]
theorem Z75 (x0 x1:List Zb)(hx:x0.length≤1152921504606846976):Y5 x0 x1=some (decide (x0=x1)):=by
 unfold Y5
 by_cases hl:x0.length=x1.length
 ·simp only[Y5.b,len_eq hl,cond_f]
  have:=Z74 x0 x1 hl hx 0 KK (Nat.zero_le _) (KK_gt (by omega))
  simpa using this
 ·simp only[Y5.b,len_ne hl,cond_t]
  rw[decide_eq_false (fun h=>hl (by rw[h]))]
theorem QN (a b:Zc)(hx:a.1.length≤1050000):XC a b=some (decide (a=b)):=by
 unfold XC
 rw[Z3L _ _ (by omega),bind_s]
 obtain⟨a1,a2⟩:=a
 obtain⟨b1,b2⟩:=b
 by_cases h1:a1=b1<;>by_cases h2:a2=b2<;>simp[h1,h2]
theorem Z1P {k k':Zc}{r r':List Int}(h:WB k++r=WB k'++r'):k=k'∧r=r':=by
 unfold WB at h
 simp only[List.cons_append,List.nil_append,List.append_assoc,List.cons.injEq]at h
 obtain⟨h1,h2,h3⟩:=h
 have hl:k.1.length=k'.1.length:=by omega
 obtain⟨h4,h5⟩:=List.append_inj h3 hl
 exact⟨Prod.ext h4 h1,h5⟩
theorem Z4L {a b:Z6}(h:XN a=XN b):Z8 a=Z8 b∧Z7 a=Z7 b∧Z9 a=Z9 b∧QF a=QF b:=by
 unfold XN at h
 simp only[List.append_assoc]at h
 obtain⟨_,h⟩:=List.append_inj h rfl
 obtain⟨h1,h⟩:=Z1P h
 obtain⟨h2,h⟩:=Z1P h
 obtain⟨_,h⟩:=List.append_inj h rfl
 obtain⟨h3,h⟩:=Z1P h
 exact⟨h1,h2,h3,h⟩
def Z0b (a b:Z6):Bool:=decide (XN a=XN b)
theorem Z2Q (a b:Z6)(ha:ZD a≤1050000)(hb:ZD b≤1050000):X9 a b=some (Z0b a b):=by
 have hs:=ha
 unfold ZD WK at hs
 show((XC (Z8 a) (Z8 b)).bind fun y1=>bif y1 then(XC (Z7 a) (Z7 b)).bind fun y2=>bif y2 then(XC (Z9 a) (Z9 b)).bind fun y3=>bif y3 then(YZ a).bind fun y4=>(YZ b).bind fun y5=>(ZW y4 y5).bind fun y6=>some y6 else some false else some false else some false)=_
 rw[QN _ _ (by omega),bind_s,QN _ _ (by omega),bind_s,QN _ _ (by omega),bind_s,Z0B a ha,bind_s,Z0B b hb,bind_s,Z3L _ _ (by rw[QG];omega),bind_s]
 unfold Z0b
 by_cases h:XN a=XN b
 ·obtain⟨h1,h2,h3,_⟩:=Z4L h
  rw[decide_eq_true h1,decide_eq_true h2,decide_eq_true h3,cond_t,cond_t,cond_t]
 ·rw[decide_eq_false h]
  cases decide (Z8 a=Z8 b)<;>cases decide (Z7 a=Z7 b)<;>cases decide (Z9 a=Z9 b)<;>rfl
def Qo (a b:Z5):Bool:=Z0b (Ze a) (Ze b)&&decide (W3 a=W3 b)
theorem Z4W (a b:Z5)(ha:X2 a≤1050000)(hb:X2 b≤1050000):Xp a b=some (Qo a b):=by
 unfold X2 at ha hb
 show((X9 (Ze a) (Ze b)).bind fun y1=>bif y1 then(Y5 (W3 a) (W3 b)).bind fun y2=>some y2 else some false)=_
 rw[Z2Q _ _ (by omega) (by omega),bind_s,Z75 _ _ (by omega),bind_s]
 unfold Qo
 cases Z0b (Ze a) (Ze b)<;>rfl
def Qc (a b:ByteArray):Bool:=a.toList==b.toList
theorem Z77 (x0 x1:List ByteArray)(hx:x0.length≤1050000):YH x0 x1=some (UQ Qc x0 x1):=
 Z1z x0 x1 (⟨#[]⟩:ByteArray) (fun a b=>some (Qc a b)) Qc hx (fun i h h'=>rfl) (fun n a=>YH.l8 x0 x1 n (x0.length:Int) a) (fun n a=>YH.u8 x0 x1 n (x0.length:Int) a)
def QC (a b:Z4):Bool:=Qc a.1 b.1&&((a.2.1==b.2.1)&&((a.2.2.1==b.2.2.1)&&UQ Qc a.2.2.2 b.2.2.2))
theorem Z4V (a b:Z4)(hx:Yp a≤1050000):WE a b=some (QC a b):=by
 unfold WE QC
 rw[Z77 _ _ (by unfold Yp Xj YO at hx;omega),bind_s]
 show(bif Qc a.1 b.1 then _ else _)=_
 cases Qc a.1 b.1<;>cases(a.2.1==b.2.1)<;>cases(a.2.2.1==b.2.2.1)<;>rfl
theorem Z2Y (x0 x1:List Z4)(hx:Zx x0≤1050000):XO x0 x1=some (UQ QC x0 x1):=by
 have e:YF x0 x1 ((),())=some (UQ QC x0 x1):=
  Z1z x0 x1 XE WE QC (by unfold Zx YO at hx;omega) (fun i h h'=>Z4V _ _ (by have:=Z0i Yp h;unfold Zx YO at hx;omega)) (fun n a=>YF.l8 x0 x1 n (x0.length:Int) a) (fun n a=>YF.u8 x0 x1 n (x0.length:Int) a)
 unfold XO
 rw[e,bind_s]
theorem Z6Y (x0 x1:List Z5)(hx:YQ x0≤1050000)(hx':YQ x1≤1050000):U1 x0 x1=some (UQ Qo x0 x1):=by
 have e:YG x0 x1 ((),())=some (UQ Qo x0 x1):=
  Z1z x0 x1 X3 Xp Qo (by unfold YQ YO at hx;omega) (fun i h h'=>Z4W _ _ (by have:=Z0i X2 h;unfold YQ YO at hx;omega) (by have:=Z0i X2 h';unfold YQ YO at hx';omega)) (fun n a=>YG.l8 x0 x1 n (x0.length:Int) a) (fun n a=>YG.u8 x0 x1 n (x0.length:Int) a)
 unfold U1
 rw[e,bind_s]
def Z10 (a b:Zt):Bool:=UQ Qo a.1 b.1&&UQ QC a.2 b.2
theorem Z2R (a b:Zt)(ha:Xh a≤1050000)(hb:Xh b≤1050000):WF a b=some (Z10 a b):=by
 unfold Xh at ha hb
 unfold WF Z10
 rw[Z6Y _ _ (by omega) (by omega),bind_s,Z2Y _ _ (by omega),bind_s]
 cases UQ Qo a.1 b.1<;>rfl
theorem Z0H (x:Zc)(hx:x.1.length≤1050000):XT x=some x:=by
 unfold XT
 rw[decide_eq_true (by simp;omega),cond_t];rfl
theorem Z3W (x:List Int)(hx:x.length≤1050000):U5 x=some x:=by
 have e:(bif decide (([]:List Int).length+x.length<68719476736)then some ([]++x)else none)=some x:=by
  rw[decide_eq_true (by simp;omega),cond_t];rfl
 unfold U5
 rw[e]
 cases x with
 |nil=>exact both_eq _
 |cons a t=>rfl
theorem Z0V (x:Zc)(hx:x.1.length≤1050000):W7 x=some x:=by
 unfold W7
 rw[Z3W _ hx,bind_s]
theorem Z0E (x0:Z6)(hx:ZD x0≤1050000):YX x0=some x0:=by
 unfold ZD WK at hx
 unfold YX
 exact Zf (Z0H _ (by omega)) (Zf (Z0H _ (by omega)) (Zf (Z0H _ (by omega)) rfl))
theorem Z0U (x0:Z6)(hx:ZD x0≤1050000):X4 x0=some x0:=by
 unfold ZD WK at hx
 unfold X4
 exact Zf (Z0V _ (by omega)) (Zf (Z0V _ (by omega)) (Zf (Z0V _ (by omega)) rfl))
theorem Z3V (x:List Zb)(hx:x.length≤1050000):U4 x=some x:=by
 have e:(bif decide (([]:List Zb).length+x.length<68719476736)then some ([]++x)else none)=some x:=by
  rw[decide_eq_true (by simp;omega),cond_t];rfl
 unfold U4
 rw[e]
 cases x with
 |nil=>exact both_eq _
 |cons a t=>rfl
theorem Z36 (x0:Z5)(hx:X2 x0≤1050000):Xc x0=some x0:=by
 unfold X2 at hx
 unfold Xc
 exact Zf (Z0E _ (by omega)) (cT (decide_eq_true (by simp;omega)) rfl)
theorem Z2z (x0:Z5)(hx:X2 x0≤1050000):Xa x0=some x0:=by
 unfold X2 at hx
 unfold Xa
 exact Zf (Z0U _ (by omega)) (Zf (Z3V _ (by omega)) rfl)
def Uz (xs:List Int)(k:Int):Bool:=xs.any (fun a=>a==k)
theorem Z5O (x0:List Int)(k:Int)(hx:x0.length≤1152921504606846976):∀i n,i≤x0.length→x0.length-i<n→Ys.l4 x0 k n (i:Int)=some (Uz (x0.drop i) k):=by
 refine idx_ind ?_ ?_
 ·intro n
  rw[Ys.u4]
  simp only[Ys.g4,lt_f (Nat.le_refl _),cond_f,List.drop_length];rfl
 ·intro i n hi ih
  rw[Ys.u4]
  simp only[Ys.g4,lt_t hi,ge_t,cond_t,w64_succ (i:=i) (by omega),Int.toNat_natCast,at_n hi,ih]
  rw[List.drop_eq_getElem_cons hi]
  show _=some ((x0[i]==k)||Uz (x0.drop (i+1)) k)
  cases(x0[i]==k)<;>rfl
theorem Z5P (x0:List Int)(k:Int)(hx:x0.length≤1152921504606846976):Ys x0 k=some (Uz x0 k):=by
 have:=Z5O x0 k hx 0 KK (Nat.zero_le _) (KK_gt (by omega))
 rw[List.drop_zero]at this
 exact this
theorem Z47 (x0:List Int)(k:Int)(hx:x0.length≤1152921504606846976):∀i n,i≤x0.length→x0.length-i<n→Yq.l4 x0 k n (x0.length:Int) (i:Int)=some (UH (fun a=>a==k) (x0.drop i) (i:Int)):=by
 refine idx_ind ?_ ?_
 ·intro n
  rw[Yq.u4]
  simp only[Yq.g4,lt_f (Nat.le_refl _),cond_f,Z1C]
 ·intro i n hi ih
  rw[Yq.u4]
  simp only[Yq.g4,lt_t hi,ge_t,cond_t,w64_succ (i:=i) (by omega),Int.toNat_natCast,at_n hi,Z1D _ hi,ih]
  rw[Bool.beq_comm]
  cases(x0[i]==k)<;>rfl
theorem Z41 (x0:List Int)(k:Int)(hx:x0.length≤1152921504606846976):U9 x0 k=some (Uz x0 k):=by
 have h:=Z47 x0 k hx 0 KK (Nat.zero_le _) (KK_gt (by omega))
 rw[List.drop_zero]at h
 have e:Yq x0 k=some (UH (fun a=>a==k) x0 0):=h
 unfold U9
 rw[e,bind_s,Z1B _ _ _ (Int.le_refl 0)];rfl
def Uw (sk:List Int)(m:List Int):List Int→List Zb→List Zb
 |[],acc=>acc
 |k::ks,acc=>Uw sk m ks (bif Uz sk k then acc++[(k,Q5 k m)]else acc)
theorem Z3K (sk m:List Int){ks:List Int}{i:Nat}(h:i<ks.length)(acc:List Zb):Uw sk m (ks.drop i) acc=Uw sk m (ks.drop (i+1)) (bif Uz sk ks[i]then acc++[(ks[i],Q5 ks[i] m)]else acc):=by
 rw[List.drop_eq_getElem_cons h];rfl
theorem Z3J (sk m ks:List Int)(acc:List Zb):Uw sk m (ks.drop ks.length) acc=acc:=by
 rw[List.drop_length];rfl
theorem Z2a (sk m ks:List Int):∀acc:List Zb,(Uw sk m ks acc).length≤acc.length+ks.length:=by
 induction ks with
 |nil=>intro acc;exact Nat.le_refl _
 |cons k ks ih=>
  intro acc
  show(Uw sk m ks (bif Uz sk k then acc++[(k,Q5 k m)]else acc)).length≤_
  refine Nat.le_trans (ih _) ?_
  cases Uz sk k with
  |true=>rw[cond_t,List.length_append,List.length_cons];simp;omega
  |false=>rw[cond_f,List.length_cons];omega
theorem Z6T (sk:List Int)(x1:Zc)(m:List Int)(hs:sk.length≤1050000)(hk:x1.1.length≤1050000)(hm:m.length≤8388608):∀i n,i≤x1.1.length→x1.1.length-i<n→∀acc:List Zb,acc.length≤i→Y6.l6 sk x1 m n (i:Int) acc=some (Uw sk m (x1.1.drop i) acc):=by
 refine idx_ind ?_ ?_
 ·intro n acc ha
  rw[Y6.u6]
  simp only[Y6.g6,lt_f (Nat.le_refl _),cond_f,Z3J]
 ·intro i n hi ih acc ha
  rw[Y6.u6]
  simp only[Y6.g6,lt_t hi,ge_t,cond_t,bind_s,w64_succ (i:=i) (by omega),Int.toNat_natCast,at_n hi,Z5P _ _ (show sk.length≤1152921504606846976 by omega),Z3D _ _ hm,Z3K _ _ hi]
  cases Uz sk x1.1[i]with
  |true=>
   rw[cond_t,cond_t,decide_eq_true (by simp;omega),cond_t]
   exact ih _ (by rw[List.length_append];simp;omega)
  |false=>rw[cond_f,cond_f];exact ih _ (by omega)
theorem Z5m (sk:List Int)(x1:Zc)(m:List Int)(hs:sk.length≤1050000)(hk:x1.1.length≤1050000)(hm:m.length≤8388608):∀i n,i≤x1.1.length→x1.1.length-i<n→∀acc:List Zb,acc.length≤i→Ym.l6 sk x1 m n (x1.1.length:Int) (i:Int) acc=some (Uw sk m (x1.1.drop i) acc):=by
 refine idx_ind ?_ ?_
 ·intro n acc ha
  rw[Ym.u6]
  simp only[Ym.g6,lt_f (Nat.le_refl _),cond_f,Z3J]
 ·intro i n hi ih acc ha
  rw[Ym.u6]
  simp only[Ym.g6,lt_t hi,ge_t,cond_t,bind_s,w64_succ (i:=i) (by omega),Int.toNat_natCast,at_n hi,Z41 _ _ (show sk.length≤1152921504606846976 by omega),Z30 _ _ hm,Z3K _ _ hi]
  cases Uz sk x1.1[i]with
  |true=>
   rw[cond_t,cond_t,decide_eq_true (by simp;omega),cond_t]
   exact ih _ (by rw[List.length_append];simp;omega)
  |false=>rw[cond_f,cond_f];exact ih _ (by omega)
theorem Z3C (sk:List Int)(x1:Zc)(m:List Int)(hs:sk.length≤1050000)(hk:x1.1.length≤1050000)(hm:m.length≤8388608):Y6 sk x1 m=some (Uw sk m x1.1 []):=by
 have:=Z6T sk x1 m hs hk hm 0 KK (Nat.zero_le _) (KK_gt (by omega)) [] (Nat.le_refl _)
 rw[List.drop_zero]at this
 exact this
theorem Z5n (sk:List Int)(x1:Zc)(m:List Int)(hs:sk.length≤1050000)(hk:x1.1.length≤1050000)(hm:m.length≤8388608):Ym sk x1 m=some (Uw sk m x1.1 []):=by
 have:=Z5m sk x1 m hs hk hm 0 KK (Nat.zero_le _) (KK_gt (by omega)) [] (Nat.le_refl _)
 rw[List.drop_zero]at this
 exact this
def WJ (sk:List Int)(k:Zc)(h:Z6):Z5:=Qy h (Uw sk (XN h) k.1 [])
theorem Z0P (sk:List Int)(k:Zc)(h:Z6)(hs:sk.length≤1050000)(hk:k.1.length≤1050000)(hh:ZD h≤1050000):YS sk k h=some (WJ sk k h):=by
 unfold YS
 rw[Z0E _ hh,bind_s,Z0O _ hh,bind_s,Z3C _ _ _ hs hk (by rw[QG];omega),bind_s];rfl
theorem Z17 (sk:List Int)(k:Zc)(h:Z6)(hs:sk.length≤1050000)(hk:k.1.length≤1050000)(hh:ZD h≤1050000):Xg sk k h=some (WJ sk k h):=by
 unfold Xg
 rw[Z0U _ hh,bind_s,Z0B _ hh,bind_s,Z5n _ _ _ hs hk (by rw[QG];omega),bind_s];rfl
theorem Z3G (sk:List Int)(k:Zc)(h:Z6):X2 (WJ sk k h)≤ZD h+k.1.length:=by
 have:=Z2a sk (XN h) k.1 []
 show ZD h+(Uw sk (XN h) k.1 []).length≤_
 rw[List.length_nil,Nat.zero_add]at this
 omega
def nhD (y:Z6)(e a b u d:Int):Z6:=((Zn y),e,a,b,u,(Zo y),(Zp y),d,(Z8 y).1,(Z8 y).2,(Z7 y).1,(Z7 y).2,(Zi y),(Z9 y).1,(Z9 y).2,(Zg y))
noncomputable def Z07 (h:Z6):ZA:=bif ZZ h then Wb h true else Wb Wy false
theorem Z38 (h:Z6)(hx:ZD h≤1050000):Xd h=some (Z07 h):=by
 unfold Xd Z07
 rw[Z0g _ hx,bind_s]
 cases ZZ h<;>rfl
noncomputable def UB (x0:Z6)(x2 x3:Int):Bool:=ZZ x0&&(YV x2 (Za x0) 100000&&YV x3 0 200)
noncomputable def Xz (x0:Z6)(x1 x2 x3:Int):Z6:=nhD x0 (IntKind.i64.wrap ((Zm x0)+(1:Int))) x1 x2 (IntKind.i64.wrap (x2+x3)) (Qd x0)
noncomputable def Z0e (x0:Z6)(x1 x2 x3:Int):ZA:=bif UB x0 x2 x3 then Z07 (Xz x0 x1 x2 x3)else Wb Wy false
theorem Z6O (x0:Z6)(x1 x2 x3:Int)(v:Bool)(hx:ZD x0≤1050000):Yi.l5 x0 x1 x2 x3 v=some (bif v then Wb Wy false else Z07 (Xz x0 x1 x2 x3)):=by
 cases v with
 |true=>rfl
 |false=>
  show((YX x0).bind fun y2=>(X5 x0).bind fun y3=>(Xd (nhD y2 (IntKind.i64.wrap ((Zm x0)+(1:Int))) x1 x2 (IntKind.i64.wrap (x2+x3)) y3)).bind fun y4=>some y4)=_
  have hn:ZD (nhD x0 (IntKind.i64.wrap ((Zm x0)+(1:Int))) x1 x2 (IntKind.i64.wrap (x2+x3)) (Qd x0))≤1050000:=hx
  rw[Z0E _ hx,bind_s,Z25 _ hx,bind_s,Z38 _ hn,bind_s];rfl
theorem Z6P (x0:Z6)(x1 x2 x3:Int)(hx:ZD x0≤1050000):Yi x0 x1 x2 x3=some (Z0e x0 x1 x2 x3):=by
 unfold Yi
 simp only[Yi.b,Z0g _ hx,Z0G,bind_s,Z6O _ _ _ _ _ hx]
 unfold Z0e UB
 cases ZZ x0<;>cases YV x2 (Za x0) 100000<;>cases YV x3 0 200<;>rfl
def UM (x2 x3:Int):Int:=bif YV x2 0 100000&&YV x3 0 200 then IntKind.i64.wrap (x2+x3)else 100001
theorem Z3R (x2 x3:Int):YM x2 x3=some (UM x2 x3):=by
 unfold YM UM
 simp only[YM.b,YM.l7,YM.g7,Z0n,bind_s]
 cases YV x2 0 100000<;>cases YV x3 0 200<;>rfl
noncomputable def UK (x0:Z6)(x1 x2 x3:Int):Z6:=nhD x0 (IntKind.i64.wrap ((Zm x0)+(1:Int))) x1 x2 (UM x2 x3) (Qd x0)
theorem Z68 (x0:Z6)(x1 x2 x3:Int)(h:YV x2 0 100000=false):ZZ (UK x0 x1 x2 x3)=false:=by
 cases hb:ZZ (UK x0 x1 x2 x3)with
 |false=>rfl
 |true=>
  have h1:=(Z1K _ hb).2.2
  have h2:UM x2 x3≤100000:=h1
  unfold UM at h2
  rw[h,Bool.false_and,cond_f]at h2
  omega
theorem Z69 (x0:Z6)(x1 x2 x3:Int)(h:YV x2 0 100000=true)(h':YV x3 0 200=true):UK x0 x1 x2 x3=Xz x0 x1 x2 x3:=by
 unfold UK Xz UM
 rw[h,h',Bool.and_self,cond_t]
theorem Z1N (k:Zc)(hx:k.1.length≤1050000)(h:XR k=true):k.1.length≤4:=by
 obtain⟨s,hs,hS⟩:=Z1m k hx 0 KK (Nat.zero_le _) (KK_gt (by omega))
 have e:ZT k=some s:=hs
 rw[Z04 k hx,h]at e
 injection e with e
 have:=(hS.mp e.symm).2.1
 omega
theorem Z3m (k:Zc)(h:XH k=true):k.1.length≤4:=by
 unfold XH at h
 simp only[Bool.and_eq_true,beq_iff_eq]at h
 omega
theorem Z19 (x:Z6)(hx:ZD x≤1050000)(h:ZZ x=true):ZD x≤12:=by
 have hs:=hx
 unfold ZD WK at hs
 unfold ZZ QV at h
 simp only[Bool.and_eq_true]at h
 obtain⟨_,_,_,h1,h2,h3⟩:=h
 have l1:=Z1N _ (by omega) h1
 have l2:(Z7 x).1.length≤4:=by
  cases hn:XH (Z7 x)with
  |true=>exact Z3m _ hn
  |false=>
   rw[hn,cond_f,Bool.and_eq_true]at h2
   exact Z1N _ (by omega) h2.1
 have l3:(Z9 x).1.length≤4:=by
  rw[Bool.or_eq_true,Bool.and_eq_true]at h3
  rcases h3 with h3|h3
  ·exact Z1N _ (by omega) h3
  ·exact Z3m _ h3.1
 unfold ZD WK
 omega
theorem aB {e f:Option Bool}{b c:Bool}(h:e=some b)(hf:f=some c):(e.bind fun y=>bif y then f else some false)=some (b&&c):=by
 rw[h,bind_s,hf];cases b<;>rfl
theorem aC {f:Option Bool}{c d:Bool}(hf:f=some d):(bif c then f else some false)=some (c&&d):=by
 rw[hf];cases c<;>rfl
theorem aL {α:Type}{e:Option α}{b:α}(h:e=some b):(e.bind fun y=>some y)=some b:=by rw[h,bind_s]
theorem Z06 {xs:List Z5}{i:Nat}(h:i<xs.length){n:Nat}(hx:YQ xs≤n):X2 xs[i]≤n:=by
 have:=Z0i X2 h
 unfold YQ YO at hx
 omega
theorem Z0a {xs:List Z4}{i:Nat}(h:i<xs.length){n:Nat}(hx:Zx xs≤n):Yp xs[i]≤n:=by
 have:=Z0i Yp h
 unfold Zx YO at hx
 omega
def Qj (k:Zc)(s:Int):Int:=([(239:Int),s]++WB k).foldl QH 11
theorem Z3E (k:Zc)(s:Int)(hk:k.1.length≤1050000):Wt k s=some (Qj k s):=by
 have hl:=Z0d k
 unfold Wt Qj
 rw[Z1n k hk,bind_s,decide_eq_true (by simp[hl];omega),cond_t,Z03 _ (by simp[hl];omega),bind_s]
theorem Z1H (k:Zc)(s:Int)(hk:k.1.length≤1050000):XZ k s=some (Qj k s):=by
 have hl:=Z0d k
 unfold XZ Qj
 rw[Z15 k hk,bind_s,decide_eq_true (by simp[hl];omega),cond_t,Z0A _ (by simp[hl];omega),bind_s]
noncomputable def Z0c (k:Zc)(m:List Int)(sg:List Zb):Bool:=XR k&&decide (UW (Q4 sg m) k.1 0≥k.2)
theorem Z3z (k:Zc)(m:List Int)(sg:List Zb)(hk:k.1.length≤1050000)(hs:sg.length≤1050000)(hm:m.length≤8388608):Wr k m sg=some (Z0c k m sg):=by
 unfold Wr Z0c
 exact aB (Z04 k hk) (Zf (Z6u k m sg hk hs hm) rfl)
theorem Z5a (k:Zc)(m:List Int)(sg:List Zb)(hk:k.1.length≤1050000)(hs:sg.length≤1050000)(hm:m.length≤8388608):WV k m sg=some (Z0c k m sg):=by
 unfold WV Z0c
 exact aB (Z14 k hk) (Zf (Z4T k m sg hk hs hm) rfl)
noncomputable def UC (s:Z5)(k:Zc):Bool:=Z0c k (XN (Ze s)) (W3 s)
theorem Z1E (x:Z6)(hx:ZD x≤1050000):(XN x).length≤8388608:=by rw[QG];omega
theorem Z1a (s:Z5)(k:Zc)(hs:X2 s≤1050000)(hk:k.1.length≤1050000):X1 s k=some (UC s k):=by
 unfold X2 at hs
 unfold X1 UC
 exact Zf (Z0B _ (by omega)) (aL (Z5a _ _ _ hk (by omega) (Z1E _ (by omega))))
noncomputable def UY (s:Z5):Bool:=ZZ (Ze s)&&(Zm (Ze s)==(0:Int)&&(Zk (Ze s)==(1:Int)&&(!(Zg (Ze s))&&(Zn (Ze s)==Qj (Z8 (Ze s)) (Zr (Ze s))&&UC s (Z8 (Ze s))))))
theorem Z6D (s:Z5)(hs:X2 s≤1050000):Xu s=some (UY s):=by
 unfold X2 at hs
 have hk:(Z8 (Ze s)).1.length≤1050000:=by unfold ZD WK at hs;omega
 unfold Xu UY
 exact aB (Z0g _ (by omega)) (aC (aC (aC (Zf (Z3E _ _ hk) (aC (Zf (Z0O _ (by omega)) (aL (Z3z _ _ _ hk (by omega) (Z1E _ (by omega))))))))))
theorem Z55 (s:Z5)(hs:X2 s≤1050000):Xq s=some (UY s):=by
 have hs':=hs
 unfold X2 at hs'
 have hk:(Z8 (Ze s)).1.length≤1050000:=by unfold ZD WK at hs';omega
 unfold Xq UY
 exact aB (QQ _ (by omega)) (aC (aC (aC (Zf (Z1H _ _ hk) (aC (aL (Z1a _ _ hs hk)))))))
theorem Z1l (a b:Zc)(hx:a.1.length≤1050000):W9 a b=some (decide (a=b)):=by
 unfold W9
 refine(aC (aL (Z43 _ _ (by omega)))).trans ?_
 obtain⟨a1,a2⟩:=a
 obtain⟨b1,b2⟩:=b
 by_cases h1:a1=b1<;>by_cases h2:a2=b2<;>simp[h1,h2]
def QM (a b:Z6):Bool:=Zo a==Zo b&&Zp a==Zp b
theorem Z3B (a b:Z6):Xk a b=some (QM a b):=aC rfl
theorem Z2Z (a b:Z6):Xi a b=some (QM a b):=aC rfl
def Z0L (p h:Z6):Int:=bif Zg p then 4 else bif Zg h then 6 else 1
def Z1Y (p h:Z6):Bool:=XH (Z7 p)||decide ((Za h)<(IntKind.i64.wrap ((Zl p)+(Zi p))))
def Z0z (p h:Z6):Int:=bif Zg p then 4 else bif Z1Y p h then 5 else bif Zg h||(!decide (Z8 h=Z7 p)|| !QM h p)then 6 else 1
def Z0C (p h:Z6):Int:=bif XH (Z9 p)then 5 else bif(Zg h==Zg p)|| !(QM h p&&(decide (Z9 h=Z9 p)&&(decide (Z7 h=Z7 p)&&(Zi h==Zi p))))then 6 else bif Zg h&& !decide (Z8 h=Z8 p)then 6 else 1
theorem Z6R (p h:Z6):Xx p h=some (Z0L p h):=by
 unfold Xx Z0L
 cases Zg p<;>cases Zg h<;>rfl
theorem Qe (h:Z6)(hx:ZD h≤1050000):(Z8 h).1.length≤1050000∧(Z7 h).1.length≤1050000∧(Z9 h).1.length≤1050000:=by
 unfold ZD WK at hx;omega
theorem Z6A (p h:Z6)(hh:ZD h≤1050000):Yb p h=some (Z0z p h):=by
 have hk:=(Qe h hh).1
 unfold Yb Z0z Z1Y
 simp only[Yb.b,Yb.l9,Yb.g9,Z1o,Z1l _ _ hk,Z3B,bind_s]
 generalize decide ((Za h)<(IntKind.i64.wrap ((Zl p)+(Zi p))))=a
 generalize decide (Z8 h=Z7 p)=b
 cases Zg p<;>cases XH (Z7 p)<;>cases a<;>cases Zg h<;>cases b<;>cases QM h p<;>rfl
theorem Z6H (p h:Z6)(hh:ZD h≤1050000):Yc p h=some (Z0C p h):=by
 have hk:=Qe h hh
 unfold Yc Z0C
 simp only[Yc.b,Yc.l9,Yc.g9,Z1o,Z1l _ _ hk.1,Z1l _ _ hk.2.1,Z1l _ _ hk.2.2,Z3B,bind_s,bne]
 generalize (Zi h==Zi p)=w
 generalize (Zg h==Zg p)=q
 generalize decide (Z9 h=Z9 p)=a
 generalize decide (Z7 h=Z7 p)=b
 generalize decide (Z8 h=Z8 p)=d
 cases XH (Z9 p)<;>cases q<;>cases QM h p<;>cases a<;>cases b<;>cases w<;>cases Zg h<;>cases d<;>rfl
def Qp (code:Int)(b:Bool):Int:=bif code==(1:Int)then(bif b then code else 7)else code
noncomputable def QT (p h:Z6):Bool:=Zn h==Zn p&&(Zm h==IntKind.i64.wrap ((Zm p)+(1:Int))&&(Zr h==Qd p&&decide (Za h≥Za p)))
theorem Z5w (p h:Z6)(hp:ZD p≤1050000):Xs p h=some (QT p h):=by
 unfold Xs QT
 exact aC (aC (Zf (Z2T p hp) (aC rfl)))
noncomputable def Z1b (p:Z6)(s:Z5):Int:=
 bif Zk (Ze s)==(2:Int)then Qp (Z0z p (Ze s)) (UC s (Z7 p))else bif Zk (Ze s)==(3:Int)then Qp (Z0C p (Ze s)) (UC s (Z9 p))else Qp (Z0L p (Ze s)) (UC s (Z8 p))
noncomputable def U2 (p:Z6)(s:Z5):Int:=
 bif !(ZZ p&&ZZ (Ze s))then 2 else bif !QT p (Ze s)then 3 else Z1b p s
theorem Z4E (c:Int)(b:Bool):(bif c==(1:Int)then(bif !b then some (7:Int)else some c)else some c)=some (Qp c b):=by
 unfold Qp
 cases(c==(1:Int))<;>cases b<;>rfl
theorem Z26 (s:Z5)(c:Int)(k:Zc)(hs:X2 s≤1050000)(hk:k.1.length≤1050000):Zy.l31 s c k.1 k.2=some (Qp c (UC s k)):=by
 unfold X2 at hs
 unfold Zy.l31
 simp only[Zy.g31,Z0O _ (show ZD (Ze s)≤1050000 by omega),Z3z k _ _ hk (show(W3 s).length≤1050000 by omega) (Z1E (Ze s) (by omega)),bind_s]
 exact Z4E c _
theorem Z3A (p:Z6)(s:Z5)(hp:ZD p≤1050000)(hs:X2 s≤1050000):Zy p s=some (U2 p s):=by
 have hs':=hs
 unfold X2 at hs'
 have hk:=Qe p hp
 unfold Zy U2 QT
 simp only[Zy.b,Zy.l9,Zy.g9,Zy.l13,Zy.g13,Z0g p hp,Z0g (Ze s) (show _≤1050000 by omega),Z25 p hp,Z6R,Z6A p (Ze s) (by omega),Z6H p (Ze s) (by omega),Z26 s _ _ hs hk.1,Z26 s _ _ hs hk.2.1,Z26 s _ _ hs hk.2.2,bind_s,QO,bne]
 show some _=some _
 unfold Z1b
 congr 1
 generalize (Zn (Ze s)==Zn p)=a
 generalize (Zm (Ze s)==IntKind.i64.wrap ((Zm p)+(1:Int)))=b
 generalize (Zr (Ze s)==Qd p)=c
 have e:decide ((Za (Ze s))<(Za p))= !decide (Za (Ze s)≥Za p):=by
  by_cases h:Za (Ze s)<Za p
  ·rw[decide_eq_true h,decide_eq_false (by omega)];rfl
  ·rw[decide_eq_false h,decide_eq_true (by omega)];rfl
 rw[e]
 generalize decide (Za (Ze s)≥Za p)=d
 cases ZZ p<;>cases ZZ (Ze s)<;>cases a<;>cases b<;>cases c<;>cases d<;>rfl
theorem Z5j (p:Z6)(s:Z5)(hp:ZD p≤1050000)(hs:X2 s≤1050000):Xt p s=some (Qp (Z0L p (Ze s)) (UC s (Z8 p))):=by
 have hk:=Qe p hp
 unfold Xt Z0L
 rw[Z1a s _ hs hk.1,bind_s]
 cases Zg p<;>cases Zg (Ze s)<;>cases UC s (Z8 p)<;>rfl
theorem Z53 (p:Z6)(s:Z5)(hp:ZD p≤1050000)(hs:X2 s≤1050000):ZI p s=some (Qp (Z0z p (Ze s)) (UC s (Z7 p))):=by
 have hk:=Qe p hp
 have hs':=hs
 unfold X2 at hs'
 have hq:=Qe (Ze s) (by omega)
 unfold ZI Z0z Z1Y
 simp only[ZI.b,ZI.l11,ZI.g11,ZI.l15,ZI.g15,Z16,QN _ _ hq.1,Z2Z,Z1a s _ hs hk.2.1,bind_s]
 generalize decide ((Za (Ze s))<(IntKind.i64.wrap ((Zl p)+(Zi p))))=a
 generalize decide (Z8 (Ze s)=Z7 p)=b
 generalize UC s (Z7 p)=c
 cases Zg p<;>cases XH (Z7 p)<;>cases a<;>cases Zg (Ze s)<;>cases b<;>cases QM (Ze s) p<;>cases c<;>rfl
theorem Z5b (p:Z6)(s:Z5)(hp:ZD p≤1050000)(hs:X2 s≤1050000):ZJ p s=some (Qp (Z0C p (Ze s)) (UC s (Z9 p))):=by
 have hk:=Qe p hp
 have hs':=hs
 unfold X2 at hs'
 have hq:=Qe (Ze s) (by omega)
 unfold ZJ Z0C
 simp only[ZJ.b,ZJ.l7,ZJ.g7,ZJ.l13,ZJ.g13,Z16,QN _ _ hq.1,QN _ _ hq.2.1,QN _ _ hq.2.2,Z2Z,Z1a s _ hs hk.2.2,bind_s]
 generalize (Zi (Ze s)==Zi p)=w
 generalize (Zg (Ze s)==Zg p)=q
 generalize decide (Z9 (Ze s)=Z9 p)=a
 generalize decide (Z7 (Ze s)=Z7 p)=b
 generalize decide (Z8 (Ze s)=Z8 p)=d
 generalize UC s (Z9 p)=c
 cases XH (Z9 p)<;>cases q<;>cases QM (Ze s) p<;>cases a<;>cases b<;>cases w<;>cases Zg (Ze s)<;>cases d<;>cases c<;>rfl
theorem Z5v (x:Z6)(h:ZZ x=true):Zk x=1∨Zk x=2∨Zk x=3:=by
 unfold ZZ hr4 at h
 simp only[Bool.and_eq_true]at h
 have h1:=h.1.2.2.2.2
 unfold YV at h1
 simp only[Bool.and_eq_true,decide_eq_true_eq]at h1
 omega
theorem Z2W (p:Z6)(s:Z5)(hp:ZD p≤1050000)(hs:X2 s≤1050000):Y3 p s=some (U2 p s):=by
 have hs':=hs
 unfold X2 at hs'
 unfold Y3 U2
 simp only[Y3.b,Y3.l5,Y3.g5,QQ p hp,QQ (Ze s) (show _≤1050000 by omega),Z5w p _ hp,Z5j p s hp hs,Z53 p s hp hs,Z5b p s hp hs,bind_s]
 cases h1:ZZ p with
 |false=>rfl
 |true=>
  cases h2:ZZ (Ze s)with
  |false=>rfl
  |true=>
   cases QT p (Ze s)with
   |false=>rfl
   |true=>
    show _=some (Z1b p s)
    unfold Z1b
    rcases Z5v _ h2 with h|h|h<;>rw[h]<;>rfl
noncomputable def Qh (p:Z6)(s:Z5):Bool:=U2 p s==(1:Int)
theorem Z6M (p:Z6)(s:Z5)(hp:ZD p≤1050000)(hs:X2 s≤1050000):Xv p s=some (Qh p s):=Zf (Z3A p s hp hs) rfl
theorem Z5g (p:Z6)(s:Z5)(hp:ZD p≤1050000)(hs:X2 s≤1050000):Xr p s=some (Qh p s):=Zf (Z2W p s hp hs) rfl
noncomputable def fw :Option Z6→List Z5→Int→Int
 |_,[],_=> -1
 |none,s::t,k=>bif !UY s then k else fw (some (Ze s)) t (k+1)
 |some p,s::t,k=>bif !Qh p s then k else fw (some (Ze s)) t (k+1)
def Z01 (xs:List Z5):Nat→Option Z6
 |0=>none
 |j+1=>some (Ze (xs.getD j X3))
theorem Z2K (o:Option Z6)(xs:List Z5)(k:Int):fw o (xs.drop xs.length) k= -1:=by
 rw[List.drop_length]
 cases o<;>rfl
theorem Z2M {xs:List Z5}(h:0<xs.length):fw none (xs.drop 0) 0=bif !UY xs[0]then 0 else fw (Z01 xs 1) (xs.drop 1) 1:=by
 rw[List.drop_eq_getElem_cons h]
 show _=bif !UY xs[0]then 0 else fw (some (Ze (xs.getD 0 X3))) (xs.drop 1) 1
 rw[at_n h];rfl
theorem Z2L {xs:List Z5}{j:Nat}(h:j+1<xs.length):fw (Z01 xs (j+1)) (xs.drop (j+1)) ((j+1:Nat):Int)=bif !Qh (Ze xs[j]) xs[j+1]then((j+1:Nat):Int)else fw (Z01 xs (j+2)) (xs.drop (j+2)) ((j+2:Nat):Int):=by
 rw[List.drop_eq_getElem_cons h]
 show fw (some (Ze (xs.getD j X3))) _ _=bif !Qh (Ze xs[j]) xs[j+1]then((j+1:Nat):Int)else fw (some (Ze (xs.getD (j+1) X3))) (xs.drop (j+2)) ((j+2:Nat):Int)
 rw[at_n h,at_n (show j<xs.length by omega)];rfl
theorem Z0y {xs:List Z5}{i:Nat}(h:i<xs.length){n:Nat}(hx:YQ xs≤n):ZD (Ze xs[i])≤n:=by
 have:=Z06 h hx
 unfold X2 at this
 omega
theorem Z6x (x0:List Z5)(hx:YQ x0≤1050000):∀i n,i≤x0.length→x0.length-i<n→Yh.l4 x0 n (i:Int)=some (fw (Z01 x0 i) (x0.drop i) (i:Int)):=by
 have hl:x0.length≤1050000:=by unfold YQ YO at hx;omega
 refine idx_ind ?_ ?_
 ·intro n
  rw[Yh.u4]
  simp only[Yh.g4,lt_f (Nat.le_refl _),cond_f,Z2K]
 ·intro i n hi ih
  rw[Yh.u4]
  match i,hi,ih with
  |0,hi,ih=>
   have e:=Z2M hi
   have hg:x0.getD ((0:Int).toNat) X3=x0[0]:=at_n hi _
   simp only[Yh.g4,lt_t hi,cond_t,Int.natCast_zero,beq_self_eq_true,decide_eq_true (Int.le_refl 0),hg,Z6D _ (Z06 hi hx),bind_s]
   rw[decide_eq_true (show(0:Int)<(x0.length:Int) by omega),cond_t,cond_t,wd (n:=(0:Int)+1) (by omega),decide_eq_false (by omega),cond_f,show(0:Int)+1=((0+1:Nat):Int)from rfl,ih]
   rw[show Z01 x0 0=none from rfl,e,QO];rfl
  |j+1,hi,ih=>
   have e:=Z2L hi
   have hj:j<x0.length:=by omega
   have ew:IntKind.i64.wrap (((j+1:Nat):Int)-1)=(j:Int):=by rw[wd (by omega)];omega
   simp only[Yh.g4,lt_t hi,cond_t,ew,ge_t,lt_t hj,Int.toNat_natCast,at_n hi,at_n hj,Z6M _ _ (Z0y hj hx) (Z06 hi hx),bind_s]
   rw[show(((j+1:Nat):Int)==(0:Int))=false by rw[beq_eq_false_iff_ne];omega,cond_f,decide_eq_true (by omega),cond_t,w64_succ (by omega),ih,e,QO]
theorem Z50 (x0:List Z5)(hx:YQ x0≤1050000):∀i n,i≤x0.length→x0.length-i<n→Yf.l4 x0 n (x0.length:Int) (i:Int)=some (fw (Z01 x0 i) (x0.drop i) (i:Int)):=by
 have hl:x0.length≤1050000:=by unfold YQ YO at hx;omega
 refine idx_ind ?_ ?_
 ·intro n
  rw[Yf.u4]
  simp only[Yf.g4,lt_f (Nat.le_refl _),cond_f,Z2K]
 ·intro i n hi ih
  rw[Yf.u4]
  match i,hi,ih with
  |0,hi,ih=>
   have e:=Z2M hi
   have hg:x0.getD ((0:Int).toNat) X3=x0[0]:=at_n hi _
   simp only[Yf.g4,lt_t hi,cond_t,Int.natCast_zero,beq_self_eq_true,decide_eq_true (Int.le_refl 0),hg,Z55 _ (Z06 hi hx),bind_s]
   rw[decide_eq_true (show(0:Int)<(x0.length:Int) by omega),cond_t,cond_t,wd (n:=(0:Int)+1) (by omega),decide_eq_false (by omega),cond_f,show(0:Int)+1=((0+1:Nat):Int)from rfl,ih]
   rw[show Z01 x0 0=none from rfl,e,QO];rfl
  |j+1,hi,ih=>
   have e:=Z2L hi
   have hj:j<x0.length:=by omega
   have ew:IntKind.i64.wrap (((j+1:Nat):Int)-1)=(j:Int):=by rw[wd (by omega)];omega
   simp only[Yf.g4,lt_t hi,cond_t,ew,ge_t,lt_t hj,Int.toNat_natCast,at_n hi,at_n hj,Z5g _ _ (Z0y hj hx) (Z06 hi hx),bind_s]
   rw[show(((j+1:Nat):Int)==(0:Int))=false by rw[beq_eq_false_iff_ne];omega,cond_f,decide_eq_true (by omega),cond_t,w64_succ (by omega),ih,e,QO]
noncomputable def XA (xs:List Z5):Bool:=YV (xs.length:Int) 1 12&&decide (fw none xs 0<0)
theorem Z6y (x0:List Z5)(hx:YQ x0≤1050000):Yh x0=some (fw none x0 0):=
 Z6x x0 hx 0 KK (Nat.zero_le _) (KK_gt (by unfold YQ YO at hx;omega))
theorem Z51 (x0:List Z5)(hx:YQ x0≤1050000):Yf x0=some (fw none x0 0):=
 Z50 x0 hx 0 KK (Nat.zero_le _) (KK_gt (by unfold YQ YO at hx;omega))
theorem Z6B (x0:List Z5)(hx:YQ x0≤1050000):Ud x0=some (XA x0):=by
 unfold Ud XA
 exact aB (Z0G _ _ _) (Zf (Z6y x0 hx) rfl)
theorem Z2U (x0:List Z5)(hx:YQ x0≤1050000):Wn x0=some (XA x0):=by
 unfold Wn XA
 exact aB (Z0n _ _ _) (Zf (Z51 x0 hx) rfl)
theorem Z1J (xs:List Z5)(h:XA xs=true):1≤xs.length∧xs.length≤12:=by
 unfold XA YV at h
 simp only[Bool.and_eq_true,decide_eq_true_eq]at h
 omega
theorem Z5E (xs:List Z5)(i:Nat)(n:Nat)(hx:YQ xs≤n):ZD (Ze (xs.getD i X3))≤n:=by
 by_cases h:i<xs.length
 ·rw[at_n h];exact Z0y h hx
 ·have e:xs.getD i X3=X3:=by simp[List.getD,show xs.length≤i by omega]
  rw[e];exact Nat.zero_le _
theorem Z3b (x:List ByteArray)(hx:x.length≤1050000):Ww x=some x:=by
 unfold Ww
 rw[decide_eq_true (by simp;omega),cond_t];rfl
theorem Z3X (x:List ByteArray)(hx:x.length≤1050000):U6 x=some x:=by
 have e:(bif decide (([]:List ByteArray).length+x.length<68719476736)then some ([]++x)else none)=some x:=by
  rw[decide_eq_true (by simp;omega),cond_t];rfl
 unfold U6
 rw[e]
 cases x with
 |nil=>exact both_eq _
 |cons a t=>rfl
theorem Z2E (e:Z4)(hx:Yp e≤1050000):e.2.2.2.length≤1050000:=by
 unfold Yp Xj YO at hx;omega
theorem Z1d (e:Z4)(hx:Yp e≤1050000):W2 e=some e:=by
 unfold W2
 exact Zf (Z3b _ (Z2E e hx)) rfl
theorem Z4s (e:Z4)(hx:Yp e≤1050000):WI e=some e:=by
 unfold WI
 exact Zf (Z3X _ (Z2E e hx)) rfl
theorem Z2g (c:Bool)(h:Z6):XU (bif c then Wb h true else W5)=c∧(c=true→Z0 (bif c then Wb h true else W5)=h):=by
 cases c
 ·exact⟨rfl,fun h=>Bool.noConfusion h⟩
 ·exact⟨rfl,fun _=>rfl⟩
theorem Z6c (x0:Z6)(x1 x2 x3:Int):XU (Z0e x0 x1 x2 x3)=(UB x0 x2 x3&&ZZ (Xz x0 x1 x2 x3)):=by
 unfold Z0e Z07
 cases UB x0 x2 x3<;>cases ZZ (Xz x0 x1 x2 x3)<;>rfl
theorem Z6b (x0:Z6)(x1 x2 x3:Int)(h:(UB x0 x2 x3&&ZZ (Xz x0 x1 x2 x3))=true):Z0 (Z0e x0 x1 x2 x3)=Xz x0 x1 x2 x3:=by
 rw[Bool.and_eq_true]at h
 unfold Z0e Z07
 rw[h.1,h.2,cond_t,cond_t]
 exact(Z0o _ _).1
theorem Z3k (x0:Z6)(x1 x2 x3:Int):ZD (Xz x0 x1 x2 x3)=ZD x0:=by unfold Xz nhD;rfl
theorem Z5r {α:Type}(xs:List α)(d:α)(f:α→Option Bool)(p:α→Bool)(hl:xs.length≤1050000)(hf:∀i (h:i<xs.length),f xs[i]=some (p xs[i]))(l:Nat→Int→Int→Option Int)(u:∀n L a,l (n+1) L a=(bif decide (a<L)then bif decide (0≤a)then bif decide (a<(xs.length:Int))then(f (xs.getD a.toNat d)).bind fun y1=>bif y1 then some a else l n L (IntKind.i64.wrap (a+(1:Int)))else none else none else some (-1:Int))):l KK (xs.length:Int) (0:Int)=some (UH p xs 0):=by
 have hh:∀i n,i≤xs.length→xs.length-i<n→l n (xs.length:Int) (i:Int)=some (UH p (xs.drop i) (i:Int)):=by
  refine idx_ind ?_ ?_
  ·intro n
   rw[u]
   simp only[lt_f (Nat.le_refl _),cond_f,Z1C]
  ·intro i n hi ih
   rw[u]
   simp only[lt_t hi,ge_t,cond_t,Int.toNat_natCast,at_n hi,hf i hi,bind_s,w64_succ (i:=i) (by omega),ih,Z1D p hi]
   cases p xs[i]<;>rfl
 have:=hh 0 KK (Nat.zero_le _) (KK_gt (by omega))
 rw[List.drop_zero]at this
 exact this
theorem Z4r {α:Type}(xs:List α)(p:α→Bool){e:Option Int}(h:e=some (UH p xs 0)):(e.bind fun y1=>some (decide (y1≥(0:Int))))=some (xs.any p):=by
 rw[h,bind_s,Z1B _ _ _ (Int.le_refl 0)]
theorem Z0W {α:Type}(xs:List α)(d:α)(f:α→Option α)(hl:xs.length≤1050000)(hf:∀i (h:i<xs.length),f xs[i]=some xs[i])(l:Nat→List α→Int→Option (List α))(u:∀n ys a,l (n+1) ys a=(bif decide (a<(xs.length:Int))then bif decide (0≤a)then bif decide (a<(xs.length:Int))then(f (xs.getD a.toNat d)).bind fun y1=>bif decide (ys.length+[y1].length<68719476736)then l n (ys++[y1]) (IntKind.i64.wrap (a+(1:Int)))else none else none else none else some ys)):l KK [] (0:Int)=some xs:=by
 have hh:∀i n,i≤xs.length→xs.length-i<n→l n (xs.take i) (i:Int)=some xs:=by
  refine idx_ind ?_ ?_
  ·intro n
   rw[u]
   simp only[lt_f (Nat.le_refl _),cond_f,List.take_length]
  ·intro i n hi ih
   rw[u]
   have hg:(xs.take i).length+[xs[i]].length<68719476736:=by rw[List.length_take];show _+1<_;omega
   simp only[lt_t hi,ge_t,cond_t,Int.toNat_natCast,at_n hi,hf i hi,bind_s,w64_succ (i:=i) (by omega),List.take_append_getElem hi]
   rw[decide_eq_true hg,cond_t]
   exact ih
 have:=hh 0 KK (Nat.zero_le _) (KK_gt (by omega))
 rw[List.take_zero]at this
 exact this
def Wh (xs:List Z5):Z5:=xs.getD (IntKind.i64.wrap ((xs.length:Int)-(1:Int))).toNat X3
noncomputable def Uu (xs:List Z5):ZA:=bif XA xs then Wb (Ze (Wh xs)) true else W5
theorem wl {n:Nat}(h:1≤n∧n≤12):IntKind.i64.wrap ((n:Int)-(1:Int))=(n:Int)-1:=wd (by omega)
theorem QK (xs:List Z5)(hx:YQ xs≤1050000):ZD (Ze (Wh xs))≤1050000:=Z5E xs _ _ hx
theorem QL (xs:List Z5)(hx:YQ xs≤1050000):Xb xs=some (Uu xs):=by
 unfold Xb Uu
 refine Zf (Z6B xs hx) ?_
 cases hc:XA xs with
 |false=>rfl
 |true=>
  have hl:=Z1J xs hc
  exact cF rfl (cT (decide_eq_true (by rw[wl hl];omega)) (cT (decide_eq_true (by rw[wl hl];omega)) (Zf (Z0E _ (QK xs hx)) rfl)))
theorem Z0I (xs:List Z5)(hc:XA xs=true):XG xs=some (Ze (Wh xs)):=by
 have hl:=Z1J xs hc
 unfold XG
 exact cT (decide_eq_true (by rw[wl hl];omega)) (cT (decide_eq_true (by rw[wl hl];omega)) rfl)
theorem Z5Z (xs:List Z5)(hx:YQ xs≤1050000):ZD (Z0 (Uu xs))≤1050000:=by
 unfold Uu
 cases XA xs with
 |false=>exact Nat.zero_le _
 |true=>rw[cond_t,(Z0o _ _).1];exact QK xs hx
theorem Z0F (xs:List Z5)(hx:YQ xs≤1050000):Yd xs=some xs:=
 Z0W xs X3 Xc (by unfold YQ YO at hx;omega) (fun i h=>Z36 _ (Z06 h hx)) (fun n ys a=>Yd.l6 xs n a ys) (fun n ys a=>Yd.u6 xs n a ys)
theorem Z2y (xs:List Z5)(hx:YQ xs≤1050000):Yo xs=some xs:=
 Z0W xs X3 Xa (by unfold YQ YO at hx;omega) (fun i h=>Z2z _ (Z06 h hx)) (fun n ys a=>Yo.l6 xs n (xs.length:Int) a ys) (fun n ys a=>Yo.u6 xs n (xs.length:Int) a ys)
noncomputable def QD (xs:List Z5)(s:Z5)(v:Bool):List Z5×Int:=bif v then(xs,2)else bif U2 (Ze (Wh xs)) s !=(1:Int)then(xs,U2 (Ze (Wh xs)) s)else(xs++[s],1)
noncomputable def ext (xs:List Z5)(s:Z5):List Z5×Int:=QD xs s (!XA xs||decide ((xs.length:Int)≥(12:Int)))
theorem QX (xs:List Z5):XU (Uu xs)=XA xs∧(XA xs=true→Z0 (Uu xs)=Ze (Wh xs)):=Z2g (XA xs) (Ze (Wh xs))
theorem Z2m (xs:List Z5)(s:Z5)(hx:YQ xs≤1050000):decide (xs.length+[s].length<68719476736)=true:=by
 refine decide_eq_true ?_
 show xs.length+1<_
 unfold YQ YO at hx
 omega
theorem Z6w (xs:List Z5)(s:Z5)(hx:YQ xs≤1050000)(hs:X2 s≤1050000)(hc:XA xs=true)(v:Bool):Ya.l7 xs s (Uu xs) v=some (QD xs s v):=by
 unfold QD
 cases v with
 |true=>exact Zf (Z0F xs hx) rfl
 |false=>
  show((Zy (Z0 (Uu xs)) s).bind _)=_
  rw[(QX xs).2 hc]
  refine Zf (Z3A _ s (QK xs hx) hs) ?_
  cases U2 (Ze (Wh xs)) s !=(1:Int)with
  |true=>exact Zf (Z0F xs hx) rfl
  |false=>exact Zf (Z0F xs hx) (Zf (Z36 s hs) (cT (Z2m xs s hx) rfl))
theorem Z3w (xs:List Z5)(s:Z5)(hx:YQ xs≤1050000)(hs:X2 s≤1050000):Ya xs s=some (ext xs s):=by
 unfold ext
 refine Zf (QL xs hx) ?_
 rw[(QX xs).1]
 cases hc:XA xs with
 |false=>exact Zf (Z0F xs hx) rfl
 |true=>exact Z6w xs s hx hs hc _
theorem Z4X (xs:List Z5)(s:Z5)(hx:YQ xs≤1050000)(hs:X2 s≤1050000)(hc:XA xs=true)(v:Bool):Yt.l7 xs s xs v=some (QD xs s v):=by
 unfold QD
 cases v with
 |true=>rfl
 |false=>
  refine Zf (Z0I xs hc) (Zf (Z2W _ s (QK xs hx) hs) ?_)
  cases U2 (Ze (Wh xs)) s !=(1:Int)with
  |true=>rfl
  |false=>exact Zf (Z2z s hs) (cT (Z2m xs s hx) rfl)
theorem Z4Y (xs:List Z5)(s:Z5)(hx:YQ xs≤1050000)(hs:X2 s≤1050000):Yt xs s=some (ext xs s):=by
 unfold ext
 refine Zf (Z2y xs hx) (Zf (Z2U xs hx) ?_)
 cases hc:XA xs with
 |false=>rfl
 |true=>exact Z4X xs s hx hs hc _
def hq (s t:Z5):Bool:=Z0b (Ze s) (Ze t)
def Z1j (a b:List Z5):Bool:=decide (a.length≤b.length)&&all2 hq a b
theorem Z6h (a b:List Z5)(h:a.length≤b.length)(hl:a.length≤1050000)(f:Z6→Z6→Option Bool)(hf:∀i (ha:i<a.length) (hb:i<b.length),f (Ze a[i]) (Ze b[i])=some (hq a[i] b[i]))(l:Nat→Int→Option Bool)(u:∀n v,l (n+1) v=(bif decide (v<(a.length:Int))then bif decide (0≤v)then bif decide (v<(a.length:Int))then bif decide (0≤v)then bif decide (v<(b.length:Int))then(f (Ze (a.getD v.toNat X3)) (Ze (b.getD v.toNat X3))).bind fun y1=>bif !y1 then some false else l n (IntKind.i64.wrap (v+(1:Int)))else none else none else none else none else some true)):l KK (0:Int)=some (all2 hq a b):=by
 have hh:∀i n,i≤a.length→a.length-i<n→l n (i:Int)=some (all2 hq (a.drop i) (b.drop i)):=by
  refine idx_ind ?_ ?_
  ·intro n
   rw[u]
   simp only[lt_f (Nat.le_refl _),cond_f,List.drop_length]
   cases b.drop a.length<;>rfl
  ·intro i n hi ih
   have hi':i<b.length:=by omega
   rw[u]
   simp only[lt_t hi,lt_t hi',ge_t,cond_t,Int.toNat_natCast,at_n hi,at_n hi',hf i hi hi',bind_s,w64_succ (i:=i) (by omega),ih,Z2k hq hi hi']
   cases hq a[i] b[i]<;>rfl
 have:=hh 0 KK (Nat.zero_le _) (KK_gt (by omega))
 rw[List.drop_zero,List.drop_zero]at this
 exact this
theorem Z58 (a b:List Z5)(hx:YQ a≤1050000)(hy:YQ b≤1050000):Yv a b=some (Z1j a b):=by
 unfold Yv Z1j
 by_cases h:a.length≤b.length
 ·rw[decide_eq_true h,Bool.true_and]
  exact cF (decide_eq_false (by omega)) (Z6h a b h (by unfold YQ YO at hx;omega) X9 (fun i ha hb=>Z2Q _ _ (Z0y ha hx) (Z0y hb hy)) (fun n v=>Yv.l8 a b n (a.length:Int) v) (fun n v=>Yv.u8 a b n (a.length:Int) v))
 ·rw[decide_eq_false h,Bool.false_and]
  exact cT (decide_eq_true (by omega)) rfl
theorem Z1v :∀a b:List UInt8,Lib.compareBytes a b=bif Op.bytesLess a b then(-1:Int)else bif a==b then 0 else 1
 |[],[]=>rfl
 |[],_::_=>rfl
 |_::_,[]=>rfl
 |a::x,b::y=>by
  have ih:=Z1v x y
  unfold Lib.compareBytes Op.bytesLess
  by_cases h:a<b
  ·rw[if_pos h,decide_eq_true h,Bool.true_or];rfl
  ·rw[if_neg h,decide_eq_false h,Bool.false_or]
   by_cases g:b<a
   ·rw[if_pos g]
    have ne:(a==b)=false:=by rw[beq_eq_false_iff_ne];rintro rfl;exact h g
    have ne2:(a::x==b::y)=false:=by rw[List.cons_beq_cons,ne,Bool.false_and]
    rw[ne,ne2,Bool.false_and];rfl
   ·have e:a=b:=UInt8.le_antisymm (UInt8.not_lt.1 g) (UInt8.not_lt.1 h)
    subst e
    rw[if_neg g,ih,beq_self_eq_true,Bool.true_and,List.cons_beq_cons,beq_self_eq_true,Bool.true_and]
theorem Z2u :∀a b:List UInt8,Lib.compareBytes b a= -Lib.compareBytes a b
 |[],[]=>rfl
 |[],_::_=>rfl
 |_::_,[]=>rfl
 |a::x,b::y=>by
  have ih:=Z2u x y
  unfold Lib.compareBytes
  by_cases h:a<b
  ·have g:¬b<a:=fun g=>UInt8.lt_irrefl _ (UInt8.lt_trans h g)
   rw[if_pos h,if_neg g,if_pos h];rfl
  ·by_cases g:b<a
   ·rw[if_pos g,if_neg h,if_pos g]
   ·rw[if_neg h,if_neg g,if_neg g,if_neg h,ih]
theorem Z4q (a b:List UInt8):Lib.compareBytes a b= -1∨Lib.compareBytes a b=0∨Lib.compareBytes a b=1:=by
 rw[Z1v]
 cases Op.bytesLess a b<;>cases a==b<;>simp
def WP (a b:ByteArray):Int:=Lib.compareBytes a.data.toList b.data.toList
theorem Z4n (a b:ByteArray):WP b a= -WP a b:=Z2u _ _
theorem Z4p (a b:ByteArray):WP a b= -1∨WP a b=0∨WP a b=1:=Z4q _ _
theorem Z4o (a b:ByteArray):decide (WP b a≤0)=(WP a b != -1):=by
 rw[Z4n a b]
 rcases Z4p a b with h|h|h<;>rw[h]<;>rfl
def Q8 (p:Nat→Bool)(n:Nat):Bool:=decide (∀i,i<n→p i=true)
theorem Z09 (p:Nat→Bool)(n:Nat):Q8 p n=true↔∀i,i<n→p i=true:=by unfold Q8;exact decide_eq_true_iff
theorem Z0p {len:Nat}(hl:len≤1152921504606846976)(p:Nat→Bool)(z:Bool)(l:Nat→Int→Option Bool)(u0:∀n,l (n+1) (len:Int)=some z)(u:∀n i,i<len→l (n+1) (i:Int)=bif p i then l n ((i+1:Nat):Int)else some false):l KK (0:Int)=some (Q8 p len&&z):=by
 have hh:∀i n,i≤len→len-i<n→l n (i:Int)=some (decide (∀j,j<len→i≤j→p j=true)&&z):=by
  refine idx_ind ?_ ?_
  ·intro n
   have e:decide (∀j,j<len→len≤j→p j=true)=true:=decide_eq_true (fun j h1 h2=>absurd h1 (by omega))
   rw[u0,e,Bool.true_and]
  ·intro i n hi ih
   rw[u n i hi,ih]
   cases hp:p i with
   |false=>
    have e:decide (∀j,j<len→i≤j→p j=true)=false:=decide_eq_false (fun h=>by have:=h i hi (Nat.le_refl _);rw[hp]at this;cases this)
    rw[cond_f,e,Bool.false_and]
   |true=>
    rw[cond_t]
    have e:decide (∀j,j<len→i≤j→p j=true)=decide (∀j,j<len→i+1≤j→p j=true):=by
     refine decide_eq_decide.2 ⟨fun h j h1 h2=>h j h1 (by omega),fun h j h1 h2=> ?_⟩
     by_cases e:j=i
     ·subst e;exact hp
     ·exact h j h1 (by omega)
    rw[e]
 have:=hh 0 KK (Nat.zero_le _) (KK_gt (by omega))
 have e:decide (∀j,j<len→0≤j→p j=true)=Q8 p len:=decide_eq_decide.2 ⟨fun h j h1=>h j h1 (Nat.zero_le _),fun h j h1 _=>h j h1⟩
 rw[e]at this
 exact this
def QY (c:Int):Bool:=(!(decide (c<97)||decide (c>122)))||(!(decide (c<48)||decide (c>57)))
def XK (s:ByteArray)(i:Nat):Int:=V.bt s (i:Int)
theorem Z6E (s:ByteArray)(hs:s.size≤1050000):ZH.l7 s=some (Q8 (fun i=>QY (XK s i)|| !(XK s i !=(45:Int))) s.size&&true):=by
 refine Z0p (by omega) _ _ (ZH.l8 s) (fun n=> ?_) (fun n i hi=> ?_)
 ·rw[ZH.u8]
  simp only[ZH.g8,lt_f (Nat.le_refl _),cond_f]
 ·rw[ZH.u8]
  simp only[ZH.g8,lt_t hi,ge_t,cond_t,w64_succ (i:=i) (by omega)]
  rw[show V.bt s (i:Int)=XK s i from rfl]
  generalize XK s i=c
  unfold QY
  cases decide (c<97)<;>cases decide (c>122)<;>cases decide (c<48)<;>cases decide (c>57)<;>cases(c !=(45:Int))<;>rfl
theorem Z56 (s:ByteArray)(hs:s.size≤1050000):Y4.l4 s KK (s.size:Int) (0:Int)=some (Q8 (fun i=>QY (XK s i)||((XK s i==(45:Int))&&(decide ((i:Int)>0)&&decide ((i:Int)<IntKind.i64.wrap ((s.size:Int)-(1:Int)))))) s.size&&(decide ((1:Int)≤(s.size:Int))&&decide ((s.size:Int)≤8))):=by
 refine Z0p (by omega) _ _ (fun n v=>Y4.l4 s n (s.size:Int) v) (fun n=> ?_) (fun n i hi=> ?_)
 ·rw[Y4.u4]
  simp only[Y4.g4,lt_f (Nat.le_refl _),cond_f]
  exact Zf (Q6 _ _ _) rfl
 ·rw[Y4.u4]
  simp only[Y4.g4,lt_t hi,ge_t,cond_t,w64_succ (i:=i) (by omega)]
  rw[show V.bt s (i:Int)=XK s i from rfl]
  generalize XK s i=c
  unfold QY
  rw[show decide (c≥97)= !decide (c<97) by by_cases h:c<97<;>simp[h]<;>omega,show decide (c≤122)= !decide (c>122) by by_cases h:c>122<;>simp[h]<;>omega,show decide (c≥48)= !decide (c<48) by by_cases h:c<48<;>simp[h]<;>omega,show decide (c≤57)= !decide (c>57) by by_cases h:c>57<;>simp[h]<;>omega]
  generalize decide ((i:Int)<IntKind.i64.wrap ((s.size:Int)-(1:Int)))=g
  cases decide (c<97)<;>cases decide (c>122)<;>cases decide (c<48)<;>cases decide (c>57)<;>cases(c==(45:Int))<;>cases decide ((i:Int)>0)<;>cases g<;>rfl
def Wp (s:ByteArray):Bool:=(decide (1≤s.size)&&decide (s.size≤8))&&(Q8 (fun i=>QY (XK s i)||((XK s i==(45:Int))&&(decide (0<i)&&decide (i+1<s.size)))) s.size)
theorem Z32 (s:ByteArray)(h:Wp s=true):1≤s.size∧s.size≤8:=by
 unfold Wp at h
 simp only[Bool.and_eq_true,decide_eq_true_eq]at h
 exact h.1
theorem Z2V (s:ByteArray)(hs:s.size≤1050000):Y4 s=some (Wp s):=by
 refine(Z56 s hs).trans (congrArg some (Z0q ?_))
 unfold Wp
 simp only[Bool.and_eq_true,decide_eq_true_eq,Z09,Bool.or_eq_true]
 constructor
 ·intro h
  have hw:IntKind.i64.wrap ((s.size:Int)-(1:Int))=(s.size:Int)-1:=wd (by omega)
  refine⟨by omega,fun i hi=>(h.1 i hi).imp_right fun g=>⟨g.1,by omega,?_⟩⟩
  have:=g.2.2;rw[hw]at this;omega
 ·intro h
  have hw:IntKind.i64.wrap ((s.size:Int)-(1:Int))=(s.size:Int)-1:=wd (by omega)
  refine⟨fun i hi=>(h.2 i hi).imp_right fun g=>⟨g.1,by omega,?_⟩,by omega⟩
  rw[hw];omega
theorem Z3h :QY 45=false:=by decide
theorem Z3y (s:ByteArray)(hs:s.size≤1050000):ZH s=some (Wp s):=by
 unfold ZH
 rw[Z6E s hs]
 refine Zf (Qg _ _ _) ?_
 by_cases hl:1≤s.size∧s.size≤8
 ·have hw:IntKind.i64.wrap ((s.size:Int)-(1:Int))=((s.size-1:Nat):Int):=by rw[wd (by omega)];omega
  refine cF (by rw[decide_eq_true (by omega),decide_eq_true (by omega)];rfl) (cT rfl (cT (decide_eq_true (by omega)) ?_))
  rw[hw]
  rw[show V.bt s (0:Int)=XK s 0 from rfl,show V.bt s ((s.size-1:Nat):Int)=XK s (s.size-1)from rfl]
  have key:(bif XK s 0==(45:Int)then false else bif XK s (s.size-1)==(45:Int)then false else(Q8 (fun i=>QY (XK s i)|| !(XK s i !=(45:Int))) s.size&&true))=Wp s:=by
   unfold Wp
   rw[decide_eq_true hl.1,decide_eq_true hl.2,Bool.and_self,Bool.true_and,Bool.and_true]
   refine Z0q ?_
   rw[Z09]
   constructor
   ·intro h i hi
    cases h0:(XK s 0==(45:Int))with
    |true=>rw[h0]at h;cases h
    |false=>
     rw[h0,cond_f]at h
     cases h1:(XK s (s.size-1)==(45:Int))with
     |true=>rw[h1]at h;cases h
     |false=>
      rw[h1,cond_f,Z09]at h
      have:=h i hi
      simp only[Bool.or_eq_true,Bool.and_eq_true,decide_eq_true_eq,Bool.not_eq_true',bne_eq_false_iff_eq]at this⊢
      refine this.imp_right fun g=>⟨by rw[g];rfl,?_,?_⟩
      ·refine Nat.pos_of_ne_zero fun e=> ?_
       subst e
       rw[g]at h0;cases h0
      ·refine Nat.lt_of_not_le fun e=> ?_
       have e2:i=s.size-1:=by omega
       subst e2
       rw[g]at h1;cases h1
   ·intro h
    have h0:(XK s 0==(45:Int))=false:=by
     cases hc:(XK s 0==(45:Int))with
     |false=>rfl
     |true=>
      have e:XK s 0=45:=eq_of_beq hc
      have:=h 0 (by omega)
      rw[e,Z3h]at this
      simp at this
    have h1:(XK s (s.size-1)==(45:Int))=false:=by
     cases hc:(XK s (s.size-1)==(45:Int))with
     |false=>rfl
     |true=>
      have e:XK s (s.size-1)=45:=eq_of_beq hc
      have:=h (s.size-1) (by omega)
      rw[e,Z3h]at this
      simp only[Bool.false_or,Bool.and_eq_true,decide_eq_true_eq]at this
      omega
    rw[h0,h1,cond_f,cond_f,Z09]
    intro i hi
    have:=h i hi
    simp only[Bool.or_eq_true,Bool.and_eq_true]at this
    rw[Bool.or_eq_true]
    refine this.imp_right fun g=> ?_
    have e:XK s i=45:=eq_of_beq g.1
    rw[e];rfl
  rw[←key]
  cases(XK s 0==(45:Int))with
  |true=>rfl
  |false=>
   refine cF rfl (cT ge_t (cT (lt_t (by omega)) ?_))
   cases(XK s (s.size-1)==(45:Int))<;>rfl
 ·have e:Wp s=false:=by
   unfold Wp
   have:(decide (1≤s.size)&&decide (s.size≤8))=false:=by
    rw[←Bool.decide_and]
    exact decide_eq_false hl
   rw[this,Bool.false_and]
  rw[e]
  refine cT ?_ rfl
  by_cases h1:1≤s.size
  ·rw[decide_eq_true (show(1:Int)≤(s.size:Int) by omega),decide_eq_false (show¬(s.size:Int)≤8 by omega)];rfl
  ·rw[decide_eq_false (show¬(1:Int)≤(s.size:Int) by omega)];rfl
theorem Z1x (e:Z4){n:Nat}(hx:Yp e≤n):e.1.size≤n:=by
 unfold Yp XL at hx;omega
theorem Z1y (e:Z4){n:Nat}(hx:Yp e≤n):Xj e.2.2.2≤n:=by
 unfold Yp at hx;omega
theorem Z2b {xs:List ByteArray}{i:Nat}(h:i<xs.length){n:Nat}(hx:Xj xs≤n):xs[i].size≤n:=by
 have:=Z0i XL h
 unfold Xj YO at hx
 unfold XL at this hx
 omega
theorem Z4c {α:Type}(xs:List α)(p:α→Bool):(!(xs.any fun x=> !p x))=xs.all p:=by
 induction xs with
 |nil=>rfl
 |cons x t ih=>rw[List.any_cons,List.all_cons,Bool.not_or,ih,Bool.not_not]
def QU (p:List ByteArray):Bool:=(decide ((1:Int)≤(p.length:Int))&&decide ((p.length:Int)≤4))&&p.all Wp
theorem Z4b {α:Type}(xs:List α)(p:α→Bool)(q:Nat→Bool)(h:∀i (hi:i<xs.length),q i=p xs[i]):Q8 q xs.length=xs.all p:=by
 refine Z0q ?_
 rw[Z09,List.all_eq_true]
 constructor
 ·intro g x hx
  obtain⟨i,hi,rfl⟩:=List.getElem_of_mem hx
  rw[←h i hi]
  exact g i hi
 ·intro g i hi
  rw[h i hi]
  exact g _ (List.getElem_mem _)
theorem Z6F (p:List ByteArray)(hp:Xj p≤1050000):Yr p=some (QU p):=by
 have hl:p.length≤1050000:=by unfold Xj YO at hp;omega
 refine(Z0p (len:=p.length) (by omega) (fun i=>Wp (p.getD i (⟨#[]⟩:ByteArray))) (decide ((1:Int)≤(p.length:Int))&&decide ((p.length:Int)≤4)) (Yr.l4 p) (fun n=> ?_) (fun n i hi=> ?_)).trans ?_
 ·rw[Yr.u4]
  simp only[Yr.g4,lt_f (Nat.le_refl _),cond_f]
  exact Zf (Qg _ _ _) rfl
 ·rw[Yr.u4]
  simp only[Yr.g4,lt_t hi,ge_t,cond_t,w64_succ (i:=i) (by omega),Int.toNat_natCast,at_n hi]
  rw[Z3y _ (Z2b hi hp),bind_s]
  cases Wp p[i]<;>rfl
 ·unfold QU
  rw[Z4b p Wp _ (fun i hi=>by rw[at_n hi]),Bool.and_comm]
theorem Z4d (p:List ByteArray)(hp:Xj p≤1050000):U8 p ((),())=some (p.any fun s=> !Wp s):=by
 unfold U8
 refine Z4r p _ ?_
 exact Z5r p (⟨#[]⟩:ByteArray) (fun s=>Uq s) (fun s=> !Wp s) (by unfold Xj YO at hp;omega) (fun i h=>Zf (Z2V _ (Z2b h hp)) rfl) (YN.l4 p) (fun n L a=>YN.u4 p n L a)
theorem Z57 (p:List ByteArray)(hp:Xj p≤1050000):WT p=some (QU p):=by
 unfold WT QU
 refine Zf (Q6 _ _ _) ?_
 cases(decide ((1:Int)≤(p.length:Int))&&decide ((p.length:Int)≤4))with
 |false=>rfl
 |true=>exact cT rfl (Zf (Z4d p hp) (by rw[Z4c,Bool.true_and]))
def Ut (a b c:Int):Bool:=decide (b≤a)&&decide (a≤c)
def Qf (e:Z4):Bool:=Wp e.1&&(bif e.2.1==(1:Int)then Ut e.2.2.1 0 999999&&((e.2.2.2.length:Int)==(0:Int))else bif e.2.1==(2:Int)then Ut e.2.2.1 0 2147483646&&((e.2.2.2.length:Int)==(0:Int))else bif e.2.1==(3:Int)then Ut e.2.2.1 0 2147483646&&QU e.2.2.2 else false)
theorem Z6C (e:Z4)(hx:Yp e≤1050000):Ue e=some (Qf e):=by
 have h1:=Z3y e.1 (Z1x e hx)
 have h2:=Z6F e.2.2.2 (Z1y e hx)
 unfold Ue Qf
 cases e.2.1==(1:Int)with
 |true=>
  refine cT rfl (Zf h1 ?_)
  cases Wp e.1 with
  |false=>rfl
  |true=>
   refine cT rfl (Zf (Qg _ _ _) ?_)
   show _=some (true&&(Ut e.2.2.1 0 999999&&_))
   unfold Ut
   cases(decide (0≤e.2.2.1)&&decide (e.2.2.1≤999999))<;>rfl
 |false=>
  refine cF rfl ?_
  cases e.2.1==(2:Int)with
  |true=>
   refine cT rfl (Zf h1 ?_)
   cases Wp e.1 with
   |false=>rfl
   |true=>
    refine cT rfl (Zf (Qg _ _ _) ?_)
    show _=some (true&&(Ut e.2.2.1 0 2147483646&&_))
    unfold Ut
    cases(decide (0≤e.2.2.1)&&decide (e.2.2.1≤2147483646))<;>rfl
  |false=>
   refine cF rfl ?_
   cases e.2.1==(3:Int)with
   |true=>
    refine cT rfl (Zf h1 ?_)
    cases Wp e.1 with
    |false=>rfl
    |true=>
     refine cT rfl (Zf (Qg _ _ _) ?_)
     show _=some (true&&(Ut e.2.2.1 0 2147483646&&_))
     unfold Ut
     cases(decide (0≤e.2.2.1)&&decide (e.2.2.1≤2147483646))with
     |false=>rfl
     |true=>exact cT rfl (Zf h2 (by rw[Bool.true_and,Bool.true_and]))
   |false=>exact cF rfl (by rw[cond_f,cond_f,cond_f,Bool.and_false])
theorem Z31 (a:Int):XW a=some (Ut a 0 2147483646):=Zf (Q6 _ _ _) rfl
theorem Z54 (e:Z4)(hx:Yp e≤1050000):WS e=some (Qf e):=by
 have h1:=Z2V e.1 (Z1x e hx)
 have h2:=Z57 e.2.2.2 (Z1y e hx)
 unfold WS Qf
 refine Zf h1 ?_
 cases Wp e.1 with
 |false=>rfl
 |true=>
  refine cF rfl ?_
  rw[Bool.true_and]
  cases e.2.1==(1:Int)with
  |true=>
   refine cT rfl (Zf (Q6 _ _ _) ?_)
   show _=some (Ut e.2.2.1 0 999999&&_)
   unfold Ut
   cases(decide (0≤e.2.2.1)&&decide (e.2.2.1≤999999))<;>rfl
  |false=>
   refine cF rfl ?_
   cases e.2.1==(2:Int)with
   |true=>
    refine cT rfl (Zf (Z31 _) ?_)
    show _=some (Ut e.2.2.1 0 2147483646&&_)
    cases Ut e.2.2.1 0 2147483646<;>rfl
   |false=>
    refine cF rfl ?_
    cases e.2.1==(3:Int)with
    |true=>
     refine cT rfl (Zf (Z31 _) ?_)
     show _=some (Ut e.2.2.1 0 2147483646&&_)
     cases Ut e.2.2.1 0 2147483646 with
     |false=>rfl
     |true=>exact cT rfl (Zf h2 (by rw[Bool.true_and]))
    |false=>rfl
theorem Z3v (a b:ByteArray):Wq a b=some (WP a b):=by
 unfold Wq WP
 rw[Z1v,ByteArray.toList_eq,ByteArray.toList_eq]
 cases Op.bytesLess a.data.toList b.data.toList with
 |true=>rfl
 |false=>cases a.data.toList==b.data.toList<;>rfl
theorem Z4R (a b:ByteArray):Uo a b=some (WP a b):=rfl
def W4 (xs:List Z4):Bool:=Q8 (fun i=>Qf (xs.getD i XE)&&(decide (i=0)||WP (xs.getD (i-1) XE).1 (xs.getD i XE).1== -1)) xs.length&&decide ((xs.length:Int)≤(12:Int))
theorem Z4g (xs:List Z4)(h:W4 xs=true):xs.length≤12:=by
 unfold W4 at h
 rw[Bool.and_eq_true]at h
 have:=of_decide_eq_true h.2
 omega
theorem Z0N (xs:List Z4)(hx:Zx xs≤1050000):ZU xs=some (W4 xs):=by
 have hl:xs.length≤1050000:=by unfold Zx YO at hx;omega
 refine Z0p (len:=xs.length) (by omega) _ _ (ZU.l4 xs) (fun n=> ?_) (fun n i hi=> ?_)
 ·rw[ZU.u4]
  simp only[ZU.g4,lt_f (Nat.le_refl _),cond_f]
 ·rw[ZU.u4]
  simp only[ZU.g4,lt_t hi,ge_t,cond_t,w64_succ (i:=i) (by omega),Int.toNat_natCast,at_n hi]
  rw[Z6C _ (Z0a hi hx),bind_s]
  cases Qf xs[i]with
  |false=>rfl
  |true=>
   by_cases h0:i=0
   ·subst h0;rfl
   ·have ew:IntKind.i64.wrap ((i:Int)-1)=((i-1:Nat):Int):=by rw[w64 (by omega) (by omega)];omega
    rw[decide_eq_true (show(i:Int)>0 by omega),decide_eq_false h0,ew]
    refine cF rfl (cT rfl (cT ge_t (cT (lt_t (by omega)) (Zf (Z3v _ _) ?_))))
    rw[Int.toNat_natCast,Bool.true_and,Bool.false_or]
    show _=bif(WP (xs.getD (i-1) XE).1 xs[i].1== -1)then _ else _
    show(bif !(WP (xs.getD (i-1) XE).1 xs[i].1== -1)then _ else _)=_
    cases(WP (xs.getD (i-1) XE).1 xs[i].1== -1)<;>rfl
theorem Z1F (xs:List Z4)(hx:Zx xs≤1050000):ZY xs=some (W4 xs):=by
 have hl:xs.length≤1050000:=by unfold Zx YO at hx;omega
 refine Z0p (len:=xs.length) (by omega) _ _ (fun n v=>ZY.l4 xs n (xs.length:Int) v) (fun n=> ?_) (fun n i hi=> ?_)
 ·rw[ZY.u4]
  simp only[ZY.g4,lt_f (Nat.le_refl _),cond_f]
 ·rw[ZY.u4]
  simp only[ZY.g4,lt_t hi,ge_t,cond_t,w64_succ (i:=i) (by omega),Int.toNat_natCast,at_n hi]
  rw[Z54 _ (Z0a hi hx),bind_s]
  cases Qf xs[i]with
  |false=>rfl
  |true=>
   by_cases h0:i=0
   ·subst h0;rfl
   ·have ew:IntKind.i64.wrap ((i:Int)-1)=((i-1:Nat):Int):=by rw[w64 (by omega) (by omega)];omega
    rw[decide_eq_true (show(i:Int)>0 by omega),decide_eq_false h0,ew]
    refine cF rfl (cT rfl (cT ge_t (cT (lt_t (by omega)) (Zf (Z4R _ _) ?_))))
    rw[Int.toNat_natCast,Bool.true_and,Bool.false_or,Z4o (xs.getD (i-1) XE).1 xs[i].1]
    show(bif !(WP (xs.getD (i-1) XE).1 xs[i].1== -1)then _ else _)=bif(WP (xs.getD (i-1) XE).1 xs[i].1== -1)then _ else _
    cases(WP (xs.getD (i-1) XE).1 xs[i].1== -1)<;>rfl
theorem Z1i {α β:Type}(xs:List α)(d:α)(f:α→Option β)(g:α→β)(pre:List β)(hl:xs.length≤1050000)(hp:pre.length≤1050000)(hf:∀i (h:i<xs.length),f xs[i]=some (g xs[i]))(l:Nat→List β→Int→Option (List β))(u:∀n ys a,l (n+1) ys a=(bif decide (a<(xs.length:Int))then bif decide (0≤a)then bif decide (a<(xs.length:Int))then(f (xs.getD a.toNat d)).bind fun y1=>bif decide (ys.length+[y1].length<68719476736)then l n (ys++[y1]) (IntKind.i64.wrap (a+(1:Int)))else none else none else none else some ys)):l KK pre (0:Int)=some (pre++xs.map g):=by
 have hh:∀i n,i≤xs.length→xs.length-i<n→l n (pre++(xs.take i).map g) (i:Int)=some (pre++xs.map g):=by
  refine idx_ind ?_ ?_
  ·intro n
   rw[u]
   simp only[lt_f (Nat.le_refl _),cond_f,List.take_length]
  ·intro i n hi ih
   rw[u]
   have hg:(pre++(xs.take i).map g).length+[g xs[i]].length<68719476736:=by rw[List.length_append,List.length_map,List.length_take];show _+1<_;omega
   simp only[lt_t hi,ge_t,cond_t,Int.toNat_natCast,at_n hi,hf i hi,bind_s,w64_succ (i:=i) (by omega)]
   rw[decide_eq_true hg,cond_t]
   have e:pre++(xs.take i).map g++[g xs[i]]=pre++(xs.take (i+1)).map g:=by
    rw[List.append_assoc,←List.take_append_getElem hi,List.map_append];rfl
   rw[e]
   exact ih
 have:=hh 0 KK (Nat.zero_le _) (KK_gt (by omega))
 rw[List.take_zero,List.map_nil,List.append_nil]at this
 exact this
theorem Z4k {α β:Type}(xs:List α)(d:α)(f:α→Option (List β))(g:α→List β)(pre:List β)(B:Nat)(hB:pre.length+(xs.flatMap g).length≤B)(hB2:B≤1073741824)(hl:xs.length≤1050000)(hf:∀i (h:i<xs.length),f xs[i]=some (g xs[i]))(l:Nat→List β→Int→Option (List β))(u:∀n ys a,l (n+1) ys a=(bif decide (a<(xs.length:Int))then bif decide (0≤a)then bif decide (a<(xs.length:Int))then(f (xs.getD a.toNat d)).bind fun y1=>bif decide (ys.length+y1.length<68719476736)then l n (ys++y1) (IntKind.i64.wrap (a+(1:Int)))else none else none else none else some ys)):l KK pre (0:Int)=some (pre++xs.flatMap g):=by
 have hh:∀i n,i≤xs.length→xs.length-i<n→l n (pre++(xs.take i).flatMap g) (i:Int)=some (pre++xs.flatMap g):=by
  refine idx_ind ?_ ?_
  ·intro n
   rw[u]
   simp only[lt_f (Nat.le_refl _),cond_f,List.take_length]
  ·intro i n hi ih
   rw[u]
   have e:pre++(xs.take i).flatMap g++g xs[i]=pre++(xs.take (i+1)).flatMap g:=by
    rw[List.append_assoc,←List.take_append_getElem hi,List.flatMap_append,List.flatMap_singleton]
   have hle:(pre++(xs.take (i+1)).flatMap g).length≤B:=by
    have:(xs.flatMap g).length=((xs.take (i+1)).flatMap g).length+((xs.drop (i+1)).flatMap g).length:=by
     rw[←List.length_append,←List.flatMap_append,List.take_append_drop]
    rw[List.length_append];omega
   have hg:(pre++(xs.take i).flatMap g).length+(g xs[i]).length<68719476736:=by
    rw[←List.length_append,e];omega
   simp only[lt_t hi,ge_t,cond_t,Int.toNat_natCast,at_n hi,hf i hi,bind_s,w64_succ (i:=i) (by omega)]
   rw[decide_eq_true hg,cond_t,e]
   exact ih
 have:=hh 0 KK (Nat.zero_le _) (KK_gt (by omega))
 rw[List.take_zero,List.flatMap_nil,List.append_nil]at this
 exact this
theorem Z1u (s:ByteArray):(V.bytesOf s).length=s.size:=by
 unfold V.bytesOf
 rw[List.length_map,Array.length_toList];rfl
noncomputable def bti (xs:List Int):List Int:=(xs.length:Int)::xs.map IntKind.i64.wrap
theorem Z4j (xs:List Int):(bti xs).length=xs.length+1:=by unfold bti;rw[List.length_cons,List.length_map]
theorem Z6p (xs:List Int)(hx:xs.length≤1050000):YI xs=some (bti xs):=
 Z1i xs 0 (fun a=>some (IntKind.i64.wrap a)) IntKind.i64.wrap [(xs.length:Int)] hx (by simp) (fun i h=>rfl) (fun n ys a=>YI.l6 xs n a ys) (fun n ys a=>YI.u6 xs n a ys)
theorem Z4O (xs:List Int)(hx:xs.length≤1050000):YB xs=some (bti xs):=
 Z1i xs 0 (fun a=>some (IntKind.i64.wrap a)) IntKind.i64.wrap [(xs.length:Int)] hx (by simp) (fun i h=>rfl) (fun n ys a=>YB.l6 xs n (xs.length:Int) a ys) (fun n ys a=>YB.u6 xs n (xs.length:Int) a ys)
theorem Z3M {s:ByteArray}(hs:s.size≤1050000):V.smallS s=true:=by
 rw[V.smallS_eq]
 exact decide_eq_true (by show(s.size:Int)<68719476736;omega)
noncomputable def Qr (s:ByteArray):List Int:=bti (V.bytesOf s)
theorem Z1h (s:ByteArray):(Qr s).length=s.size+1:=by unfold Qr;rw[Z4j,Z1u]
theorem Z6L (s:ByteArray)(hs:s.size≤1050000):WC s=some (Qr s):=by
 unfold WC
 exact cT (Z3M hs) (Zf (Z6p _ (by rw[Z1u];exact hs)) rfl)
theorem Z5f (s:ByteArray)(hs:s.size≤1050000):Wz s=some (Qr s):=by
 unfold Wz
 exact cT (Z3M hs) (Zf (Z4O _ (by rw[Z1u];exact hs)) rfl)
noncomputable def QB (e:Z4):List Int:=(Qr e.1++[e.2.1,e.2.2.1,(e.2.2.2.length:Int)])++e.2.2.2.flatMap Qr
theorem Z2I (p:List ByteArray):(p.flatMap Qr).length=Xj p:=by
 unfold Xj YO
 induction p with
 |nil=>rfl
 |cons x t ih=>
  rw[List.flatMap_cons,List.length_append,ih,Z1h,List.length_cons,List.map_cons,List.sum_cons]
  unfold XL
  omega
theorem Z2D (e:Z4):(QB e).length=Yp e+4:=by
 unfold QB Yp XL
 rw[List.length_append,List.length_append,Z1h,Z2I]
 show e.1.size+1+3+_=_
 omega
theorem eL (e:Z4)(hx:Yp e≤1050000)(f:ByteArray→Option (List Int))(hf:∀s,s.size≤1050000→f s=some (Qr s))(l:Nat→List Int→Int→Option (List Int))(u:∀n ys a,l (n+1) ys a=(bif decide (a<(e.2.2.2.length:Int))then bif decide (0≤a)then bif decide (a<(e.2.2.2.length:Int))then(f (e.2.2.2.getD a.toNat (⟨#[]⟩:ByteArray))).bind fun y1=>bif decide (ys.length+y1.length<68719476736)then l n (ys++y1) (IntKind.i64.wrap (a+(1:Int)))else none else none else none else some ys)):((f e.1).bind fun y1=>bif decide (y1.length+[e.2.1,e.2.2.1,(e.2.2.2.length:Int)].length<68719476736)then l KK (y1++[e.2.1,e.2.2.1,(e.2.2.2.length:Int)]) (0:Int)else none)=some (QB e):=by
 have h1:=Z1x e hx
 have h2:=Z1y e hx
 refine Zf (hf _ h1) (cT (decide_eq_true (by rw[Z1h];show _+3<_;omega)) ?_)
 exact Z4k e.2.2.2 (⟨#[]⟩:ByteArray) f Qr _ 2200000 (by rw[List.length_append,Z1h,Z2I];show _+3+_≤_;omega) (by omega) (by unfold Xj YO at h2;omega) (fun i h=>hf _ (Z2b h h2)) l u
theorem Z6v (e:Z4)(hx:Yp e≤1050000):YJ e=some (QB e):=
 eL e hx WC Z6L (fun n ys a=>YJ.l6 e n a ys) (fun n ys a=>YJ.u6 e n a ys)
theorem Z4U (e:Z4)(hx:Yp e≤1050000):YC e=some (QB e):=
 eL e hx Wz Z5f (fun n ys a=>YC.l6 e n (e.2.2.2.length:Int) a ys) (fun n ys a=>YC.u6 e n (e.2.2.2.length:Int) a ys)
def hs (xs:List Int):Int:=xs.foldl QH 11
noncomputable def Z0J (e:Z4):Int:=hs (227::QB e)
theorem Z6J (e:Z4)(hx:Yp e≤1050000):WL e=some (Z0J e):=by
 unfold WL
 have hl:=Z2D e
 exact Zf (Z6v e hx) (cT (decide_eq_true (by show 1+_<_;omega)) (Zf (Z03 _ (show([(227:Int)]++QB e).length≤_ by rw[List.length_append];show 1+_≤_;omega)) rfl))
theorem Z5d (e:Z4)(hx:Yp e≤1050000):WG e=some (Z0J e):=by
 unfold WG
 have hl:=Z2D e
 exact Zf (Z4U e hx) (cT (decide_eq_true (by show 1+_<_;omega)) (Zf (Z0A _ (show([(227:Int)]++QB e).length≤_ by rw[List.length_append];show 1+_≤_;omega)) rfl))
noncomputable def leaves (xs:List Z4):List Int:=xs.map Z0J
theorem Z3i (xs:List Z4):(leaves xs).length=xs.length:=List.length_map ..
theorem Z6K (xs:List Z4)(hx:Zx xs≤1050000):YK xs=some (leaves xs):=
 Z1i xs XE WL Z0J [] (by unfold Zx YO at hx;omega) (by simp) (fun i h=>Z6J _ (Z0a h hx)) (fun n ys a=>YK.l6 xs n a ys) (fun n ys a=>YK.u6 xs n a ys)
theorem Z5e (xs:List Z4)(hx:Zx xs≤1050000):YE xs=some (leaves xs):=
 Z1i xs XE WG Z0J [] (by unfold Zx YO at hx;omega) (by simp) (fun i h=>Z5d _ (Z0a h hx)) (fun n ys a=>YE.l6 xs n (xs.length:Int) a ys) (fun n ys a=>YE.u6 xs n (xs.length:Int) a ys)
def Z0K (a b:Int):Int:=hs [229,a,b]
theorem Z6Q (a b:Int):Ui a b=some (Z0K a b):=Zf (Z03 _ (by show 3≤_;omega)) rfl
theorem Z1I (xs:List Int)(hx:xs.length≤1050000):W8 xs=some (hs xs):=Zf (Z0A _ (by omega)) rfl
theorem Z5i (a b:Int):WY a b=some (Z0K a b):=Zf (Z1I _ (by show 3≤_;omega)) rfl
def up :List Int→List Int
 |a::b::t=>Z0K a b::up t
 |[a]=>[a]
 |[]=>[]
theorem Z3T :∀xs:List Int,(up xs).length=(xs.length+1)/2
 |[]=>by rw[up];rfl
 |[a]=>by simp[up]
 |a::b::t=>by
  show(up t).length+1=(t.length+1+1+1)/2
  rw[Z3T t];omega
theorem upL (f:Int→Int→Option Int)(hf:∀a b,f a b=some (Z0K a b))(xs:List Int)(hx:xs.length≤1050000)(l:Nat→Int→List Int→Option (List Int))(u:∀n a ys,l (n+1) a ys=(bif decide (a<(xs.length:Int))then bif decide ((IntKind.i64.wrap (a+(1:Int)))<(xs.length:Int))then bif decide (0≤a)then bif decide (a<(xs.length:Int))then bif decide (0≤(IntKind.i64.wrap (a+(1:Int))))then bif decide ((IntKind.i64.wrap (a+(1:Int)))<(xs.length:Int))then(f (xs.getD a.toNat (0:Int)) (xs.getD ((IntKind.i64.wrap (a+(1:Int))).toNat) (0:Int))).bind fun y1=>bif decide (ys.length+[y1].length<68719476736)then l n (IntKind.i64.wrap (a+(2:Int))) (ys++[y1])else none else none else none else none else none else bif decide (0≤a)then bif decide (a<(xs.length:Int))then bif decide (ys.length+[xs.getD a.toNat (0:Int)].length<68719476736)then l n (IntKind.i64.wrap (a+(2:Int))) (ys++[xs.getD a.toNat (0:Int)])else none else none else none else some ys)):l KK (0:Int) []=some (up xs):=by
 have hh:∀(suf:List Int) (i n:Nat) (ys:List Int),suf=xs.drop i→suf.length<n→ys.length≤i→i≤xs.length+1→l n (i:Int) ys=some (ys++up suf):=by
  intro suf
  induction suf using up.induct with
  |case1 a b t ih=>
   intro i n ys hs hn hy hi0
   have hlen:(xs.drop i).length=t.length+2:=by rw[←hs];rfl
   rw[List.length_drop]at hlen
   have hi:i<xs.length:=by omega
   have hi':i+1<xs.length:=by omega
   have e1:=List.drop_eq_getElem_cons hi
   have e2:=List.drop_eq_getElem_cons hi'
   rw[e1,e2]at hs
   injection hs with ha hs
   injection hs with hb ht
   cases n with
   |zero=>simp at hn
   |succ n=>
    have ew:IntKind.i64.wrap ((i:Int)+2)=((i+2:Nat):Int):=by rw[w64 (by omega) (by omega)];omega
    have hg:ys.length+[Z0K xs[i] xs[i+1]].length<68719476736:=by show _+1<_;omega
    rw[u]
    simp only[w64_succ (i:=i) (by omega),lt_t hi,lt_t hi',ge_t,cond_t,Int.toNat_natCast,at_n hi,at_n hi',hf,bind_s,ew]
    rw[decide_eq_true hg,cond_t]
    rw[ih (i+2) n _ ht (by simp at hn;omega) (by rw[List.length_append];show _+1≤_;omega) (by omega)]
    rw[List.append_assoc,ha,hb];rfl
  |case2 a=>
   intro i n ys hs hn hy hi0
   have hlen:(xs.drop i).length=1:=by rw[←hs];rfl
   rw[List.length_drop]at hlen
   have hi:i<xs.length:=by omega
   have e1:=List.drop_eq_getElem_cons hi
   rw[e1]at hs
   injection hs with ha hs
   match n,hn with
   |n+2,_=>
    have ew:IntKind.i64.wrap ((i:Int)+2)=((i+2:Nat):Int):=by rw[w64 (by omega) (by omega)];omega
    have hg:ys.length+[xs[i]].length<68719476736:=by show _+1<_;omega
    rw[u]
    simp only[w64_succ (i:=i) (by omega),lt_t hi,lt_f (show xs.length≤i+1 by omega),ge_t,cond_t,cond_f,Int.toNat_natCast,at_n hi,ew]
    rw[decide_eq_true hg,cond_t,u]
    simp only[lt_f (show xs.length≤i+2 by omega),cond_f]
    rw[ha];rfl
  |case3=>
   intro i n ys hs hn hy hi0
   have hlen:(xs.drop i).length=0:=by rw[←hs];rfl
   rw[List.length_drop]at hlen
   cases n with
   |zero=>simp at hn
   |succ n=>
    rw[u]
    simp only[lt_f (show xs.length≤i by omega),cond_f]
    rw[up,List.append_nil]
 have:=hh xs 0 KK [] (by rw[List.drop_zero]) (KK_gt (by omega)) (Nat.le_refl _) (Nat.zero_le _)
 exact this
theorem Z6W (xs:List Int)(hx:xs.length≤1050000):Yz xs=some (up xs):=upL Ui Z6Q xs hx (Yz.l6 xs) (fun n a ys=>Yz.u6 xs n a ys)
theorem Z5q (xs:List Int)(hx:xs.length≤1050000):Yx xs=some (up xs):=upL WY Z5i xs hx (Yx.l6 xs) (fun n a ys=>Yx.u6 xs n a ys)
def Z1r :Nat→List Int→Int
 |0,_=>0
 |n+1,xs=>bif decide ((xs.length:Int)>(1:Int))then Z1r n (up xs)else xs.getD 0 0
noncomputable def Z0R (xs:List Int):Int:=bif(xs.length:Int)==(0:Int)then hs [229]else Z1r KK xs
theorem Z3P (f:List Int→Option (List Int))(hf:∀xs:List Int,xs.length≤1050000→f xs=some (up xs))(l:Nat→List Int→Option Int)(u:∀n xs,l (n+1) xs=(bif decide ((xs.length:Int)>(1:Int))then(f xs).bind fun y2=>l n y2 else bif decide (0≤(0:Int))then bif decide ((0:Int)<(xs.length:Int))then some (xs.getD ((0:Int).toNat) (0:Int))else none else none)):∀(n:Nat) (xs:List Int),0<xs.length→xs.length<n→xs.length≤1050000→l n xs=some (Z1r n xs):=by
 intro n
 induction n with
 |zero=>intro xs h0 h1;omega
 |succ n ih=>
  intro xs h0 h1 h2
  rw[u]
  show _=some (bif decide ((xs.length:Int)>(1:Int))then Z1r n (up xs)else xs.getD 0 0)
  by_cases h:1<xs.length
  ·rw[decide_eq_true (show(xs.length:Int)>1 by omega),cond_t,cond_t,hf xs h2,bind_s]
   have:=Z3T xs
   exact ih _ (by omega) (by omega) (by omega)
  ·rw[decide_eq_false (show¬(xs.length:Int)>1 by omega),cond_f,cond_f]
   exact cT rfl (cT (decide_eq_true (by omega)) rfl)
theorem Z6V (xs:List Int)(hx:xs.length≤1050000):Yy xs=some (Z0R xs):=by
 unfold Yy Z0R
 cases h:((xs.length:Int)==(0:Int))with
 |true=>exact cT h (Zf (Z03 _ (by show 1≤_;omega)) rfl)
 |false=>
  have h0:(xs.length:Int)≠0:=by simpa using h
  exact cF h (Z3P Yz Z6W Yy.l8 (fun n xs=>Yy.u8 n xs) KK xs (by omega) (KK_gt (by omega)) hx)
theorem Z5p (xs:List Int)(hx:xs.length≤1050000):Yw xs=some (Z0R xs):=by
 unfold Yw Z0R
 cases h:((xs.length:Int)==(0:Int))with
 |true=>exact cT h (Zf (Z1I _ (by show 1≤_;omega)) rfl)
 |false=>
  have h0:(xs.length:Int)≠0:=by simpa using h
  exact cF h (Z3P Yx Z5q Yw.l6 (fun n xs=>Yw.u6 n xs) KK xs (by omega) (KK_gt (by omega)) hx)
noncomputable def Z22 (n t:Int):Int:=hs [231,n,t]
noncomputable def Qt (xs:List Z4):Int:=Z22 (xs.length:Int) (Z0R (leaves xs))
theorem Z6S (n t:Int):Uy n t=some (Z22 n t):=Zf (Z03 _ (by show 3≤_;omega)) rfl
theorem Z5l (n t:Int):Us n t=some (Z22 n t):=Zf (Z1I _ (by show 3≤_;omega)) rfl
theorem Z1p (xs:List Z4)(hx:Zx xs≤1050000):XP xs=some (Qt xs):=by
 unfold XP
 have hl:xs.length≤1050000:=by unfold Zx YO at hx;omega
 exact Zf (Z6K xs hx) (Zf (Z6V _ (by rw[Z3i];exact hl)) (Zf (Z6S _ _) rfl))
theorem Z1G (xs:List Z4)(hx:Zx xs≤1050000):XY xs=some (Qt xs):=by
 unfold XY
 have hl:xs.length≤1050000:=by unfold Zx YO at hx;omega
 exact Zf (Z5e xs hx) (Zf (Z5p _ (by rw[Z3i];exact hl)) (Zf (Z5l _ _) rfl))
theorem Z6e (x0:Z6)(x1 x2 x3:Int)(k:List Z4)(c:Z6)(v:Bool)(hx:ZD x0≤1050000)(hc:WQ (UK x0 x1 x2 x3) k=some c)(hs:ZD c≤1050000):ZS.l5 x0 x1 x2 x3 ((),k) v=some (bif v then W5 else bif ZZ (UK x0 x1 x2 x3)&&ZZ c then Wb c true else W5):=by
 cases v with
 |true=>rfl
 |false=>
  have hu:ZD (UK x0 x1 x2 x3)≤1050000:=hx
  refine Zf (Z0U x0 hx) (Zf (Z3R x2 x3) (Zf (Z2T x0 hx) (Zf (Z0U (UK x0 x1 x2 x3) hu) (Zf hc (Zf (QQ _ hu) ?_)))))
  cases ZZ (UK x0 x1 x2 x3)with
  |false=>rfl
  |true=>
   refine Zf (QQ c hs) ?_
   cases ZZ c<;>rfl
theorem Z6d (x0:Z6)(x1 x2 x3:Int)(k:List Z4)(chg:Z6→Z6)(hx:ZD x0≤1050000)(hc:WQ (UK x0 x1 x2 x3) k=some (chg (UK x0 x1 x2 x3)))(hs:ZZ x0=true→ZD (chg (UK x0 x1 x2 x3))≤1050000):ZS x0 x1 x2 x3 ((),k)=some (bif UB x0 x2 x3&&(ZZ (Xz x0 x1 x2 x3)&&ZZ (chg (Xz x0 x1 x2 x3)))then Wb (chg (Xz x0 x1 x2 x3)) true else W5):=by
 unfold ZS UB
 refine Zf (QQ x0 hx) ?_
 cases hb:ZZ x0 with
 |false=>rfl
 |true=>
  have sp:=Z1K x0 hb
  have h5:=fun v=>Z6e x0 x1 x2 x3 k _ v hx hc (hs hb)
  refine Zf (Z0n _ _ _) ?_
  rw[Bool.true_and]
  cases h3:YV x3 0 200 with
  |false=>
   rw[Bool.and_false,Bool.false_and]
   exact(h5 true)
  |true=>
   rw[Bool.and_true]
   refine(h5 _).trans ?_
   by_cases hl:x2<Za x0
   ·rw[decide_eq_true hl,show YV x2 (Za x0) 100000=false by unfold YV;rw[decide_eq_false (by omega),Bool.false_and]];rfl
   ·rw[decide_eq_false hl,cond_f]
    by_cases hu:x2≤100000
    ·rw[show YV x2 (Za x0) 100000=true by unfold YV;rw[decide_eq_true (by omega),decide_eq_true hu,Bool.and_self],Z69 _ _ _ _ (by unfold YV;rw[decide_eq_true (by omega),decide_eq_true hu,Bool.and_self]) h3,Bool.true_and]
    ·rw[show YV x2 (Za x0) 100000=false by unfold YV;rw[decide_eq_false hu,Bool.and_false],Z68 _ _ _ _ (by unfold YV;rw[decide_eq_false hu,Bool.and_false])];rfl
theorem Z6a (x0:Z6)(x1 x2 x3:Int):ZD (UK x0 x1 x2 x3)=ZD x0:=by unfold UK;rfl
def setC (h:Z6)(n r:Int):Z6:=Xm (Zn h) (Zm h) (Zk h) (Za h) (Zl h) n r (Zr h) (Z8 h) (Z7 h) (Zi h) (Z9 h) (Zg h)
theorem setC_size (h:Z6)(n r:Int):ZD (setC h n r)=ZD h:=rfl
noncomputable def UL (xs:List Z4)(h:Z6):Z6:=setC h (xs.length:Int) (Qt xs)
theorem Z3F (x0:Z6)(xs:List Z4)(h:Z6)(hh:ZD h=ZD x0)(hx:ZD x0≤1050000):ZD (UL xs h)≤1050000:=by
 unfold UL
 rw[setC_size,hh];exact hx
noncomputable def UV (x0:Z6)(xs:List Z4)(x2 x3:Int):ZA:=bif W4 xs&&(UB x0 x2 x3&&(ZZ (Xz x0 1 x2 x3)&&ZZ (UL xs (Xz x0 1 x2 x3))))then Wb (UL xs (Xz x0 1 x2 x3)) true else W5
theorem Z23 (x0:Z6)(xs:List Z4)(x2 x3:Int)(hx:ZD x0≤1050000)(he:Zx xs≤1050000):Zj x0 xs x2 x3=some (UV x0 xs x2 x3):=by
 unfold Zj UV
 refine Zf (Z6P x0 1 x2 x3 hx) ?_
 rw[Z6c]
 cases hg:(UB x0 x2 x3&&ZZ (Xz x0 1 x2 x3))with
 |false=>
  have e:(W4 xs&&(UB x0 x2 x3&&(ZZ (Xz x0 1 x2 x3)&&ZZ (UL xs (Xz x0 1 x2 x3)))))=false:=by
   rw[←Bool.and_assoc (UB x0 x2 x3),hg,Bool.false_and,Bool.and_false]
  rw[e];rfl
 |true=>
  have e:(W4 xs&&(UB x0 x2 x3&&(ZZ (Xz x0 1 x2 x3)&&ZZ (UL xs (Xz x0 1 x2 x3)))))=(W4 xs&&ZZ (UL xs (Xz x0 1 x2 x3))):=by
   rw[←Bool.and_assoc (UB x0 x2 x3),hg,Bool.true_and]
  rw[e]
  refine cF rfl (Zf (Z0N xs he) ?_)
  cases W4 xs with
  |false=>rfl
  |true=>
   have hs:ZD (UL xs (Xz x0 1 x2 x3))≤1050000:=Z3F x0 xs _ (Z3k ..) hx
   refine Zf (Z1p xs he) ?_
   rw[Z6b _ _ _ _ hg,Bool.true_and]
   refine Zf (Z38 (UL xs (Xz x0 1 x2 x3)) hs) ?_
   unfold Z07;rfl
theorem Z4P (x0:Z6)(xs:List Z4)(x2 x3:Int)(hx:ZD x0≤1050000)(he:Zx xs≤1050000):Xo x0 xs x2 x3=some (UV x0 xs x2 x3):=by
 unfold Xo UV
 refine Zf (Z1F xs he) ?_
 cases W4 xs with
 |false=>rfl
 |true=>
  rw[Bool.true_and]
  exact cF rfl (Zf (Z6d x0 1 x2 x3 xs (fun h=>UL xs h) hx (Zf (Z1G xs he) rfl) (fun hb=>Z3F x0 xs _ (Z6a ..) hx)) rfl)
theorem UG (z:Zt){n:Nat}(hx:Xh z≤n):YQ z.1≤n:=by unfold Xh at hx;omega
theorem Z0m (z:Zt){n:Nat}(hx:Xh z≤n):Zx z.2≤n:=by unfold Xh at hx;omega
noncomputable def QP (r:Int)(xs:List Z4):Bool:=W4 xs&&(Qt xs==r)
theorem Z6r (r:Int)(xs:List Z4)(hx:Zx xs≤1050000):Ua r xs=some (QP r xs):=by
 unfold Ua QP
 refine Zf (Z0N xs hx) ?_
 cases W4 xs with
 |false=>rfl
 |true=>exact cT rfl (Zf (Z1p xs hx) (by rw[Bool.true_and]))
theorem Z4Q (r:Int)(xs:List Z4)(hx:Zx xs≤1050000):WR r xs=some (QP r xs):=by
 unfold WR QP
 refine Zf (Z1F xs hx) ?_
 cases W4 xs with
 |false=>rfl
 |true=>exact cT rfl (Zf (Z1G xs hx) (by rw[Bool.true_and]))
noncomputable def Xl (z:Zt):Z6:=Ze (Wh z.1)
noncomputable def X6 (z:Zt):Bool:=XA z.1&&((Zo (Xl z)==(z.2.length:Int))&&QP (Zp (Xl z)) z.2)
theorem QI (z:Zt)(h:X6 z=true):XA z.1=true:=by unfold X6 at h;rw[Bool.and_eq_true]at h;exact h.1
theorem Z0h (z:Zt)(hx:Xh z≤1050000):XI z=some (X6 z):=by
 unfold XI X6
 refine Zf (QL z.1 (UG z hx)) ?_
 rw[(QX z.1).1]
 cases hc:XA z.1 with
 |false=>rfl
 |true=>
  rw[(QX z.1).2 hc,cond_t,Bool.true_and]
  show(bif(Zo (Xl z)==(z.2.length:Int))then _ else _)=_
  cases(Zo (Xl z)==(z.2.length:Int))with
  |false=>rfl
  |true=>exact cT rfl (Zf (Z6r _ z.2 (Z0m z hx)) (by rw[Bool.true_and];rfl))
theorem QR (z:Zt)(hx:Xh z≤1050000):XB z=some (X6 z):=by
 unfold XB X6
 refine Zf (Z2U z.1 (UG z hx)) ?_
 cases hc:XA z.1 with
 |false=>rfl
 |true=>
  refine cF rfl (Zf (Z0I z.1 hc) ?_)
  rw[Bool.true_and]
  show(bif(Zo (Xl z)==(z.2.length:Int))then _ else _)=_
  cases(Zo (Xl z)==(z.2.length:Int))with
  |false=>rfl
  |true=>exact cT rfl (Zf (Z4Q _ z.2 (Z0m z hx)) (by rw[Bool.true_and];rfl))
noncomputable def Qu (z:Zt):Int:=bif X6 z then Zn (Xl z)else-1
theorem Z6X (z:Zt)(hx:Xh z≤1050000):WD z=some (Qu z):=by
 unfold WD Qu
 refine Zf (QL z.1 (UG z hx)) (Zf (Z0h z hx) ?_)
 cases hz:X6 z with
 |false=>rfl
 |true=>
  rw[(QX z.1).2 (QI z hz)]
  rfl
theorem Z18 (z:Zt)(hx:Xh z≤1050000):W6 z=some (Qu z):=by
 unfold W6 Qu
 refine Zf (QR z hx) ?_
 cases hz:X6 z with
 |false=>rfl
 |true=>exact cF rfl (Zf (Z0I z.1 (QI z hz)) rfl)
theorem Z1f (xs:List Z4)(hx:Zx xs≤1050000):Y0 xs=some xs:=
 Z0W xs XE W2 (by unfold Zx YO at hx;omega) (fun i h=>Z1d _ (Z0a h hx)) (fun n ys a=>Y0.l6 xs n a ys) (fun n ys a=>Y0.u6 xs n a ys)
theorem Z1w (xs:List Z4)(hx:Zx xs≤1050000):Y7 xs=some xs:=
 Z0W xs XE WI (by unfold Zx YO at hx;omega) (fun i h=>Z4s _ (Z0a h hx)) (fun n ys a=>Y7.l6 xs n (xs.length:Int) a ys) (fun n ys a=>Y7.u6 xs n (xs.length:Int) a ys)
noncomputable def X8 (k:Zc)(s:Int)(xs:List Z4)(now u:Int):Z6:=Xm (Qj k s) 0 1 now u (xs.length:Int) (Qt xs) s k Un 0 Un false
theorem Z0w (k:Zc)(s:Int)(xs:List Z4)(now u:Int):ZD (X8 k s xs now u)=k.1.length:=by
 show k.1.length+(([]:List Int).length+([]:List Int).length)=_
 rfl
theorem Z4D (k:Zc)(s:Int)(xs:List Z4)(now u:Int):Zl (X8 k s xs now u)=u:=rfl
noncomputable def UR (k:Zc)(s:Int)(xs:List Z4)(now term:Int):Bool:=W4 xs&&((YV now 0 100000&&YV term 0 200)&&ZZ (X8 k s xs now (IntKind.i64.wrap (now+term))))
noncomputable def QE (k:Zc)(s:Int)(xs:List Z4)(now term:Int):ZA:=bif UR k s xs now term then Wb (X8 k s xs now (IntKind.i64.wrap (now+term))) true else W5
theorem Z24 (k:Zc)(s:Int)(xs:List Z4)(now term:Int)(v:Bool)(hk:k.1.length≤1050000)(hx:Zx xs≤1050000):Yg.l5 k s xs now term v=some (bif !v&&ZZ (X8 k s xs now (IntKind.i64.wrap (now+term)))then Wb (X8 k s xs now (IntKind.i64.wrap (now+term))) true else W5):=by
 cases v with
 |true=>rfl
 |false=>
  refine Zf (Z3E k s hk) (Zf (Z1p xs hx) (Zf (Z0H k hk) (Zf (Z0g (X8 k s xs now (IntKind.i64.wrap (now+term))) (by rw[Z0w];exact hk)) ?_)))
  cases ZZ (X8 k s xs now (IntKind.i64.wrap (now+term)))<;>rfl
theorem Z3x (k:Zc)(s:Int)(xs:List Z4)(now term:Int)(hk:k.1.length≤1050000)(hx:Zx xs≤1050000):Yg k s xs now term=some (QE k s xs now term):=by
 unfold Yg QE UR
 refine Zf (Z0N xs hx) ?_
 cases W4 xs with
 |false=>exact Z24 k s xs now term true hk hx
 |true=>
  refine cF rfl (Zf (Z0G _ _ _) ?_)
  cases YV now 0 100000 with
  |false=>exact Z24 k s xs now term true hk hx
  |true=>
   refine cF rfl (Zf (Z0G _ _ _) ?_)
   rw[Z24 k s xs now term _ hk hx]
   cases YV term 0 200<;>rfl
theorem Z2S (k:Zc)(s:Int)(xs:List Z4)(now u:Int)(v:Bool):YU.l7 s now (Qj k s) u (Qt xs) k v (xs.length:Int)=some (bif v then W5 else Wb (X8 k s xs now u) true):=by
 cases v<;>rfl
theorem Z4Z (k:Zc)(s:Int)(xs:List Z4)(now term:Int)(hk:k.1.length≤1050000)(hx:Zx xs≤1050000):YU k s xs now term=some (QE k s xs now term):=by
 unfold YU QE UR
 refine Zf (Z1H k s hk) (Zf (Z3R now term) (Zf (Z1G xs hx) (Zf (Z0V k hk) (Zf (Z1F xs hx) ?_))))
 cases W4 xs with
 |false=>exact Z2S k s xs now (UM now term) true
 |true=>
  refine cF rfl (Zf (QQ (X8 k s xs now (UM now term)) (by rw[Z0w];exact hk)) ?_)
  refine(Z2S k s xs now _ _).trans ?_
  cases hr:(YV now 0 100000&&YV term 0 200)with
  |true=>
   have e:UM now term=IntKind.i64.wrap (now+term):=by unfold UM;rw[hr,cond_t]
   rw[e]
   cases ZZ (X8 k s xs now (IntKind.i64.wrap (now+term)))<;>rfl
  |false=>
   have e:UM now term=100001:=by unfold UM;rw[hr,cond_f]
   have hb:ZZ (X8 k s xs now (UM now term))=false:=by
    cases hb:ZZ (X8 k s xs now (UM now term))with
    |false=>rfl
    |true=>
     have h1:=(Z1K _ hb).2.2
     rw[Z4D,e]at h1
     omega
   rw[hb];rfl
noncomputable def QZ (k:Zc)(s:Int)(xs:List Z4)(now term:Int):Qz:=bif UR k s xs now term then Z08 ([WJ k.1 k (X8 k s xs now (IntKind.i64.wrap (now+term)))],xs) true else Z0u
theorem Z11 (k:Zc)(s:Int)(xs:List Z4)(now term:Int):XU (QE k s xs now term)=UR k s xs now term∧(UR k s xs now term=true→Z0 (QE k s xs now term)=X8 k s xs now (IntKind.i64.wrap (now+term))):=Z2g _ _
theorem Z6N (k:Zc)(s:Int)(xs:List Z4)(now term:Int)(hk:k.1.length≤1050000)(hx:Zx xs≤1050000):ZX k s xs now term=some (QZ k s xs now term):=by
 unfold ZX QZ
 refine Zf (Z3x k s xs now term hk hx) ?_
 rw[(Z11 k s xs now term).1]
 cases hg:UR k s xs now term with
 |false=>rfl
 |true=>
  rw[(Z11 k s xs now term).2 hg]
  exact cF rfl (Zf (Z0P k.1 k _ hk hk (by rw[Z0w];exact hk)) (Zf (Z1f xs hx) rfl))
theorem Z5h (k:Zc)(s:Int)(xs:List Z4)(now term:Int)(hk:k.1.length≤1050000)(hx:Zx xs≤1050000):WX k s xs now term=some (QZ k s xs now term):=by
 unfold WX QZ
 refine Zf (Z4Z k s xs now term hk hx) ?_
 rw[(Z11 k s xs now term).1]
 cases hg:UR k s xs now term with
 |false=>rfl
 |true=>
  rw[(Z11 k s xs now term).2 hg]
  exact cF rfl (Zf (Z17 k.1 k _ hk hk (by rw[Z0w];exact hk)) (Zf (Z1w xs hx) rfl))
theorem Z1Z (p:Z6)(s:Z5)(h:Qh p s=true):ZZ p=true∧ZZ (Ze s)=true∧Zn (Ze s)=Zn p∧Zm (Ze s)=IntKind.i64.wrap ((Zm p)+(1:Int)):=by
 unfold Qh U2 at h
 cases h1:(ZZ p&&ZZ (Ze s))with
 |false=>rw[h1]at h;cases h
 |true=>
  cases h2:QT p (Ze s)with
  |false=>rw[h1,h2]at h;cases h
  |true=>
   rw[Bool.and_eq_true]at h1
   unfold QT at h2
   simp only[Bool.and_eq_true]at h2
   exact⟨h1.1,h1.2,eq_of_beq h2.1,eq_of_beq h2.2.1⟩
theorem Z3f (xs:List Z5)(h:XA xs=true):∃hi:xs.length-1<xs.length,Wh xs=xs[xs.length-1]:=by
 have hl:=Z1J xs h
 refine⟨by omega,?_⟩
 unfold Wh
 rw[wl hl,show((xs.length:Int)-1).toNat=xs.length-1 by omega,at_n (by omega)]
theorem Z4H (xs:List Z5):∀(p:Z6) (k:Int),0≤k→fw (some p) xs k<0→∀i (hi:i<xs.length),ZZ (Ze xs[i])=true:=by
 induction xs with
 |nil=>intro p k _ _ i hi;simp at hi
 |cons s t ih=>
  intro p k hk h i hi
  unfold fw at h
  cases hf:Qh p s with
  |false=>rw[hf]at h;exact absurd h (by show¬k<0;omega)
  |true=>
   rw[hf]at h
   have hm:=Z1Z p s hf
   cases i with
   |zero=>exact hm.2.1
   |succ i=>
    have hi2:i<t.length:=by simpa using hi
    exact ih (Ze s) (k+1) (by omega) h i hi2
theorem Z2s (xs:List Z5)(h:XA xs=true):∀i (hi:i<xs.length),ZZ (Ze xs[i])=true:=by
 unfold XA at h
 rw[Bool.and_eq_true]at h
 have h:=of_decide_eq_true h.2
 cases xs with
 |nil=>intro i hi;simp at hi
 |cons s t=>
  unfold fw at h
  cases hf:UY s with
  |false=>rw[hf]at h;exact absurd h (by show¬(0:Int)<0;omega)
  |true=>
   rw[hf]at h
   intro i hi
   cases i with
   |zero=>
    unfold UY at hf
    simp only[Bool.and_eq_true]at hf
    exact hf.1
   |succ i=>
    have hi2:i<t.length:=by simpa using hi
    exact Z4H t (Ze s) _ (by omega) h i hi2
def Z05 (p h:Z6):Zc:=bif Zk h==(2:Int)then Z7 p else bif Zk h==(3:Int)then Z9 p else Z8 p
theorem Z71 (p h:Z6):(Z05 p h).1.length≤ZD p:=by
 unfold Z05 ZD WK
 cases(Zk h==(2:Int))<;>cases(Zk h==(3:Int))<;>simp only[cond_t,cond_f]<;>omega
def Uv (p h:Z6)(held:List Int):Z5:=WJ held (Z05 p h) h
theorem Z3H (p h:Z6)(held:List Int):X2 (Uv p h held)≤ZD h+ZD p:=by
 have h1:=Z3G held (Z05 p h) h
 have h2:=Z71 p h
 unfold Uv
 omega
theorem Z6U (p h:Z6)(held:List Int)(h0:ZD p≤1050000)(h1:ZD h≤1050000)(h2:held.length≤1050000):Xw p h held=some (Uv p h held):=by
 have hk:=Qe p h0
 unfold Xw Uv Z05
 cases(Zk h==(2:Int))with
 |true=>exact cT rfl (Zf (Z0P _ _ _ h2 hk.2.1 h1) rfl)
 |false=>
  refine cF rfl ?_
  cases(Zk h==(3:Int))with
  |true=>exact cT rfl (Zf (Z0P _ _ _ h2 hk.2.2 h1) rfl)
  |false=>exact cF rfl (Zf (Z0P _ _ _ h2 hk.1 h1) rfl)
theorem Z5o (p h:Z6)(held:List Int)(h0:ZD p≤1050000)(h1:ZD h≤1050000)(h2:held.length≤1050000):Yu p h held=some (Uv p h held):=by
 have hk:=Qe p h0
 unfold Yu Uv Z05
 cases hq:(Zk h==(2:Int))with
 |true=>exact cT hq (Zf (Z17 _ (Z7 p) _ h2 hk.2.1 h1) rfl)
 |false=>
  refine cF hq ?_
  cases hr:(Zk h==(3:Int))with
  |true=>exact cT rfl (Zf (Z17 _ (Z9 p) _ h2 hk.2.2 h1) rfl)
  |false=>exact cF rfl (Zf (Z17 _ (Z8 p) _ h2 hk.1 h1) rfl)
theorem Z1c (z:Zt)(hx:Xh z≤1050000):Wa z=some z:=by
 unfold Wa
 exact Zf (Z0F _ (UG z hx)) (Zf (Z1f _ (Z0m z hx)) rfl)
theorem Z0s (z:Zt)(hx:Xh z≤1050000):W0 z=some z:=by
 unfold W0
 exact Zf (Z2y _ (UG z hx)) (Zf (Z1w _ (Z0m z hx)) rfl)
noncomputable def XJ (z:Zt)(held:List Int)(h:Z6):List Z5×Int:=ext z.1 (Uv (Xl z) h held)
noncomputable def U3 (z:Zt)(held:List Int)(h:Z6)(xs:List Z4):XM:=
 bif X6 z then bif(XJ z held h).2 !=(1:Int)then Wc z (XJ z held h).2 else bif X6 ((XJ z held h).1,xs)then Wc ((XJ z held h).1,xs) 1 else Wc z 2 else Wc z 2
theorem Z61 (p:Z6)(s:Z5)(hs:ZD (Ze s)≤1050000)(h:U2 p s=1):ZZ p=true∧ZD (Ze s)≤12:=by
 have hm:=Z1Z p s (by unfold Qh;rw[h];rfl)
 exact⟨hm.1,Z19 _ hs hm.2.1⟩
theorem Z73 (xs:List Z5)(s:Z5):YQ (xs++[s])=YQ xs+1+X2 s:=by
 unfold YQ YO
 simp only[List.length_append,List.map_append,List.sum_append,List.map_cons,List.map_nil,List.sum_cons,List.sum_nil,List.length_cons,List.length_nil]
 omega
theorem Z6k (z:Zt)(held:List Int)(h:Z6)(hz:Xh z≤1049500)(hh:ZD h≤1049500):YQ (XJ z held h).1≤YQ z.1+64:=by
 unfold XJ ext QD
 cases(!XA z.1||decide ((z.1.length:Int)≥(12:Int)))with
 |true=>show YQ z.1≤_;omega
 |false=>
  cases hn:(U2 (Ze (Wh z.1)) (Uv (Xl z) h held) !=(1:Int))with
  |true=>rw[cond_f,cond_t];show YQ z.1≤_;omega
  |false=>
   rw[cond_f,cond_f]
   show YQ (z.1++[Uv (Xl z) h held])≤_
   rw[Z73]
   have h1:U2 (Ze (Wh z.1)) (Uv (Xl z) h held)=1:=by simpa using hn
   have e:Ze (Uv (Xl z) h held)=h:=rfl
   have h2:=Z61 _ _ (by rw[e];omega) h1
   rw[e]at h2
   have h3:=Z19 _ (QK z.1 (by have:=UG z hz;omega)) h2.1
   have h4:=Z3H (Xl z) h held
   have h5:ZD (Xl z)≤12:=h3
   omega
theorem Z3q (z:Zt)(held:List Int)(h:Z6)(xs:List Z4)(hz:Xh z+Zx xs≤1049500)(hh:ZD h≤1049500):Xh ((XJ z held h).1,xs)≤1050000:=by
 have h1:=Z6k z held h (by omega) hh
 unfold Xh at hz⊢
 show YQ (XJ z held h).1+Zx xs≤_
 omega
theorem Z3s (z:Zt)(held:List Int)(h:Z6)(xs:List Z4)(hs:Xh z+(ZD h+Zx xs)≤1049500)(hl:held.length≤1050000)(hc:X6 z=true):ZD (Xl z)≤1050000∧X2 (Uv (Xl z) h held)≤1050000:=by
 have hz:=UG z (n:=1049500) (by omega)
 have h1:ZD (Xl z)≤1050000:=QK z.1 (by omega)
 refine⟨h1,?_⟩
 have hb:ZZ (Xl z)=true:=by
  have hch:=QI z hc
  obtain⟨hlt,hle⟩:=Z3f z.1 hch
  unfold Xl
  rw[hle]
  exact Z2s z.1 hch _ hlt
 have h3:=Z19 _ h1 hb
 have h4:=Z3H (Xl z) h held
 omega
theorem Z27 (z:Zt)(held:List Int)(h:Z6)(xs:List Z4)(hs:Xh z+(ZD h+Zx xs)≤1049500)(hl:held.length≤1050000):X7 z held h xs=some (U3 z held h xs):=by
 have hz:Xh z≤1050000:=by omega
 unfold X7 U3
 refine Zf (QL z.1 (UG z hz)) (Zf (Z0h z hz) ?_)
 cases hc:X6 z with
 |false=>exact cT rfl (Zf (Z1c z hz) rfl)
 |true=>
  obtain⟨p1,p2⟩:=Z3s z held h xs hs hl hc
  rw[(QX z.1).2 (QI z hc),cond_t]
  refine cF rfl (Zf (Z6U _ h held p1 (by omega) (by omega)) (Zf (Z3w z.1 _ (UG z hz) p2) ?_))
  show(bif(XJ z held h).2 !=(1:Int)then _ else _)=_
  cases(XJ z held h).2 !=(1:Int)with
  |true=>exact cT rfl (Zf (Z1c z hz) rfl)
  |false=>
   refine cF rfl (Zf (Z1f xs (by omega)) (Zf (Z0h ((XJ z held h).1,xs) (Z3q z held h xs (by omega) (by omega))) ?_))
   cases X6 ((XJ z held h).1,xs)with
   |true=>rfl
   |false=>exact cT rfl (Zf (Z1c z hz) rfl)
theorem Z2X (z:Zt)(held:List Int)(h:Z6)(xs:List Z4)(hs:Xh z+(ZD h+Zx xs)≤1049500)(hl:held.length≤1050000):Xf z held h xs=some (U3 z held h xs):=by
 have hz:Xh z≤1050000:=by omega
 unfold Xf U3
 refine Zf (QR z hz) ?_
 cases hc:X6 z with
 |false=>exact cT rfl (Zf (Z0s z hz) rfl)
 |true=>
  obtain⟨p1,p2⟩:=Z3s z held h xs hs hl hc
  rw[cond_t]
  refine cF rfl (Zf (Z0I z.1 (QI z hc)) (Zf (Z5o _ h held p1 (by omega) (by omega)) (Zf (Z4Y z.1 _ (UG z hz) p2) ?_)))
  show(bif(XJ z held h).2 !=(1:Int)then _ else _)=_
  cases(XJ z held h).2 !=(1:Int)with
  |true=>exact cT rfl (Zf (Z0s z hz) rfl)
  |false=>
   refine cF rfl (Zf (Z1w xs (by omega)) (Zf (QR ((XJ z held h).1,xs) (Z3q z held h xs (by omega) (by omega))) ?_))
   cases X6 ((XJ z held h).1,xs)with
   |true=>rfl
   |false=>exact cT rfl (Zf (Z0s z hz) rfl)
theorem Z3O {α:Type}(f:α→Nat)(B:Nat)(xs:List α)(h:∀x∈xs,f x≤B):(xs.map f).sum≤xs.length*B:=by
 induction xs with
 |nil=>simp
 |cons x t ih=>
  have h1:=h x (List.mem_cons_self)
  have h2:=ih (fun y hy=>h y (List.mem_cons_of_mem _ hy))
  rw[List.map_cons,List.sum_cons,List.length_cons,Nat.add_mul]
  omega
theorem Z5x (p:List ByteArray)(h:QU p=true):Xj p≤36:=by
 unfold QU at h
 simp only[Bool.and_eq_true,decide_eq_true_eq,List.all_eq_true]at h
 have:=Z3O XL 8 p (fun x hx=>(Z32 x (h.2 x hx)).2)
 unfold Xj YO
 omega
theorem Z5t (e:Z4)(h:Qf e=true):Yp e≤44:=by
 unfold Qf at h
 rw[Bool.and_eq_true]at h
 have h1:=(Z32 e.1 h.1).2
 have h0:∀p:List ByteArray,((p.length:Int)==(0:Int))=true→Xj p≤36:=by
  intro p hp
  have:p=[]:=List.eq_nil_of_length_eq_zero (by have:=eq_of_beq hp;omega)
  subst this
  exact Nat.zero_le _
 have h2:Xj e.2.2.2≤36:=by
  have h:=h.2
  revert h
  cases e.2.1==(1:Int)with
  |true=>rw[cond_t,Bool.and_eq_true];exact fun h=>h0 _ h.2
  |false=>
   cases e.2.1==(2:Int)with
   |true=>rw[cond_f,cond_t,Bool.and_eq_true];exact fun h=>h0 _ h.2
   |false=>
    cases e.2.1==(3:Int)with
    |true=>rw[cond_f,cond_f,cond_t,Bool.and_eq_true];exact fun h=>Z5x _ h.2
    |false=>rw[cond_f,cond_f,cond_f];exact fun h=>nomatch h
 unfold Yp XL
 omega
theorem Z4f (xs:List Z4)(h:W4 xs=true):∀x∈xs,Qf x=true:=by
 unfold W4 at h
 rw[Bool.and_eq_true,Z09]at h
 intro x hx
 obtain⟨i,hi,rfl⟩:=List.getElem_of_mem hx
 have:=h.1 i hi
 rw[at_n hi,Bool.and_eq_true]at this
 exact this.1
theorem Z4h (xs:List Z4)(h:W4 xs=true):Zx xs≤540:=by
 have hl:=Z4g xs h
 have:=Z3O Yp 44 xs (fun x hx=>Z5t x (Z4f xs h x hx))
 unfold Zx YO
 omega
theorem Z5y (z:Zt)(h:X6 z=true):W4 z.2=true:=by
 unfold X6 QP at h
 simp only[Bool.and_eq_true]at h
 exact h.2.2.1
noncomputable def Qa (z:Zt)(xs:List Z4)(now term:Int):ZA:=UV (Xl z) xs now term
noncomputable def Qn (z:Zt)(held:List Int)(xs:List Z4)(now term:Int):XM:=bif X6 z&&XU (Qa z xs now term)then U3 z held (Z0 (Qa z xs now term)) xs else Wc z 2
theorem Z5z (z:Zt)(hx:Xh z≤1050000)(h:X6 z=true):ZD (Xl z)≤12:=by
 have hch:=QI z h
 obtain⟨hlt,hle⟩:=Z3f z.1 hch
 have h1:ZD (Xl z)≤1050000:=QK z.1 (UG z hx)
 have hb:ZZ (Xl z)=true:=by
  unfold Xl
  rw[hle]
  exact Z2s z.1 hch _ hlt
 exact Z19 _ h1 hb
theorem Z4l (p:Z6)(xs:List Z4)(now term:Int):ZD (Z0 (UV p xs now term))≤ZD p:=by
 unfold UV
 cases(W4 xs&&(UB p now term&&(ZZ (Xz p 1 now term)&&ZZ (UL xs (Xz p 1 now term)))))with
 |false=>exact Nat.zero_le _
 |true=>
  rw[cond_t,(Z0o _ _).1]
  unfold UL
  rw[setC_size,Z3k]
  exact Nat.le_refl _
theorem Z2B (z:Zt)(held:List Int)(xs:List Z4)(now term:Int)(hx:Xh z≤1050000)(hs:X6 z=true→Xh z+Zx xs≤1049400)(h:X6 z=true):Xh z+(ZD (Z0 (Qa z xs now term))+Zx xs)≤1049500:=by
 have h1:=Z5z z hx h
 have h2:=Z4l (Xl z) xs now term
 have h3:=hs h
 unfold Qa
 omega
theorem Z6q (z:Zt)(held:List Int)(xs:List Z4)(now term:Int)(hx:Xh z≤1050000)(he:Zx xs≤1050000)(hl:held.length≤1050000)(hs:X6 z=true→Xh z+Zx xs≤1049400):YW z held xs now term=some (Qn z held xs now term):=by
 have bad:∀y,YW.l9 z held xs y true=some (Wc z 2):=fun y=>Zf (Z1c z hx) rfl
 unfold YW Qn
 refine Zf (QL z.1 (UG z hx)) (Zf (Z23 _ xs now term (Z5Z z.1 (UG z hx)) he) ?_)
 cases hz:X6 z with
 |false=>
  rw[Bool.false_and,cond_f]
  cases XU (UV (Z0 (Uu z.1)) xs now term)with
  |false=>exact bad (UV (Z0 (Uu z.1)) xs now term)
  |true=>exact cF rfl (Zf (Z0h z hx) (by rw[hz];exact bad (UV (Z0 (Uu z.1)) xs now term)))
 |true=>
  rw[(QX z.1).2 (QI z hz),Bool.true_and]
  show(bif !XU (Qa z xs now term)then _ else _)=_
  cases hr:XU (Qa z xs now term)with
  |false=>exact bad (Qa z xs now term)
  |true=>exact cF rfl (Zf (Z0h z hx) (by rw[hz];exact Zf (Z27 z held _ xs (Z2B z held xs now term hx hs hz) hl) rfl))
theorem Z2P (z:Zt)(held:List Int)(xs:List Z4)(now term:Int)(hx:Xh z≤1050000)(he:Zx xs≤1050000)(hl:held.length≤1050000)(hs:X6 z=true→Xh z+Zx xs≤1049400):Wm z held xs now term=some (Qn z held xs now term):=by
 unfold Wm Qn
 refine Zf (QR z hx) ?_
 cases hz:X6 z with
 |false=>exact cT rfl (Zf (Z0s z hx) rfl)
 |true=>
  refine cF rfl (Zf (Z0I z.1 (QI z hz)) (Zf (Z4P (Xl z) xs now term (QK z.1 (UG z hx)) he) ?_))
  rw[Bool.true_and]
  show(bif !XU (Qa z xs now term)then _ else _)=_
  cases hr:XU (Qa z xs now term)with
  |false=>exact cT rfl (Zf (Z0s z hx) rfl)
  |true=>exact cF rfl (Zf (Z2X z held _ xs (Z2B z held xs now term hx hs hz) hl) rfl)
theorem Z6n (z:Zt)(hx:Xh z≤1048576)(h:X6 z=true):Xh z+Zx z.2≤1049400:=by
 have:=Z4h z.2 (Z5y z h)
 omega
noncomputable def Z02 (z:Zt)(held:List Int)(now term:Int):XM:=Qn z held z.2 now term
theorem Z5k (z:Zt)(held:List Int)(now term:Int)(hx:Xh z≤1048576)(hl:held.length≤1050000):WZ z held now term=some (Z02 z held now term):=by
 unfold WZ Z02
 exact Zf (Z2P z held z.2 now term (by omega) (Z0m z (by omega)) hl (Z6n z hx)) rfl
def Ok {α:Type}(o:Option α)(Q:α→Prop):Prop:=∃a,o=some a∧Q a
theorem Ok.bind {α β:Type}{e:Option α}{P:α→Prop}{f:α→Option β}{Q:β→Prop}(h:Ok e P)(hf:∀a,P a→Ok (f a) Q):Ok (e.bind f) Q:=by
 obtain⟨a,rfl,ha⟩:=h
 rw[bind_s]
 exact hf a ha
theorem Ok.ret {α:Type}{a:α}{Q:α→Prop}(h:Q a):Ok (some a) Q:=⟨a,rfl,h⟩
theorem Ok.of {α:Type}{e:Option α}{a:α}{Q:α→Prop}(h:e=some a)(hq:Q a):Ok e Q:=⟨a,h,hq⟩
theorem Ok.mono {α:Type}{e:Option α}{P Q:α→Prop}(h:Ok e P)(hq:∀a,P a→Q a):Ok e Q:=by
 obtain⟨a,h1,h2⟩:=h
 exact⟨a,h1,hq a h2⟩
theorem Ok.ite {α:Type}{c:Bool}{a b:Option α}{Q:α→Prop}(h1:c=true→Ok a Q)(h2:c=false→Ok b Q):Ok (bif c then a else b) Q:=by
 cases c with
 |true=>rw[cond_t];exact h1 rfl
 |false=>rw[cond_f];exact h2 rfl
theorem Ok.chk {α:Type}{c:Bool}{a b:Option α}{Q:α→Prop}(h:c=true)(h1:Ok a Q):Ok (bif c then a else b) Q:=by
 subst h
 rw[cond_t]
 exact h1
theorem Ok.both {α:Type}{x:Option α}{Q:α→Prop}(h:Ok x Q):Ok (V.both x x) Q:=by
 rw[both_eq]
 exact h
def Cu (code:List Int)(c:Z3):Prop:=c.1=code∧0≤c.2.1∧c.2.1≤(code.length:Int)∧code.length≤1050000
theorem Cu.re {code:List Int}{c d:Z3}(h:Cu code c)(h':Cu code d):Cu code (c.1,d.2.1,d.2.2):=⟨h.1,h'.2⟩
theorem Z2l (a:Int):0≤IntKind.i64.wrap ((BitVec.ofInt IntKind.i64.bits a&&&BitVec.ofInt IntKind.i64.bits (255:Int)).toNat:Int)∧IntKind.i64.wrap ((BitVec.ofInt IntKind.i64.bits a&&&BitVec.ofInt IntKind.i64.bits (255:Int)).toNat:Int)≤255:=by
 have h:(BitVec.ofInt IntKind.i64.bits a&&&BitVec.ofInt IntKind.i64.bits (255:Int)).toNat≤255:=by
  rw[BitVec.toNat_and]
  exact Nat.le_trans Nat.and_le_right (by decide)
 rw[w64 (by omega) (by omega)]
 omega
theorem Z0T {code:List Int}{c:Z3}(hc:Cu code c):Ok (Wu c) (fun r=>Cu code r.1∧0≤r.2∧r.2≤255):=by
 obtain⟨h1,h2,h3,h4⟩:=hc
 unfold Wu
 refine Ok.chk (by decide) (Ok.chk (by decide) (Ok.ite (fun h=> ?_) (fun _=>Ok.ret ⟨⟨h1,h2,h3,h4⟩,Z2l _⟩)))
 have h:=of_decide_eq_true h
 rw[h1]at h
 refine Ok.chk (decide_eq_true h2) (Ok.chk (decide_eq_true (by rw[h1];exact h)) (Ok.ret ⟨⟨h1,?_,?_,h4⟩,Z2l _⟩))
 ·show 0≤IntKind.i64.wrap (c.2.1+1)
  rw[w64 (by omega) (by omega)]
  omega
 ·show IntKind.i64.wrap (c.2.1+1)≤_
  rw[w64 (by omega) (by omega)]
  omega
theorem YL {code:List Int}{c:Z3}(hc:Cu code c)(n:Int):Ok (Zd c n) (fun r=>Cu code r.1∧0≤r.2∧(0<n→r.2<n)∧(n≤0→r.2=0)):=by
 unfold Zd
 refine Ok.ite (fun h=> ?_) (fun h=> ?_)
 ·have h:=of_decide_eq_true h
  exact Ok.ret ⟨hc,Int.le_refl 0,fun h'=>by omega,fun _=>rfl⟩
 ·have h:=of_decide_eq_false h
  have hn:(n==(0:Int))=false:=by rw[beq_eq_false_iff_ne];omega
  refine Ok.ite (fun _=>(Z0T hc).bind fun y hy=> ?_) (fun _=>(Z0T hc).bind fun y hy=>(Z0T (hc.re hy.1)).bind fun z hz=>(Z0T (hc.re hz.1)).bind fun u hu=> ?_)
  ·rw[hn,cond_f]
   exact Ok.ret ⟨hc.re hy.1,Int.tmod_nonneg n hy.2.1,fun h'=>Int.tmod_lt_of_pos _ h',fun h'=>by omega⟩
  ·rw[hn,cond_f]
   obtain⟨_,y1,y2⟩:=hy
   obtain⟨_,z1,z2⟩:=hz
   obtain⟨_,u1,u2⟩:=hu
   have e1:IntKind.i64.wrap (y.2*65536)=y.2*65536:=w64 (by omega) (by omega)
   have e2:IntKind.i64.wrap (z.2*256)=z.2*256:=w64 (by omega) (by omega)
   have e3:IntKind.i64.wrap (y.2*65536+z.2*256)=y.2*65536+z.2*256:=w64 (by omega) (by omega)
   have e4:IntKind.i64.wrap (y.2*65536+z.2*256+u.2)=y.2*65536+z.2*256+u.2:=w64 (by omega) (by omega)
   rw[e1,e2,e3,e4]
   exact Ok.ret ⟨hc.re ‹_›,Int.tmod_nonneg n (by omega),fun h'=>Int.tmod_lt_of_pos _ h',fun h'=>by omega⟩
theorem Qs {code:List Int}{c:Z3}(hc:Cu code c)(n:Int):Ok (Xn c n) (fun r=>Cu code r.1):=by
 unfold Xn
 exact(YL hc n).bind fun y hy=>Ok.ret (hc.re hy.1)
theorem UJ {code:List Int}{c:Z3}(hc:Cu code c){xs:List Int}(hx:0<xs.length):Ok (ZR c xs) (fun r=>Cu code r.1∧r.2∈xs):=by
 unfold ZR
 refine(YL hc _).bind fun y hy=> ?_
 obtain⟨h1,h2,h3,_⟩:=hy
 have h3:=h3 (by omega)
 refine Ok.chk (decide_eq_true h2) (Ok.chk (decide_eq_true h3) (Ok.ret ⟨hc.re h1,?_⟩))
 show xs.getD y.2.toNat 0∈xs
 rw[List.getD_eq_getElem?_getD,List.getElem?_eq_getElem (show y.2.toNat<xs.length by omega)]
 exact List.getElem_mem _
theorem Z79 {code:List Int}{c:Z3}(hc:Cu code c){xs:List ByteArray}(hx:0<xs.length):Ok (Wj c xs) (fun r=>Cu code r.1∧r.2∈xs):=by
 unfold Wj
 refine(YL hc _).bind fun y hy=> ?_
 obtain⟨h1,h2,h3,_⟩:=hy
 have h3:=h3 (by omega)
 refine Ok.chk (decide_eq_true h2) (Ok.chk (decide_eq_true h3) (Ok.ret ⟨hc.re h1,?_⟩))
 show xs.getD y.2.toNat _∈xs
 rw[List.getD_eq_getElem?_getD,List.getElem?_eq_getElem (show y.2.toNat<xs.length by omega)]
 exact List.getElem_mem _
theorem ge0 {v:Int}(h:decide (v>(0:Int))=true):0<v:=of_decide_eq_true h
theorem Z0M {v:Int}(h0:0<v)(h1:v≤1000):IntKind.i64.wrap (v-(1:Int))=v-1:=w64 (by omega) (by omega)
theorem Q9 {α:Type}{xs:List α}{x:α}(h:xs.length≤1050000):decide (xs.length+[x].length<68719476736)=true:=decide_eq_true (by show xs.length+1<_;omega)
theorem US {α:Type}(xs:List α)(x:α):(xs++[x]).length=xs.length+1:=by simp
theorem Z0Q {α:Type}(f:α→Nat)(xs:List α)(x:α):YO f (xs++[x])=YO f xs+1+f x:=by
 unfold YO
 simp only[List.length_append,List.map_append,List.sum_append,List.map_cons,List.map_nil,List.sum_cons,List.sum_nil,List.length_cons,List.length_nil]
 omega
theorem Z3N {code:List Int}{c:Z3}(hc:Cu code c){xs:List ByteArray}{n:Nat}(hx:0<xs.length)(hs:(xs.all fun s=>decide (s.size≤n))=true):Ok (Wj c xs) (fun r=>Cu code r.1∧r.2.size≤n):=
 (Z79 hc hx).mono fun r h=>⟨h.1,of_decide_eq_true (List.all_eq_true.1 hs r.2 h.2)⟩
theorem Z1T {code:List Int}{c:Z3}(hc:Cu code c):Ok (W1 c) (fun r=>Cu code r.1∧r.2.size≤9):=by
 unfold W1
 exact(Z3N (n:=9) hc (by decide) (by decide)).bind fun y hy=>Ok.ret ⟨hc.re hy.1,hy.2⟩
theorem Z5N {code:List Int}{x0:Z3}:∀(n:Nat) (v a b:Int) (acc:List ByteArray),v<(n:Int)→0≤v→v≤1000→acc.length+v.toNat≤1000→Cu code (x0.1,a,b)→Ok (Yk.l6 x0 n v a b acc) (fun r=>Cu code r.1∧Xj r.2≤Xj acc+10*v.toNat):=by
 intro n
 induction n with
 |zero=>intro v a b acc h0 h1;omega
 |succ n ih=>
  intro v a b acc h0 h1 h2 ha hc
  rw[Yk.u6]
  refine Ok.ite (fun h=> ?_) (fun h=>Ok.ret ⟨hc,by show Xj acc≤_;omega⟩)
  have h:=ge0 h
  refine(Z1T hc).bind fun y hy=>Ok.chk (Q9 (by omega)) ?_
  rw[Z0M h h2]
  refine(ih (v-1) _ _ (acc++[y.2]) (by omega) (by omega) (by omega) (by rw[US];omega) (hc.re hy.1)).mono fun r hr=>⟨hr.1,?_⟩
  have e:Xj (acc++[y.2])=Xj acc+1+XL y.2:=Z0Q _ _ _
  have e2:XL y.2≤9:=hy.2
  have:=hr.2
  omega
theorem Z3c {code:List Int}{c:Z3}(hc:Cu code c):Ok (Yk c) (fun r=>Cu code r.1∧Xj r.2≤30):=by
 unfold Yk
 refine(YL hc 3).bind fun y hy=> ?_
 obtain⟨h1,h2,h3,_⟩:=hy
 have h3:=h3 (by omega)
 have e:IntKind.i64.wrap ((1:Int)+y.2)=1+y.2:=w64 (by omega) (by omega)
 rw[e]
 have hk:=KK_gt (n:=1000) (by omega)
 refine(Z5N KK (1+y.2) _ _ [] (by omega) (by omega) (by omega) (by show 0+_≤_;omega) (hc.re h1)).mono fun r hr=>⟨hr.1,?_⟩
 have e0:Xj []=0:=rfl
 have:=hr.2
 omega
theorem Z3e {code:List Int}{c:Z3}(hc:Cu code c):Ok (Wx c) (fun r=>Cu code r.1∧Yp r.2≤39):=by
 unfold Wx
 refine(Z1T hc).bind fun y1 h1=>(YL (hc.re h1.1) 5).bind fun y2 h2=>Ok.ite (fun _=> ?_) fun _=>Ok.ite (fun _=> ?_) fun _=> ?_
 ·refine(YL (hc.re h2.1) 5000).bind fun y3 h3=>Ok.bind (P:=fun e=>Yp e≤39) ?_ fun e he=>Ok.ret ⟨hc.re h3.1,he⟩
  exact Ok.ret (by show XL y1.2+0≤39;have:XL y1.2≤9:=h1.2;omega)
 ·refine(YL (hc.re h2.1) 5000).bind fun y3 h3=>(Z3c (hc.re h3.1)).bind fun y6 h6=>Ok.bind (P:=fun e=>Yp e≤39) ?_ fun e he=>Ok.ret ⟨hc.re h6.1,he⟩
  have hl:y6.2.length≤1050000:=by have:=h6.2;unfold Xj YO at this;omega
  exact Ok.of (Zf (Z3b y6.2 hl) rfl) (by show XL y1.2+Xj y6.2≤39;have:XL y1.2≤9:=h1.2;have:=h6.2;omega)
 ·refine(YL (hc.re h2.1) 50).bind fun y3 h3=>Ok.bind (P:=fun e=>Yp e≤39) ?_ fun e he=>Ok.ret ⟨hc.re h3.1,he⟩
  exact Ok.ret (by show XL y1.2+0≤39;have:XL y1.2≤9:=h1.2;omega)
theorem Z7b {α:Type}(f:α→Nat){xs:List α}{i:Nat}(h:i<xs.length):YO f (xs.drop i)=1+f xs[i]+YO f (xs.drop (i+1)):=by
 rw[List.drop_eq_getElem_cons h]
 unfold YO
 simp only[List.map_cons,List.sum_cons,List.length_cons]
 omega
theorem Z0k {α:Type}(f:α→Nat)(xs:List α):xs.length≤YO f xs:=by unfold YO;omega
theorem Z6m (xs:List Z4)(e:Z4)(hx:Zx xs+Yp e≤100000):∀(n i:Nat) (done:Bool) (out:List Z4),xs.length-i<n→i≤xs.length→Zx out+(bif done then 0 else Yp e+1)+Zx (xs.drop i)≤Zx xs+Yp e+1→
 Ok (Zq.l8 xs e n done (i:Int) out) (fun r=>Zx r.1≤Zx xs+Yp e+1):=by
 have hlx:=Z0k Yp xs
 have hl:xs.length≤100000:=by unfold Zx at hx;omega
 have fin:∀out:List Z4,Zx out≤Zx xs+Yp e+1→Ok (Zq.l29 xs out) (fun r=>Zx r.1≤Zx xs+Yp e+1):=by
  intro out ho
  have tail:∀v:Bool,Ok (Zq.l31 xs out v) (fun r=>Zx r.1≤Zx xs+Yp e+1):=by
   intro v
   refine Ok.ite (fun _=> ?_) fun _=>Ok.ret ho
   exact Ok.of (Zf (Z1f xs (by omega)) rfl) (by show Zx xs≤_;omega)
  refine Ok.bind (P:=fun _=>True) (Ok.of (Z0N xs (by omega)) trivial) fun y _=>Ok.ite (fun _=>tail _) fun _=> ?_
  exact Ok.bind (P:=fun _=>True) (Ok.of (Z0N out (by omega)) trivial) fun y _=>tail _
 intro n
 induction n with
 |zero=>intro i done out h0;omega
 |succ n ih=>
  intro i done out h0 h1 hi
  have hlo:=Z0k Yp out
  have hou:Zx out≤100001:=by omega
  have hlo:out.length≤100001:=by unfold Zx at hou;omega
  rw[Zq.u8]
  refine Ok.ite (fun h=> ?_) (fun h=> ?_)
  ·have hlt:i<xs.length:=by have:=of_decide_eq_true h;omega
   have hd:=Z7b Yp hlt
   have hd:Zx (xs.drop i)=1+Yp xs[i]+Zx (xs.drop (i+1)):=hd
   refine Ok.chk (decide_eq_true (by omega)) (Ok.chk h ?_)
   rw[Int.toNat_natCast,at_n hlt]
   refine Ok.bind (P:=fun _=>True) (Ok.of (Z3v _ _) trivial) fun k _=> ?_
   have hei:Yp xs[i]≤1050000:=by omega
   have nx:∀(d:Bool) (o:List Z4),Zx o+(bif d then 0 else Yp e+1)+Zx (xs.drop i)≤Zx xs+Yp e+1→Ok (Zq.l21 xs e (i:Int) k (Zq.l8 xs e n) d o) (fun r=>Zx r.1≤Zx xs+Yp e+1):=by
    intro d o ho
    have hlo:o.length≤Zx o:=Z0k Yp o
    have hlo:o.length≤1050000:=by omega
    refine Ok.ite (fun _=> ?_) fun _=> ?_
    ·refine Ok.chk (decide_eq_true (by omega)) (Ok.chk h ?_)
     rw[Int.toNat_natCast,at_n hlt,w64_succ (by omega)]
     refine Ok.bind (P:=fun y=>y=xs[i]) (Ok.of (Z1d _ hei) rfl) fun y hy=>Ok.chk (Q9 hlo) ?_
     subst hy
     refine ih (i+1) d _ (by omega) (by omega) ?_
     have e2:Zx (o++[xs[i]])=Zx o+1+Yp xs[i]:=Z0Q _ _ _
     omega
    ·rw[w64_succ (by omega)]
     exact ih (i+1) d o (by omega) (by omega) (by omega)
   have cs:∀v:Bool,(v=true→done=false)→Ok (Zq.l17 xs e done (i:Int) out k (Zq.l8 xs e n) v) (fun r=>Zx r.1≤Zx xs+Yp e+1):=by
    intro v hv
    refine Ok.ite (fun h=> ?_) fun _=>nx _ _ hi
    have hd:=hv h
    subst hd
    rw[cond_f]at hi
    refine Ok.bind (P:=fun y=>y=e) (Ok.of (Z1d _ (by omega)) rfl) fun y hy=>Ok.chk (Q9 (by omega)) (nx _ _ ?_)
    subst hy
    have e2:Zx (out++[y])=Zx out+1+Yp y:=Z0Q _ _ _
    rw[cond_t]
    omega
   exact Ok.ite (fun _=>cs _ (fun h=>by cases done<;>simp_all)) (fun _=>cs _ (fun h=>by cases h))
  ·have e0:i=xs.length:=by have:=of_decide_eq_false h;omega
   subst e0
   rw[List.drop_length]at hi
   have e0:Zx []=0:=rfl
   refine Ok.ite (fun h=> ?_) (fun h=>fin _ (by omega))
   have hd:done=false:=by cases done<;>simp_all
   subst hd
   rw[cond_f]at hi
   refine Ok.bind (P:=fun y=>y=e) (Ok.of (Z1d _ (by omega)) rfl) fun y hy=>Ok.chk (Q9 (by omega)) (fin _ ?_)
   subst hy
   have e2:Zx (out++[y])=Zx out+1+Yp y:=Z0Q _ _ _
   omega
theorem Z3t (xs:List Z4)(e:Z4)(hx:Zx xs+Yp e≤100000):Ok (Zq xs e) (fun r=>Zx r.1≤Zx xs+Yp e+1):=by
 have hlx:=Z0k Yp xs
 have hlx:xs.length≤100000:=by unfold Zx at hx;omega
 refine Z6m xs e hx KK 0 false [] (KK_gt (by omega)) (Nat.zero_le _) ?_
 have e0:Zx []=0:=rfl
 rw[cond_f,List.drop_zero]
 omega
theorem Z5W {code:List Int}{x0:Z3}:∀(n:Nat) (v a b:Int) (acc:List Z4),v<(n:Int)→0≤v→v≤1000→Zx acc+40*v.toNat≤50000→Cu code (x0.1,a,b)→Ok (ZK.l6 x0 n v a b acc) (fun r=>Cu code r.1∧Zx r.2≤Zx acc+40*v.toNat):=by
 intro n
 induction n with
 |zero=>intro v a b acc h0 h1;omega
 |succ n ih=>
  intro v a b acc h0 h1 h2 ha hc
  rw[ZK.u6]
  refine Ok.ite (fun h=> ?_) (fun h=>Ok.ret ⟨hc,by show Zx acc≤_;omega⟩)
  have h:=ge0 h
  refine(Z3e hc).bind fun y hy=> ?_
  have hy2:=hy.2
  refine(Z3t acc y.2 (by omega)).bind fun z hz=> ?_
  rw[Z0M h h2]
  refine(ih (v-1) _ _ z.1 (by omega) (by omega) (by omega) (by omega) (hc.re hy.1)).mono fun r hr=>⟨hr.1,?_⟩
  have:=hr.2
  omega
theorem QW {code:List Int}{c:Z3}(hc:Cu code c):Ok (ZK c) (fun r=>Cu code r.1∧Zx r.2≤240):=by
 unfold ZK
 refine(YL hc 7).bind fun y hy=> ?_
 obtain⟨h1,h2,h3,_⟩:=hy
 have h3:=h3 (by omega)
 have hk:=KK_gt (n:=1000) (by omega)
 have e0:Zx []=0:=rfl
 refine(Z5W KK y.2 _ _ [] (by omega) (by omega) (by omega) (by omega) (hc.re h1)).mono fun r hr=>⟨hr.1,?_⟩
 have:=hr.2
 omega
theorem Z5R {code:List Int}{x0:Z3}{m:Int}(hm:m≤1000):∀(n:Nat) (t i a b:Int) (acc:List Int),m-i<(n:Int)→0≤i→i≤m→(acc.length:Int)=i→Cu code (x0.1,a,b)→Ok (ZN.l10 x0 n m t i a b acc) (fun r=>Cu code r.1∧(r.2.1.length:Int)=m):=by
 intro n
 induction n with
 |zero=>intro t i a b acc h0 h1 h2;omega
 |succ n ih=>
  intro t i a b acc h0 h1 h2 ha hc
  rw[ZN.u10]
  refine Ok.ite (fun h=> ?_) (fun h=> ?_)
  ·have h:=of_decide_eq_true h
   refine(YL hc 3).bind fun y hy=>Ok.chk (Q9 (by omega)) ?_
   have e:IntKind.i64.wrap (i+(1:Int))=i+1:=w64 (by omega) (by omega)
   rw[e]
   exact ih _ (i+1) _ _ _ (by omega) (by omega) (by omega) (by rw[US];omega) (hc.re hy.1)
  ·have h:=of_decide_eq_false h
   exact(YL hc m).bind fun y hy=>Ok.ret ⟨hc.re hy.1,by show(acc.length:Int)=m;omega⟩
theorem UZ {code:List Int}{c:Z3}(hc:Cu code c):Ok (ZN c) (fun r=>Cu code r.1∧r.2.1.length≤3):=by
 unfold ZN
 refine(YL hc 3).bind fun y hy=>(YL (hc.re hy.1) 4).bind fun z hz=> ?_
 obtain⟨h1,h2,h3,_⟩:=hy
 have h3:=h3 (by omega)
 have e:IntKind.i64.wrap ((1:Int)+y.2)=1+y.2:=w64 (by omega) (by omega)
 rw[e]
 have hk:=KK_gt (n:=2000) (by omega)
 refine(Z5R (m:=1+y.2) (by omega) KK z.2 0 _ _ [] (by omega) (by omega) (by omega) rfl (hc.re hz.1)).mono fun r hr=>⟨hr.1,?_⟩
 have:=hr.2
 omega
theorem Z1U {code:List Int}{c:Z3}(hc:Cu code c):Ok (Wl c) (fun r=>Cu code r.1∧r.2.1.length≤4):=by
 unfold Wl
 refine(UZ hc).bind fun y1 h1=>(YL (hc.re h1.1) 10).bind fun y2 h2=>Ok.ite (fun _=> ?_) fun _=>Ok.ite (fun _=> ?_) fun _=>Ok.ite (fun _=> ?_) fun _=> ?_
 ·exact(UJ (hc.re h2.1) (by decide)).bind fun y3 h3=>Ok.ret ⟨hc.re h3.1,Nat.le_succ_of_le h1.2⟩
 ·have one:Ok ((ZR (c.1,y2.1.2.1,y2.1.2.2) [(1:Int),(99:Int),(100:Int)]).bind fun y4=>bif decide (y1.2.1.length+[y4.2].length<68719476736)then some ((c.1,y4.1.2.1,y4.1.2.2),y1.2.1++[y4.2],y1.2.2)else none) (fun r=>Cu code r.1∧r.2.1.length≤4):=
   (UJ (hc.re h2.1) (by decide)).bind fun y3 h3=>Ok.chk (Q9 (Nat.le_trans h1.2 (by decide))) (Ok.ret ⟨hc.re h3.1,by show(y1.2.1++[y3.2]).length≤4;rw[US];have:=h1.2;omega⟩)
  simp only[both_eq]
  exact one
 ·exact Ok.ret ⟨hc.re h2.1,by show([]:List Int).length≤4;decide⟩
 ·exact Ok.ret ⟨hc.re h2.1,Nat.le_succ_of_le h1.2⟩
theorem Z5K {code:List Int}(hl:code.length≤1050000):∀(n i:Nat) (v:Int),code.length-i<n→i≤code.length→Ok (ZG.l6 code n v (i:Int)) (Cu code):=by
 intro n
 induction n with
 |zero=>intro i v h0;omega
 |succ n ih=>
  intro i v h0 h1
  rw[ZG.u6]
  have ret:∀v:Int,Ok (some ((code,(0:Int),v):Z3)) (Cu code):=fun v=>Ok.ret ⟨rfl,Int.le_refl 0,by show(0:Int)≤_;omega,hl⟩
  refine Ok.ite (fun h=>Ok.ite (fun _=> ?_) fun _=>ret v) fun _=>ret v
  have hlt:i<code.length:=by have:=of_decide_eq_true h;omega
  unfold ZG.l11
  refine Ok.chk (decide_eq_true (by omega)) (Ok.chk h ?_)
  rw[w64_succ (by omega)]
  exact ih (i+1) _ (by omega) (by omega)
theorem Z1R {code:List Int}(hl:code.length≤1050000):Ok (ZG code) (Cu code):=
 Z5K hl KK 0 _ (KK_gt (by omega)) (Nat.zero_le _)
def kB (h:Z6):Prop:=(Z8 h).1.length≤4∧(Z7 h).1.length≤4∧(Z9 h).1.length≤4
theorem QJ {h:Z6}(hk:kB h):ZD h≤12:=by
 obtain⟨h1,h2,h3⟩:=hk
 unfold ZD WK
 omega
def sB (s:Z5):Prop:=kB (Ze s)∧(W3 s).length≤8
theorem Z3u {s:Z5}(hs:sB s):X2 s≤20:=by
 have h1:=QJ hs.1
 have h2:=hs.2
 unfold X2
 omega
theorem Z28 {sk:List Int}{k:Zc}{h:Z6}(hh:kB h)(hk:k.1.length≤4):sB (WJ sk k h):=by
 have:=Z2a sk (XN h) k.1 []
 rw[List.length_nil,Nat.zero_add]at this
 exact⟨hh,by show(Uw sk (XN h) k.1 []).length≤8;omega⟩
theorem Z29 {sk:List Int}{k:Zc}{h:Z6}(hh:kB h)(hk:k.1.length≤4)(hs:sk.length≤4):Ok (YS sk k h) sB:=
 Ok.of (Z0P sk k h (by omega) (by omega) (Nat.le_trans (QJ hh) (by decide))) (Z28 hh hk)
theorem Z35 {code:List Int}{x0:Z3}{a b v1 v2 v25 v26:Int}{y1 y2 y4 y5 y6 y7:Z3×Int}{y8:Z3×List Int×Int}{l:List Int}(hc:Cu code (x0.1,v1,v2))(h8:y8.2.1.length≤3)(hl:l.length≤3):Ok (ZQ.l13 x0 a b y1 y2 y4 y5 y6 y7 y8 v1 v2 v25 v26 l) (fun r=>Cu code r.1∧kB r.2):=by
 refine(Qs hc 2).bind fun y h=>Ok.ite (fun _=> ?_) fun _=>Ok.ret ⟨hc.re h,Nat.le_succ_of_le h8,Nat.le_succ_of_le hl,Nat.zero_le _⟩
 exact(UZ (hc.re h)).bind fun z hz=>(Qs (hc.re hz.1) 3).bind fun u hu=>Ok.ret ⟨hc.re hu,Nat.le_succ_of_le h8,Nat.le_succ_of_le hl,Nat.le_succ_of_le hz.2⟩
theorem Z5F {code:List Int}{c:Z3}(hc:Cu code c):Ok (ZQ c) (fun r=>Cu code r.1∧kB r.2):=by
 unfold ZQ ZQ.b
 simp only[both_eq]
 refine(YL hc 50).bind fun y1 h1=>(YL (hc.re h1.1) 4).bind fun y2 h2=>(YL (hc.re h2.1) 3).bind fun y3 h3=>(YL (hc.re h3.1) 40).bind fun y4 h4=>(YL (hc.re h4.1) 90).bind fun y5 h5=>(YL (hc.re h5.1) 9).bind fun y6 h6=>(YL (hc.re h6.1) 5).bind fun y7 h7=>(UZ (hc.re h7.1)).bind fun y8 h8=>(YL (hc.re h8.1) 60).bind fun y9 h9=> ?_
 refine(Qs (hc.re h9.1) 2).bind fun y h=>Ok.ite (fun _=> ?_) fun _=>Z35 (hc.re h) h8.2 (Nat.zero_le _)
 exact(UZ (hc.re h)).bind fun z hz=>(YL (hc.re hz.1) 30).bind fun u hu=>Z35 (hc.re hu.1) h8.2 hz.2
theorem Z34 {code:List Int}{c:Z3}(hc:Cu code c):Ok (Wi c) (fun r=>Cu code r.1∧kB r.2):=by
 unfold Wi
 refine(Z5F hc).bind fun y1 h1=>(YL (hc.re h1.1) 14).bind fun y2 h2=>Ok.ite (fun _=> ?_) fun _=>Ok.ite (fun _=> ?_) fun _=>Ok.ite (fun _=> ?_) fun _=>Ok.ite (fun _=> ?_) fun _=>Ok.ite (fun _=> ?_) fun _=>Ok.ite (fun _=> ?_) fun _=>Ok.ite (fun _=> ?_) fun _=> ?_
 ·exact(UJ (hc.re h2.1) (by decide)).bind fun y h=>Ok.ret ⟨hc.re h.1,h1.2⟩
 ·exact(UJ (hc.re h2.1) (by decide)).bind fun y h=>Ok.ret ⟨hc.re h.1,h1.2⟩
 ·exact(UJ (hc.re h2.1) (by decide)).bind fun y h=>Ok.ret ⟨hc.re h.1,h1.2⟩
 ·exact(Z1U (hc.re h2.1)).bind fun y h=>Ok.ret ⟨hc.re h.1,h.2,h1.2.2.1,h1.2.2.2⟩
 ·exact(UJ (hc.re h2.1) (by decide)).bind fun y h=>Ok.ret ⟨hc.re h.1,h1.2⟩
 ·exact Ok.ret ⟨hc.re h2.1,h1.2⟩
 ·exact(Z1U (hc.re h2.1)).bind fun y h=>Ok.ret ⟨hc.re h.1,h1.2.1,h1.2.2.1,h.2⟩
 ·exact Ok.ret ⟨hc.re h2.1,h1.2⟩
theorem Z5Q {code:List Int}{x0:Z3}:∀(n:Nat) (v a b:Int) (acc:List Int),v<(n:Int)→0≤v→v≤1000→acc.length+v.toNat≤1000→Cu code (x0.1,a,b)→Ok (Ye.l6 x0 n v a b acc) (fun r=>Cu code r.1∧r.2.length≤acc.length+v.toNat):=by
 intro n
 induction n with
 |zero=>intro v a b acc h0 h1;omega
 |succ n ih=>
  intro v a b acc h0 h1 h2 ha hc
  rw[Ye.u6]
  refine Ok.ite (fun h=> ?_) (fun h=>Ok.ret ⟨hc,by show acc.length≤_;omega⟩)
  have h:=ge0 h
  refine(YL hc 9).bind fun y hy=>Ok.chk (Q9 (by omega)) ?_
  rw[Z0M h h2]
  refine(ih (v-1) _ _ _ (by omega) (by omega) (by omega) (by rw[US];omega) (hc.re hy.1)).mono fun r hr=>⟨hr.1,?_⟩
  have:=hr.2
  rw[US]at this
  omega
theorem Z3d {code:List Int}{c:Z3}(hc:Cu code c):Ok (Ye c) (fun r=>Cu code r.1∧r.2.length≤6):=by
 unfold Ye
 refine(YL hc 6).bind fun y hy=> ?_
 obtain⟨h1,h2,h3,_⟩:=hy
 have h3:=h3 (by omega)
 have hk:=KK_gt (n:=1000) (by omega)
 refine(Z5Q KK y.2 _ _ [] (by omega) (by omega) (by omega) (by show 0+_≤_;omega) (hc.re h1)).mono fun r hr=>⟨hr.1,?_⟩
 have:r.2.length≤0+y.2.toNat:=hr.2
 omega
theorem Z3U {α:Type}(xs:List α)(i:Nat)(f:α→α):(V.upd xs i f).length=xs.length:=by
 induction xs generalizing i with
 |nil=>rfl
 |cons x xs ih=>
  cases i with
  |zero=>rfl
  |succ i=>show(V.upd xs i f).length+1=xs.length+1;rw[ih]
theorem Z5S {code:List Int}{x0:Z3}{v1 v2:Int}{s:List Zb}(hc:Cu code (x0.1,v1,v2))(hs:s.length≤4):Ok (YT.l5 x0 v1 v2 s) (fun r=>Cu code r.1∧r.2.length≤8):=by
 refine(YL hc 6).bind fun y3 h3=>Ok.ite (fun _=> ?_) fun _=>Ok.ite (fun _=> ?_) fun _=>Ok.ite (fun _=> ?_) fun _=> ?_
 ·exact(UJ (hc.re h3.1) (by decide)).bind fun y4 h4=>(YL (hc.re h4.1) 9).bind fun y5 h5=>Ok.chk (Q9 (by omega)) (Ok.ret ⟨hc.re h5.1,by show(s++[_]).length≤8;rw[US];omega⟩)
 ·exact Ok.chk (decide_eq_true (by omega)) (Ok.ret ⟨hc.re h3.1,by show(s++s).length≤8;rw[List.length_append];omega⟩)
 ·refine Ok.ite (fun h=> ?_) fun _=>Ok.ret ⟨hc.re h3.1,by show s.length≤8;omega⟩
  exact Ok.chk (by decide) (Ok.chk h (Ok.chk (by decide) (Ok.chk h (Ok.ret ⟨hc.re h3.1,by show(V.upd s _ _).length≤8;rw[Z3U];omega⟩))))
 ·exact Ok.ret ⟨hc.re h3.1,by show s.length≤8;omega⟩
theorem Z5T {code:List Int}{c:Z3}(hc:Cu code c){k:Zc}{m:List Int}(hk:k.1.length≤4)(hm:m.length≤8388608):Ok (YT c k m) (fun r=>Cu code r.1∧r.2.length≤8):=by
 unfold YT YT.b
 simp only[both_eq]
 refine(Z3d hc).bind fun y hy=>Ok.bind (P:=fun s=>s.length≤4) ?_ fun s hs=>Z5S (hc.re hy.1) hs
 have hl:=hy.2
 refine Ok.of (Z3C y.2 k m (by omega) (by omega) hm) ?_
 have:=Z2a y.2 m k.1 []
 rw[List.length_nil,Nat.zero_add]at this
 omega
theorem Z1Q {code:List Int}{x0:Z3}{v18 v19 v20 v21 v22 v23 v24 v25 v26 v1 v2 v27 v28 v29:Int}{b:Bool}{l1 l2 l3:List Int}{y1:Z3×List Int×Int}(hc:Cu code (x0.1,v1,v2))(h1:y1.2.1.length≤3)(hl1:l1.length≤4)(hl2:l2.length≤4)(hl3:l3.length≤4):Ok (ZO.l25 x0 v18 v19 v20 v21 v22 v23 v24 v25 v26 b l1 y1 v1 v2 v27 v28 v29 l2 l3) (fun r=>Cu code r.1∧sB r.2):=by
 refine(Z29 ?_ ?_ ?_).bind fun y hy=>Ok.ret ⟨hc,hy⟩
 ·exact⟨hl1,hl2,hl3⟩
 ·exact Nat.le_succ_of_le h1
 ·exact Nat.le_succ_of_le h1
theorem Z4F {k:Zc}{s:Int}{xs:List Z4}{now term:Int}(hk:k.1.length≤3):kB (Z0 (QE k s xs now term)):=by
 unfold QE
 cases UR k s xs now term with
 |true=>exact⟨Nat.le_succ_of_le hk,Nat.zero_le _,Nat.zero_le _⟩
 |false=>exact⟨Nat.zero_le _,Nat.zero_le _,Nat.zero_le _⟩
theorem Z37 {code:List Int}{c:Z3}(hc:Cu code c):Ok (ZO c) (fun r=>Cu code r.1∧sB r.2):=by
 unfold ZO ZO.b
 simp only[both_eq]
 refine(UZ hc).bind fun y1 h1=>(YL (hc.re h1.1) 9).bind fun y2 h2=>(QW (hc.re h2.1)).bind fun y3 h3=>(YL (hc.re h3.1) 40).bind fun y4 h4=>(YL (hc.re h4.1) 60).bind fun y5 h5=>Ok.bind (P:=fun y=>kB (Z0 y)) ?_ fun y6 h6=> ?_
 ·have hx:=h3.2
  have hk:=h1.2
  exact Ok.of (Z3x y1.2 y2.2 y3.2 y4.2 y5.2 (by show y1.2.1.length≤_;omega) (by omega)) (Z4F h1.2)
 ·refine(YL (hc.re h5.1) 4).bind fun y7 h7=>Ok.ite (fun _=> ?_) fun _=>Ok.ite (fun _=> ?_) fun _=>Z1Q (hc.re h7.1) h1.2 h6.1 h6.2.1 h6.2.2
  ·exact(UZ (hc.re h7.1)).bind fun y8 h8=>(YL (hc.re h8.1) 30).bind fun y9 h9=>Z1Q (hc.re h9.1) h1.2 h6.1 (Nat.le_succ_of_le h8.2) h6.2.2
  ·exact(UZ (hc.re h7.1)).bind fun y8 h8=>Z1Q (hc.re h8.1) h1.2 h6.1 h6.2.1 (Nat.le_succ_of_le h8.2)
theorem Z5G {code:List Int}{c:Z3}(hc:Cu code c):Ok (Uj c) (fun r=>Cu code r.1∧sB r.2):=by
 unfold Uj
 refine(Z37 hc).bind fun y1 h1=>(YL (hc.re h1.1) 8).bind fun y2 h2=>Ok.ite (fun _=> ?_) fun _=>Ok.ite (fun _=> ?_) fun _=>Ok.ite (fun _=> ?_) fun _=> ?_
 ·exact(Z34 (hc.re h2.1)).bind fun y3 h3=>Ok.ret ⟨hc.re h3.1,h3.2,h1.2.2⟩
 ·refine Ok.bind (P:=fun m=>m.length≤8388608) ?_ fun m hm=>(Z5T (hc.re h2.1) (show _≤4 from h1.2.1.1) hm).bind fun y5 h5=>Ok.ret ⟨hc.re h5.1,h1.2.1,h5.2⟩
  have hz:=QJ h1.2.1
  have hm:(XN (Ze y1.2)).length≤8388608:=by rw[QG];omega
  exact Ok.of (Z0O _ (Nat.le_trans hz (by decide))) hm
 ·refine(Z29 ?_ ?_ ?_).bind fun y6 h6=>Ok.ret ⟨hc.re h2.1,h6⟩
  ·exact h1.2.1
  ·exact h1.2.1.1
  ·exact h1.2.1.1
 ·exact Ok.ret ⟨hc.re h2.1,h1.2⟩
theorem Z00 {code:List Int}{x0:Z3}{a b v1 v2 v18 v19 v20 v21 v22 v24 v25 v26 v27 v33:Int}{h:Z6}{f:Bool}{l1 l2 l3 l4:List Int}(hc:Cu code (x0.1,v1,v2))(h1:l1.length≤4)(h2:l2.length≤4)(h3:l3.length≤4)(h4:l4.length≤4):Ok (Zh.l63 x0 a h b v1 v2 v18 v19 v20 v21 v22 v24 v25 v26 v27 f l1 l2 l3 l4 v33) (fun r=>Cu code r.1∧sB r.2):=by
 refine(Z29 ?_ ?_ ?_).bind fun y hy=>Ok.ret ⟨hc,hy⟩
 ·exact⟨h1,h2,h3⟩
 ·exact h4
 ·exact h4
theorem Z66 {code:List Int}{x0:Z3}{x1 y1:Z6}{a b v1 v2 v35 v36:Int}(hc:Cu code (x0.1,v1,v2))(hx:kB x1)(hy:kB y1):Ok (Zh.l27 x0 x1 a v35 y1 b v1 v2 v36) (fun r=>Cu code r.1∧sB r.2):=by
 refine Ok.bind (P:=fun k=>k=Z7 x1) (Ok.of (Z0H _ (by have:=hx.2.1;omega)) rfl) fun k hk=> ?_
 subst hk
 exact Z00 hc hx.2.1 hy.2.1 hy.2.2 hx.2.1
theorem Z65 {code:List Int}{x0:Z3}{x1 y1:Z6}{a b v1 v2 v35 v36:Int}(hc:Cu code (x0.1,v1,v2))(hx:kB x1)(hy:kB y1):Ok (Zh.l25 x0 x1 a v36 y1 b v1 v2 v35) (fun r=>Cu code r.1∧sB r.2):=by
 unfold Zh.l25 Zh.g25
 simp only[both_eq]
 exact(YL hc 60).bind fun y h=>Z66 (hc.re h.1) hx hy
theorem Z3j {code:List Int}{x0:Z3}{x1 y1:Z6}{a b v1 v2 v35 v36:Int}{f g:Bool}(hc:Cu code (x0.1,v1,v2))(hx:kB x1)(hy:kB y1):Ok (Zh.l41 x0 x1 a v35 v36 y1 b f v1 v2 g) (fun r=>Cu code r.1∧sB r.2):=
 Ok.ite (fun _=>(UZ hc).bind fun y h=>Z00 (hc.re h.1) (Nat.le_succ_of_le h.2) hy.2.1 hy.2.2 hx.2.2) fun _=>Z00 hc hy.1 hy.2.1 hy.2.2 hx.2.2
theorem Z64 {code:List Int}{x0:Z3}{x1 y1:Z6}{a b v1 v2 v35 v36:Int}(hc:Cu code (x0.1,v1,v2))(hx:kB x1)(hy:kB y1):Ok (Zh.l13 x0 x1 a v35 y1 b v1 v2 v36) (fun r=>Cu code r.1∧sB r.2):=by
 unfold Zh.l13 Zh.g13
 simp only[both_eq]
 refine(YL hc 6).bind fun y5 h5=>Ok.ite (fun _=> ?_) fun _=>Ok.ite (fun _=>Ok.ite (fun _=> ?_) fun _=> ?_) fun _=>Ok.ite (fun _=> ?_) fun _=>Ok.ite (fun _=> ?_) fun _=>Ok.ite (fun _=> ?_) fun _=> ?_
 ·exact(YL (hc.re h5.1) 3).bind fun y h=>Z65 (hc.re h.1) hx hy
 ·exact(Qs (hc.re h5.1) 2).bind fun y h=>Z3j (hc.re h) hx hy
 ·exact Z3j (hc.re h5.1) hx hy
 ·exact(UZ (hc.re h5.1)).bind fun y h=>Z00 (hc.re h.1) (Nat.le_succ_of_le h.2) hy.2.1 hy.2.2 hx.1
 ·refine(QW (hc.re h5.1)).bind fun y h=>Ok.bind (P:=fun _=>True) (Ok.of (Z1p _ (by have:=h.2;omega)) trivial) fun z _=>Z00 (hc.re h.1) hy.1 hy.2.1 hy.2.2 hx.1
 ·exact(UZ (hc.re h5.1)).bind fun y h=>(YL (hc.re h.1) 20).bind fun z hz=>(UZ (hc.re hz.1)).bind fun u hu=>Z00 (hc.re hu.1) hy.1 (Nat.le_succ_of_le h.2) (Nat.le_succ_of_le hu.2) hx.1
 ·exact Z00 (hc.re h5.1) hy.1 hy.2.1 hy.2.2 hx.1
theorem Z3l {code:List Int}{c:Z3}(hc:Cu code c){p:Z6}(hp:kB p):Ok (Zh c p) (fun r=>Cu code r.1∧sB r.2):=by
 have hz:=QJ hp
 unfold Zh Zh.b
 simp only[both_eq]
 refine Ok.bind (P:=fun h=>h=p) (Ok.of (Z0E p (by omega)) rfl) fun h hh=> ?_
 subst hh
 refine Ok.bind (P:=fun _=>True) (Ok.of (Z25 h (by omega)) trivial) fun d _=>(YL hc 40).bind fun y3 h3=> ?_
 unfold Zh.l11 Zh.g11
 simp only[both_eq]
 exact(YL (hc.re h3.1) 60).bind fun y4 h4=>Z64 (hc.re h4.1) hp hp
def lB (xs:List Z5):Prop:=∀s∈xs,sB s
theorem Z1g :∀{xs:List Z5},lB xs→YQ xs≤21*xs.length
 |[],_=>Nat.le_refl _
 |s::xs,h=>by
  have ih:=Z1g (xs:=xs) fun t ht=>h t (List.mem_cons_of_mem _ ht)
  have hs:=Z3u (h s (List.mem_cons_self ..))
  unfold YQ YO at ih⊢
  simp only[List.map_cons,List.sum_cons,List.length_cons]
  omega
theorem Z1V {xs:List Z5}{s:Z5}(h:lB xs)(hs:sB s):lB (xs++[s]):=by
 intro t ht
 rcases List.mem_append.1 ht with ht|ht
 ·exact h t ht
 ·rw[List.mem_singleton.1 ht];exact hs
theorem Z1A (xs:List Z5)(s:Z5):(ext xs s).1=xs∨(ext xs s).1=xs++[s]:=by
 unfold ext QD
 cases(!XA xs||decide ((xs.length:Int)≥(12:Int)))with
 |true=>exact .inl rfl
 |false=>
  cases U2 (Ze (Wh xs)) s !=(1:Int)with
  |true=>exact .inl rfl
  |false=>exact .inr rfl
theorem Z4B {xs:List Z5}{s:Z5}(h:lB xs)(hs:sB s):lB (ext xs s).1∧xs.length≤(ext xs s).1.length∧(ext xs s).1.length≤xs.length+1:=by
 rcases Z1A xs s with e|e<;>rw[e]
 ·exact⟨h,Nat.le_refl _,Nat.le_succ _⟩
 ·exact⟨Z1V h hs,by rw[US];omega,by rw[US];omega⟩
theorem Z4t :sB X3:=⟨⟨Nat.zero_le _,Nat.zero_le _,Nat.zero_le _⟩,Nat.zero_le _⟩
theorem Z1W {xs:List Z5}(h:lB xs)(i:Nat):sB (xs.getD i X3):=by
 by_cases hi:i<xs.length
 ·rw[at_n hi];exact h _ (List.getElem_mem _)
 ·have e:xs.getD i X3=X3:=by simp[List.getD,show xs.length≤i by omega]
  rw[e];exact Z4t
theorem Z5I {code:List Int}{x0:Z3}:∀(n:Nat) (v a b:Int) (xs:List Z5),v<(n:Int)→0≤v→v≤1000→1≤xs.length→xs.length+v.toNat≤1000→lB xs→Cu code (x0.1,a,b)→Ok (YA.l6 x0 n v a b xs) (fun r=>Cu code r.1∧lB r.2∧1≤r.2.length∧r.2.length≤xs.length+v.toNat):=by
 intro n
 induction n with
 |zero=>intro v a b xs h0 h1;omega
 |succ n ih=>
  intro v a b xs h0 h1 h2 hx ha hl hc
  rw[YA.u6]
  refine Ok.ite (fun h=> ?_) (fun h=>Ok.ret ⟨hc,hl,hx,by show xs.length≤_;omega⟩)
  have h:=ge0 h
  have e:IntKind.i64.wrap ((xs.length:Int)-(1:Int))=(xs.length:Int)-1:=w64 (by omega) (by omega)
  rw[e]
  refine Ok.chk (decide_eq_true (by omega)) (Ok.chk (decide_eq_true (by omega)) ?_)
  refine(Z3l hc (Z1W hl _).1).bind fun y hy=>Ok.bind (P:=fun z=>z=ext xs y.2) (Ok.of (Z3w xs y.2 ?_ ?_) rfl) fun z hz=> ?_
  ·have:=Z1g hl;omega
  ·have:=Z3u hy.2;omega
  ·subst hz
   rw[Z0M h h2]
   obtain⟨k1,k2,k3⟩:=Z4B hl hy.2
   refine(ih (v-1) _ _ (ext xs y.2).1 (by omega) (by omega) (by omega) (by omega) (by omega) k1 (hc.re hy.1)).mono fun r hr=>⟨hr.1,hr.2.1,hr.2.2.1,?_⟩
   have:=hr.2.2.2
   omega
theorem Z5J {code:List Int}{c:Z3}(hc:Cu code c):Ok (YA c) (fun r=>Cu code r.1∧lB r.2∧1≤r.2.length∧r.2.length≤5):=by
 unfold YA
 refine(Z37 hc).bind fun y1 h1=>(YL (hc.re h1.1) 5).bind fun y hy=> ?_
 obtain⟨k1,k2,k3,_⟩:=hy
 have k3:=k3 (by omega)
 have hk:=KK_gt (n:=1000) (by omega)
 refine(Z5I KK y.2 _ _ [y1.2] (by omega) (by omega) (by omega) (Nat.le_refl 1) (by show 1+_≤_;omega) (fun s hs=>by rw[List.mem_singleton.1 hs];exact h1.2) (hc.re k1)).mono fun r hr=>⟨hr.1,hr.2.1,hr.2.2.1,?_⟩
 have:r.2.length≤1+y.2.toNat:=hr.2.2.2
 omega
theorem Z5X {xs:List Z5}(h:lB xs)(f:Z5→Z5)(hf:∀s,sB s→sB (f s))(i:Nat):lB (V.upd xs i f):=by
 induction xs generalizing i with
 |nil=>exact h
 |cons x xs ih=>
  cases i with
  |zero=>
   intro s hs
   rcases List.mem_cons.1 (show s∈f x::xs from hs)with rfl|hs
   ·exact hf x (h x (List.mem_cons_self ..))
   ·exact h s (List.mem_cons_of_mem _ hs)
  |succ i=>
   intro s hs
   rcases List.mem_cons.1 (show s∈x::V.upd xs i f from hs)with rfl|hs
   ·exact h s (List.mem_cons_self ..)
   ·exact ih (fun t ht=>h t (List.mem_cons_of_mem _ ht)) i s hs
theorem Z5H {code:List Int}{c:Z3}(hc:Cu code c):Ok (Uk c) (fun r=>Cu code r.1∧lB r.2∧r.2.length≤6):=by
 unfold Uk
 refine(Z5J hc).bind fun y1 h1=>(YL (hc.re h1.1) 10).bind fun y2 h2=> ?_
 obtain⟨_,hl,k1,k2⟩:=h1
 have e:IntKind.i64.wrap ((y1.2.length:Int)-(1:Int))=(y1.2.length:Int)-1:=w64 (by omega) (by omega)
 refine Ok.ite (fun _=> ?_) fun _=>Ok.ite (fun _=> ?_) fun _=>Ok.ite (fun _=> ?_) fun _=>Ok.ite (fun _=> ?_) fun _=> ?_
 ·rw[e]
  exact Ok.chk (by decide) (Ok.chk (decide_eq_true (by omega)) (Ok.chk (decide_eq_true (by omega)) (Ok.ret ⟨hc.re h2.1,fun s hs=>hl s (List.mem_of_mem_take hs),by show(y1.2.take _).length≤6;rw[List.length_take];omega⟩)))
 ·exact(Z5G (hc.re h2.1)).bind fun y3 h3=>Ok.chk (Q9 (by omega)) (Ok.ret ⟨hc.re h3.1,Z1V hl h3.2,by show(y1.2++[y3.2]).length≤6;rw[US];omega⟩)
 ·have hp:decide ((0:Int)<(y1.2.length:Int))=true:=decide_eq_true (by omega)
  exact Ok.chk (by decide) (Ok.chk hp (Ok.chk (by decide) (Ok.chk hp (Ok.ret ⟨hc.re h2.1,by refine Z5X hl _ ?_ _;intro s hs;exact hs,by show(V.upd y1.2 _ _).length≤6;rw[Z3U];omega⟩))))
 ·exact Ok.chk (by decide) (Ok.chk (decide_eq_true (by omega)) (Ok.chk (decide_eq_true (by omega)) (Ok.ret ⟨hc.re h2.1,fun s hs=>hl s (List.mem_of_mem_drop hs),by show(y1.2.drop _).length≤6;rw[List.length_drop];omega⟩)))
 ·exact Ok.ret ⟨hc.re h2.1,hl,by show y1.2.length≤6;omega⟩
theorem Z1S {code:List Int}{c:Z3}(hc:Cu code c):Ok (Wk c) (fun r=>Cu code r.1∧r.2.size≤9):=by
 unfold Wk
 refine(Qs hc 4).bind fun y1 h1=>Ok.ite (fun _=> ?_) fun _=> ?_
 ·exact(Z3N (n:=9) (hc.re h1) (by decide) (by decide)).bind fun y2 h2=>Ok.ret ⟨hc.re h2.1,h2.2⟩
 ·exact(Z1T (hc.re h1)).bind fun y2 h2=>Ok.ret ⟨hc.re h2.1,h2.2⟩
theorem Z7a {α:Type}(f:α→Nat)(xs:List α)(x y:α):YO f (xs++[x,y])=YO f xs+2+f x+f y:=by
 unfold YO
 simp only[List.length_append,List.map_append,List.sum_append,List.map_cons,List.map_nil,List.sum_cons,List.sum_nil,List.length_cons,List.length_nil]
 omega
theorem Z5M {code:List Int}{c:Z3}(hc:Cu code c):Ok (Ul c) (fun r=>Cu code r.1∧Xj r.2≤50):=by
 unfold Ul
 refine(Z3c hc).bind fun y1 h1=>(YL (hc.re h1.1) 8).bind fun y2 h2=>Ok.ite (fun _=> ?_) fun _=>Ok.ite (fun _=> ?_) fun _=> ?_
 ·refine(Z1S (hc.re h2.1)).bind fun y3 h3=>(Z1S (hc.re h3.1)).bind fun y4 h4=> ?_
  have hl:y1.2.length≤Xj y1.2:=Z0k XL y1.2
  have h1:=h1.2
  refine Ok.chk (decide_eq_true (by show y1.2.length+2<_;omega)) (Ok.ret ⟨hc.re h4.1,?_⟩)
  have e:Xj (y1.2++[y3.2,y4.2])=Xj y1.2+2+XL y3.2+XL y4.2:=Z7a _ _ _ _
  have e3:XL y3.2≤9:=h3.2
  have e4:XL y4.2≤9:=h4.2
  show Xj (y1.2++[y3.2,y4.2])≤50
  omega
 ·exact Ok.ret ⟨hc.re h2.1,by show Xj []≤50;decide⟩
 ·exact Ok.ret ⟨hc.re h2.1,Nat.le_trans h1.2 (by decide)⟩
theorem Z5U {code:List Int}{c:Z3}(hc:Cu code c):Ok (Um c) (fun r=>Cu code r.1∧Yp r.2≤89):=by
 unfold Um
 refine(Z3e hc).bind fun y1 h1=>(YL (hc.re h1.1) 10).bind fun y2 h2=> ?_
 have hz:XL y1.2.1+Xj y1.2.2.2.2≤39:=h1.2
 refine Ok.ite (fun _=> ?_) fun _=>Ok.ite (fun _=> ?_) fun _=>Ok.ite (fun _=> ?_) fun _=>Ok.ite (fun _=> ?_) fun _=> ?_
 ·exact(UJ (hc.re h2.1) (by decide)).bind fun y h=>Ok.ret ⟨hc.re h.1,Nat.le_trans hz (by decide)⟩
 ·exact(UJ (hc.re h2.1) (by decide)).bind fun y h=>Ok.ret ⟨hc.re h.1,Nat.le_trans hz (by decide)⟩
 ·refine(Z1S (hc.re h2.1)).bind fun y h=>Ok.ret ⟨hc.re h.1,?_⟩
  have h3:XL y.2≤9:=h.2
  show XL y.2+Xj y1.2.2.2.2≤89
  omega
 ·refine(Z5M (hc.re h2.1)).bind fun y h=>Ok.ret ⟨hc.re h.1,?_⟩
  have h3:=h.2
  show XL y1.2.1+Xj y.2≤89
  omega
 ·exact Ok.ret ⟨hc.re h2.1,Nat.le_trans hz (by decide)⟩
theorem Z5V {code:List Int}{x0:Z3}{y2:Z3×Int}(hc:Cu code (x0.1,y2.1.2.1,y2.1.2.2))(ss:List ByteArray)(hs:∀s∈ss,s.size≤1)(hl:ss.length≤12):∀(n i:Nat) (acc:List Z4),ss.length-i<n→i≤ss.length→Zx acc≤240+2*i→
 Ok (ZV.l14 x0 y2 n (ss.length:Int) (i:Int) acc ss) (fun r=>Cu code r.1∧Zx r.2≤330):=by
 intro n
 induction n with
 |zero=>intro i acc h0;omega
 |succ n ih=>
  intro i acc h0 h1 h2
  rw[ZV.u14]
  refine Ok.ite (fun h=> ?_) fun _=>Ok.ret ⟨hc,by show Zx acc≤330;omega⟩
  have hi:i<ss.length:=by have:=of_decide_eq_true h;omega
  refine Ok.chk (decide_eq_true (by omega)) (Ok.chk h ?_)
  rw[Int.toNat_natCast,at_n hi,w64_succ (by omega)]
  have hq:XL ss[i]≤1:=hs _ (List.getElem_mem hi)
  refine Ok.bind (P:=fun e=>Yp e≤1) (Ok.ret hq) fun e he=>(Z3t acc e (by omega)).bind fun z hz=> ?_
  exact ih (i+1) _ (by omega) (by omega) (by omega)
theorem Z1e {code:List Int}{c:Z3}(hc:Cu code c):Ok (ZV c) (fun r=>Cu code r.1∧Zx r.2≤330):=by
 unfold ZV
 refine(QW hc).bind fun y1 h1=>(YL (hc.re h1.1) 10).bind fun y2 h2=>Ok.ite (fun _=> ?_) fun _=>Ok.ite (fun _=> ?_) fun _=> ?_
 ·refine(Z5U (hc.re h2.1)).bind fun y3 h3=> ?_
  have hl:y1.2.length≤Zx y1.2:=Z0k Yp y1.2
  have h1:=h1.2
  refine Ok.chk (Q9 (by omega)) (Ok.ret ⟨hc.re h3.1,?_⟩)
  have e:Zx (y1.2++[y3.2])=Zx y1.2+1+Yp y3.2:=Z0Q _ _ _
  have h3:=h3.2
  show Zx (y1.2++[y3.2])≤330
  omega
 ·have hk:=KK_gt (n:=100) (by omega)
  refine Z5V (hc.re h2.1) _ ?_ (by decide) KK 0 y1.2 (Nat.lt_of_le_of_lt (by decide) hk) (Nat.zero_le _) h1.2
  intro s hs
  exact of_decide_eq_true (List.all_eq_true.1 (by decide:([(⟨#[99]⟩:ByteArray),(⟨#[100]⟩:ByteArray),(⟨#[101]⟩:ByteArray),(⟨#[102]⟩:ByteArray),(⟨#[103]⟩:ByteArray),(⟨#[104]⟩:ByteArray),(⟨#[105]⟩:ByteArray),(⟨#[106]⟩:ByteArray),(⟨#[107]⟩:ByteArray),(⟨#[108]⟩:ByteArray),(⟨#[109]⟩:ByteArray),(⟨#[110]⟩:ByteArray)].all fun s=>decide (s.size≤1))=true) s hs)
 ·exact Ok.ret ⟨hc.re h2.1,Nat.le_trans h1.2 (by decide)⟩
theorem Z3I (sk m:List Int):∀(ks:List Int) (acc:List Zb),(∀k∈ks,Uz sk k=true)→Uw sk m ks acc=acc++ks.map (fun k=>(k,Q5 k m))
 |[],acc,_=>by rw[List.map_nil,List.append_nil];rfl
 |k::ks,acc,h=>by
  show Uw sk m ks (bif Uz sk k then acc++[(k,Q5 k m)]else acc)=_
  rw[h k (List.mem_cons_self ..),cond_t,Z3I sk m ks _ (fun j hj=>h j (List.mem_cons_of_mem _ hj)),List.map_cons,List.append_assoc]
  rfl
theorem Z2v (p:Int→Bool):∀(ks:List Int) (c:Int),(∀k∈ks,p k=true)→UW p ks c=c+(ks.length:Int)
 |[],c,_=>(Int.add_zero c).symm
 |k::ks,c,h=>by
  show UW p ks (bif p k then c+1 else c)=_
  rw[h k (List.mem_cons_self ..),cond_t,Z2v p ks _ (fun j hj=>h j (List.mem_cons_of_mem _ hj)),List.length_cons]
  omega
theorem Z5B (k:Zc)(hx:k.1.length≤1050000)(h:XR k=true):(∀j∈k.1,1≤j∧j≤99)∧1≤k.2∧k.2≤(k.1.length:Int):=by
 obtain⟨s,hs,hS⟩:=Z1m k hx 0 KK (Nat.zero_le _) (KK_gt (by omega))
 have e:ZT k=some s:=hs
 rw[Z04 k hx,h]at e
 injection e with e
 obtain⟨h1,h2⟩:=hS.mp e.symm
 refine⟨fun j hj=> ?_,h2.2⟩
 obtain⟨i,hi,rfl⟩:=List.getElem_of_mem hj
 have:=(h1 i hi (Nat.zero_le _)).1
 unfold gk at this
 rw[at_n hi]at this
 exact this
theorem Z4M {ks:List Int}(k:Zc)(h:Z6)(hx:k.1.length≤1050000)(hk:(∀j∈k.1,1≤j∧j≤99)→∀j∈k.1,Uz ks j=true):UC (WJ ks k h) k=XR k:=by
 unfold UC Z0c
 cases hb:XR k with
 |false=>rfl
 |true=>
  obtain⟨h1,h2,h3⟩:=Z5B k hx hb
  rw[Bool.true_and]
  apply decide_eq_true
  show UW (Q4 (Uw ks (XN h) k.1 []) (XN h)) k.1 0≥k.2
  rw[Z3I _ _ _ _ (hk h1),Z2v _ _ _ ?_]
  ·omega
  ·intro j hj
   unfold Q4
   rw[List.nil_append,List.any_eq_true]
   refine⟨(j,Q5 j (XN h)),List.mem_map.2 ⟨j,hj,rfl⟩,?_⟩
   unfold Qi Qq
   simp only[beq_self_eq_true,Bool.and_true,Bool.true_and,decide_eq_true (h1 j hj).1,decide_eq_true (h1 j hj).2]
theorem Z5u {x:Z6}(h:ZZ x=true):XR (Z8 x)=true∧(XH (Z7 x)=false→XR (Z7 x)=true)∧(XH (Z9 x)=false→XR (Z9 x)=true):=by
 unfold ZZ QV at h
 simp only[Bool.and_eq_true]at h
 obtain⟨_,_,_,h1,h2,h3⟩:=h
 refine⟨h1,fun hn=> ?_,fun hn=> ?_⟩
 ·rw[hn,cond_f,Bool.and_eq_true]at h2
  exact h2.1
 ·rw[hn,Bool.false_and,Bool.or_false]at h3
  exact h3
theorem Z3g {xs:List Z5}(h:1≤xs.length∧xs.length≤13):Wh xs=xs.getD (xs.length-1) X3:=by
 unfold Wh
 rw[show IntKind.i64.wrap ((xs.length:Int)-(1:Int))=(xs.length:Int)-1 from w64 (by omega) (by omega)]
 congr 1
 omega
theorem Z4A (xs:List Z5)(s:Z5):((ext xs s).1=xs∧((ext xs s).2 !=(1:Int))=true)∨(ext xs s=(xs++[s],1)∧XA xs=true∧xs.length<12∧U2 (Ze (Wh xs)) s=1):=by
 unfold ext
 cases hg:(!XA xs||decide ((xs.length:Int)≥(12:Int)))with
 |true=>exact .inl ⟨rfl,rfl⟩
 |false=>
  simp only[Bool.or_eq_false_iff,Bool.not_eq_false',decide_eq_false_iff_not]at hg
  unfold QD
  rw[cond_f]
  cases hn:U2 (Ze (Wh xs)) s !=(1:Int)with
  |true=>rw[cond_t];exact .inl ⟨rfl,hn⟩
  |false=>
   rw[cond_f]
   refine .inr ⟨rfl,hg.1,by omega,?_⟩
   simpa using hn
theorem Z4N (s:Z5):hq s s=true:=decide_eq_true rfl
theorem Z2i :∀(xs ys:List Z5),all2 hq xs (xs++ys)=true
 |[],ys=>by cases ys<;>rfl
 |x::xs,ys=>by show(hq x x&&all2 hq xs (xs++ys))=true;rw[Z4N,Z2i xs ys];rfl
theorem Z6g (xs ys:List Z5):Z1j xs (xs++ys)=true:=by
 unfold Z1j
 rw[Z2i,decide_eq_true (by rw[List.length_append];omega)]
 rfl
theorem Z4y (h:Z6):Z0b h h=true:=decide_eq_true rfl
theorem Z60 (xs:List Z5)(s:Z5)(h:xs.length<12):Wh (xs++[s])=s:=by
 rw[Z3g (by rw[US];omega),US,Nat.add_sub_cancel,at_n (by rw[US];omega)]
 simp
def zB (n m:Nat)(z:Zt):Prop:=lB z.1∧z.1.length≤n∧Zx z.2≤m
theorem Z0l {n m:Nat}{z:Zt}(h:zB n m z):Xh z≤21*n+m:=by
 have h1:=Z1g h.1
 have h2:=h.2.1
 have h3:=h.2.2
 unfold Xh
 omega
theorem Z1s {n m:Nat}{z:Zt}(h:zB n m z):YQ z.1≤21*n:=by
 have h1:=Z1g h.1
 have h2:=h.2.1
 omega
theorem Z1X {xs:List Z5}(h:lB xs):kB (Z0 (Uu xs)):=by
 unfold Uu
 cases XA xs with
 |true=>rw[cond_t,(Z0o _ _).1];exact(Z1W h _).1
 |false=>exact⟨Nat.zero_le _,Nat.zero_le _,Nat.zero_le _⟩
theorem Z5A {h p:Z6}(hp:kB p)(e1:Z8 h=Z8 p)(e2:Z7 h=Z7 p)(e3:Z9 h=Z9 p):kB h:=by
 unfold kB
 rw[e1,e2,e3]
 exact hp
theorem Z67 (p:Z6)(k a b:Int):Z8 (Xz p k a b)=Z8 p∧Z7 (Xz p k a b)=Z7 p∧Z9 (Xz p k a b)=Z9 p:=by
 unfold Xz nhD
 generalize Qd p=d
 generalize IntKind.i64.wrap (Zm p+1)=e
 generalize IntKind.i64.wrap (a+b)=u
 exact⟨rfl,rfl,rfl⟩
theorem Z6Z (h:Z6)(n r:Int):Z8 (setC h n r)=Z8 h∧Z7 (setC h n r)=Z7 h∧Z9 (setC h n r)=Z9 h:=⟨rfl,rfl,rfl⟩
theorem Z2t {p:Z6}{xs:List Z4}{a b:Int}(h:kB p):kB (Z0 (UV p xs a b)):=by
 unfold UV
 cases(W4 xs&&(UB p a b&&(ZZ (Xz p 1 a b)&&ZZ (UL xs (Xz p 1 a b)))))with
 |false=>exact⟨Nat.zero_le _,Nat.zero_le _,Nat.zero_le _⟩
 |true=>
  obtain⟨e1,e2,e3⟩:=Z67 p 1 a b
  rw[cond_t,(Z0o _ _).1]
  unfold UL
  obtain⟨f1,f2,f3⟩:=Z6Z (Xz p 1 a b) (xs.length:Int) (Qt xs)
  exact Z5A h (f1.trans e1) (f2.trans e2) (f3.trans e3)
theorem Z72 {p h:Z6}{held:List Int}(hp:kB p)(hh:kB h):sB (Uv p h held):=by
 refine Z28 hh ?_
 unfold Z05
 cases(Zk h==(2:Int))with
 |true=>exact hp.2.1
 |false=>
  cases(Zk h==(3:Int))with
  |true=>exact hp.2.2
  |false=>exact hp.1
theorem Z21 {z:Zt}{held:List Int}{h:Z6}{xs:List Z4}{n m:Nat}(hz:zB n m z)(hh:kB h)(hx:Zx xs≤m):zB (n+1) m (Wd (U3 z held h xs)):=by
 have keep:zB (n+1) m z:=⟨hz.1,Nat.le_succ_of_le hz.2.1,hz.2.2⟩
 unfold U3
 cases X6 z with
 |false=>exact keep
 |true=>
  cases(XJ z held h).2 !=(1:Int)with
  |true=>exact keep
  |false=>
   cases X6 ((XJ z held h).1,xs)with
   |false=>exact keep
   |true=>
    show zB (n+1) m ((XJ z held h).1,xs)
    refine⟨?_,?_,hx⟩
    ·show lB (XJ z held h).1
     unfold XJ
     rcases Z1A z.1 (Uv (Xl z) h held)with e|e<;>rw[e]
     ·exact hz.1
     ·exact Z1V hz.1 (Z72 (Z1W hz.1 _).1 hh)
    ·show(XJ z held h).1.length≤_
     have:=hz.2.1
     unfold XJ
     rcases Z1A z.1 (Uv (Xl z) h held)with e|e<;>rw[e]
     ·omega
     ·rw[US];omega
theorem Z2N {code:List Int}{x0:Z3}{z:Zt}{y1:ZA}{xs:List Z4}{a b v22 v23 v24 v25 v26 v27 v28 v29 v31 v33 v34 v36:Int}{l1 l2 l3:List Int}{f:Bool}{n:Nat}(hc:Cu code (x0.1,a,b))(hz:zB n 240 z)(hn:n≤20)(hx:Zx xs≤240)(hy:kB (Z0 y1))(h1:l1.length≤4)(h2:l2.length≤4)(h3:l3.length≤4):
 Ok (ZC.l25 x0 z y1 xs a b v22 v23 v24 v25 v26 v27 v28 v29 l1 v31 l2 v33 v34 l3 v36 f) (fun r=>Cu code r.1∧zB (n+1) 240 r.2):=by
 obtain⟨k1,k2,k3⟩:=hy
 unfold ZC.l25 ZC.g25
 simp only[both_eq]
 refine Ok.chk (decide_eq_true ?_) (Ok.chk (decide_eq_true ?_) (Ok.chk (decide_eq_true ?_) ?_))
 ·rw[List.length_nil];omega
 ·rw[List.nil_append];omega
 ·rw[List.nil_append,List.length_append];omega
 ·have hs:=Z0l hz
  have hh:kB (Xm v22 v23 v24 v25 v26 v27 v28 v29 (l1,v31) (l2,v33) v34 (l3,v36) f):=⟨h1,h2,h3⟩
  have hh2:=QJ hh
  have hl:((([]++(Z8 (Z0 y1)).1)++(Z7 (Z0 y1)).1)++(Z9 (Z0 y1)).1).length≤1050000:=by
   rw[List.nil_append,List.length_append,List.length_append];omega
  refine Ok.bind (Ok.of (Z27 z _ _ xs (by omega) hl) (Z21 hz hh hx)) fun y hy=>Ok.ret ⟨hc,hy⟩
theorem Z4I {code:List Int}{x0:Z3}{z:Zt}{y1:ZA}{y2:Z3×Z5}{y4:Z3×List Z4}{n:Nat}(hc:Cu code (x0.1,y4.1.2.1,y4.1.2.2))(hz:zB n 240 z)(hn:n≤20)(hx:Zx y4.2≤240)(hy:kB (Z0 y1)):
 Ok (ZC.l19 x0 z y1 y2 y4) (fun r=>Cu code r.1∧zB (n+1) 240 r.2):=by
 unfold ZC.l19 ZC.g19
 simp only[both_eq]
 have hs:=QJ hy
 refine(YL hc 30).bind fun y5 h5=>(YL (hc.re h5.1) 100).bind fun y6 h6=>Ok.bind (P:=fun y=>kB (Z0 y)) (Ok.of (Z23 _ _ _ _ (by omega) (by omega)) (Z2t hy)) fun y7 h7=> ?_
 exact Z2N (hc.re h6.1) hz hn hx hy h7.1 h7.2.1 h7.2.2
theorem Z4J {code:List Int}{c:Z3}{z:Zt}{n:Nat}(hc:Cu code c)(hz:zB n 240 z)(hn:n≤20):Ok (ZC c z) (fun r=>Cu code r.1∧zB (n+1) 240 r.2):=by
 have hs:=Z1s hz
 have hk:=Z1X hz.1
 unfold ZC
 refine Ok.bind (P:=fun y=>y=Uu z.1) (Ok.of (QL z.1 (by omega)) rfl) fun y1 h1=> ?_
 subst h1
 refine Ok.ite (fun _=>Ok.ret ⟨hc,hz.1,Nat.le_succ_of_le hz.2.1,hz.2.2⟩) fun _=> ?_
 refine(Z3l hc hk).bind fun y2 h2=>(Qs (hc.re h2.1) 2).bind fun y3 h3=>Ok.ite (fun _=> ?_) fun _=> ?_
 ·exact(QW (hc.re h3)).bind fun y4 h4=>Z4I (hc.re h4.1) hz hn h4.2 hk
 ·exact Z2N (hc.re h3) hz hn hz.2.2 hk h2.2.1.1 h2.2.1.2.1 h2.2.1.2.2
theorem Z7d {code:List Int}{x0:Z3}:∀(n:Nat) (v a b:Int) (c:List Z5) (e:List Z4) (k:Nat),v<(n:Int)→0≤v→v≤1000→k+v.toNat≤20→zB k 240 (c,e)→Cu code (x0.1,a,b)→Ok (ZL.l8 x0 n v a b c e) (fun r=>Cu code r.1∧zB (k+v.toNat) 240 r.2):=by
 intro n
 induction n with
 |zero=>intro v a b c e k h0 h1;omega
 |succ n ih=>
  intro v a b c e k h0 h1 h2 h3 hz hc
  rw[ZL.u8]
  refine Ok.ite (fun h=> ?_) (fun h=>Ok.ret ⟨hc,hz.1,Nat.le_trans hz.2.1 (Nat.le_add_right ..),hz.2.2⟩)
  have h:=ge0 h
  refine(Z4J hc hz (by omega)).bind fun y hy=> ?_
  rw[Z0M h h2]
  refine(ih (v-1) _ _ _ _ (k+1) (by omega) (by omega) (by omega) (by omega) hy.2 (hc.re hy.1)).mono fun r hr=>⟨hr.1,?_⟩
  rw[show k+v.toNat=k+1+(v-1).toNat by omega]
  exact hr.2
theorem Z63 {k:Zc}{s:Int}{xs:List Z4}{now term:Int}(hk:k.1.length≤4)(hx:Zx xs≤240):zB 1 240 (Zz (QZ k s xs now term)):=by
 unfold QZ
 cases UR k s xs now term with
 |false=>
  refine⟨?_,Nat.zero_le _,Nat.zero_le _⟩
  intro t ht
  exact absurd ht (List.not_mem_nil)
 |true=>
  rw[cond_t,(Z1t _ _).1]
  refine⟨?_,Nat.le_refl 1,hx⟩
  intro t ht
  rw[List.mem_singleton.1 ht]
  exact Z28 ⟨hk,Nat.zero_le _,Nat.zero_le _⟩ hk
theorem Z7c {code:List Int}{x0:Z3}{a b:Int}{c:List Z5}{e:List Z4}(hc:Cu code (x0.1,a,b))(hz:zB 1 240 (c,e)):Ok (ZL.l7 x0 a b c e) (fun r=>Cu code r.1∧zB 4 240 r.2):=by
 refine(YL hc 4).bind fun y hy=> ?_
 obtain⟨h1,h2,h3,_⟩:=hy
 have h3:=h3 (by omega)
 have hk:=KK_gt (n:=1000) (by omega)
 refine(Z7d KK y.2 _ _ c e 1 (by omega) (by omega) (by omega) (by omega) hz (hc.re h1)).mono fun r hr=>⟨hr.1,hr.2.1,?_,hr.2.2.2⟩
 have:=hr.2.2.1
 omega
theorem Z5L {code:List Int}{c:Z3}(hc:Cu code c):Ok (ZL c) (fun r=>Cu code r.1∧zB 4 240 r.2):=by
 unfold ZL ZL.b
 simp only[both_eq]
 refine(UZ hc).bind fun y1 h1=>(YL (hc.re h1.1) 9).bind fun y2 h2=>(QW (hc.re h2.1)).bind fun y3 h3=>(YL (hc.re h3.1) 30).bind fun y4 h4=>(YL (hc.re h4.1) 100).bind fun y5 h5=> ?_
 have hk:=h1.2
 have hx:=h3.2
 refine Ok.bind (P:=fun y=>zB 1 240 (Zz y)) (Ok.of (Z6N y1.2 y2.2 y3.2 y4.2 _ (Nat.le_trans hk (by decide)) (by omega)) (Z63 (Nat.le_succ_of_le hk) hx)) fun y6 h6=>Z7c (hc.re h5.1) h6
theorem Z39 {code:List Int}{c:Z3}(hc:Cu code c):Ok (Wv c) (fun r=>Cu code r.1∧zB 6 330 r.2):=by
 unfold Wv
 refine(Z5L hc).bind fun y1 h1=>(YL (hc.re h1.1) 8).bind fun y2 h2=> ?_
 obtain⟨_,hl,hn,he⟩:=h1
 refine Ok.ite (fun _=> ?_) fun _=>Ok.ite (fun _=> ?_) fun _=> ?_
 ·exact(Z1e (hc.re h2.1)).bind fun y3 h3=>Ok.ret ⟨hc.re h3.1,hl,Nat.le_trans hn (by decide),h3.2⟩
 ·exact(Z5H (hc.re h2.1)).bind fun y3 h3=>Ok.ret ⟨hc.re h3.1,h3.2.1,h3.2.2,Nat.le_trans he (by decide)⟩
 ·exact Ok.ret ⟨hc.re h2.1,hl,Nat.le_trans hn (by decide),Nat.le_trans he (by decide)⟩
theorem Z2O {code:List Int}{x0:Z3}{y1:Z3×List Int}{y2:ZA}{v:Bool}{a b:Int}(hc:Cu code (x0.1,a,b))(h1:y1.2.length≤6)(h2:kB (Z0 y2)):Ok (YP.l9 x0 y1 y2 v a b) (fun r=>Cu code r.1∧r.2.length≤10):=by
 have hk:=h2.1
 refine Ok.ite (fun _=>Ok.chk (decide_eq_true (by omega)) (Ok.ret ⟨hc,?_⟩)) fun _=>Ok.ret ⟨hc,Nat.le_trans h1 (by decide)⟩
 show(y1.2++(Z8 (Z0 y2)).1).length≤10
 rw[List.length_append]
 omega
theorem Z3a {code:List Int}{c:Z3}{z:Zt}{n m:Nat}(hc:Cu code c)(hz:zB n m z)(hn:n≤20):Ok (YP c z) (fun r=>Cu code r.1∧r.2.length≤10):=by
 have hs:=Z1s hz
 have hk:=Z1X hz.1
 unfold YP
 refine(Z3d hc).bind fun y1 h1=>Ok.bind (P:=fun y=>y=Uu z.1) (Ok.of (QL z.1 (by omega)) rfl) fun y2 h2=> ?_
 subst h2
 refine Ok.ite (fun _=>(Qs (hc.re h1.1) 4).bind fun y3 h3=>Z2O (hc.re h3) h1.2 hk) fun _=>Z2O (hc.re h1.1) h1.2 hk
theorem Z4v {code:List Int}(hl:code.length≤1050000):Ok (Ub code) (fun r=>zB 6 330 (WO r)∧(UU r).length≤10∧Zx (Qx r)≤330):=by
 unfold Ub
 simp only[both_eq]
 exact(Z1R hl).bind fun c hc=>(Z39 hc).bind fun y2 h2=>(Z3a (hc.re h2.1) h2.2 (by decide)).bind fun y3 h3=>(Z1e (hc.re h3.1)).bind fun y4 h4=>(UJ (hc.re h4.1) (by decide)).bind fun y5 h5=>(UJ (hc.re h5.1) (by decide)).bind fun y6 h6=>Ok.ret ⟨h2.2,h3.2,h4.2⟩
theorem Z4w {code:List Int}(hl:code.length≤1050000):Ok (Uc code) (fun r=>(WN r).1.length≤4∧Zx (UN r)≤330):=by
 unfold Uc Ux
 simp only[both_eq]
 refine Ok.bind ?_ fun y h=>Ok.ret h
 exact(Z1R hl).bind fun c hc=>(Z1U hc).bind fun y2 h2=>(UJ (hc.re h2.1) (by decide)).bind fun y3 h3=>(Z1e (hc.re h3.1)).bind fun y4 h4=>(UJ (hc.re h4.1) (by decide)).bind fun y5 h5=>(UJ (hc.re h5.1) (by decide)).bind fun y6 h6=>Ok.ret ⟨h2.2,h4.2⟩
def Z1k (r:ZF):Prop:=zB 6 330 (XD r)∧(UT r).length≤10∧kB (Q7 r)∧Zx (UO r)≤330
theorem Z6j {code:List Int}{y1:Z3}{y2:Z3×List Z5×List Z4}{y3:Z3×List Int}{y10:Z3×List Z4}{a b v20 v21 v22 v23 v24 v25 v26 v27 v29 v31 v32 v34:Int}{l1 l2 l3:List Int}{f:Bool}(hc:Cu code (y1.1,a,b))(h2:zB 6 330 y2.2)(h3:y3.2.length≤10)(h10:Zx y10.2≤330)(k1:l1.length≤4)(k2:l2.length≤4)(k3:l3.length≤4):
 Ok (Zv.l19 y1 y2 y3 y10 a b v20 v21 v22 v23 v24 v25 v26 v27 l1 v29 l2 v31 v32 l3 v34 f) Z1k:=by
 unfold Zv.l19 Zv.g19 Zv.l23 Zv.g23
 simp only[both_eq]
 have hh:kB (Xm v20 v21 v22 v23 v24 v25 v26 v27 (l1,v29) (l2,v31) v32 (l3,v34) f):=⟨k1,k2,k3⟩
 refine(Qs hc 4).bind fun y13 h13=>Ok.ite (fun _=> ?_) fun _=>Ok.ret ⟨h2,h3,hh,h10⟩
 exact(QW (hc.re h13)).bind fun y14 h14=>Ok.ret ⟨h2,h3,hh,Nat.le_trans h14.2 (by decide)⟩
theorem Z3n {code:List Int}{y1:Z3}{y2:Z3×List Z5×List Z4}{y3:Z3×List Int}{y4:ZA}{v:Bool}{a b:Int}(hc:Cu code (y1.1,a,b))(h2:zB 6 330 y2.2)(h3:y3.2.length≤10)(h4:kB (Z0 y4)):Ok (Zv.l13 y1 y2 y3 y4 v a b) Z1k:=by
 unfold Zv.l13 Zv.g13 Zv.l17 Zv.g17
 simp only[both_eq]
 refine Ok.ite (fun _=> ?_) fun _=> ?_
 ·exact(Z34 hc).bind fun y5 h5=>(Z1e (hc.re h5.1)).bind fun y6 h6=>Ok.ret ⟨h2,h3,h5.2,h6.2⟩
 ·have hs:=QJ h4
  refine(QW hc).bind fun y10 h10=>(YL (hc.re h10.1) 9).bind fun y11 h11=> ?_
  have hx:=h10.2
  refine Ok.bind (P:=fun y=>kB (Z0 y)) (Ok.of (Z23 _ _ _ _ (by omega) (by omega)) (Z2t h4)) fun y12 h12=> ?_
  exact Z6j (hc.re h11.1) h2 h3 (Nat.le_trans hx (by decide)) h12.1 h12.2.1 h12.2.2
theorem Z4x {code:List Int}(hl:code.length≤1050000):Ok (Zv code) Z1k:=by
 unfold Zv
 refine(Z1R hl).bind fun c hc=>(Z39 hc).bind fun y2 h2=>(Z3a (hc.re h2.1) h2.2 (by decide)).bind fun y3 h3=> ?_
 have hs:=Z1s h2.2
 have hk:=Z1X h2.2.1
 refine Ok.bind (P:=fun y=>y=Uu y2.2.1) (Ok.of (QL y2.2.1 (by omega)) rfl) fun y4 h4=> ?_
 subst h4
 exact Ok.ite (fun _=>Z3n (hc.re h3.1) h2.2 h3.2 hk) fun _=>(Qs (hc.re h3.1) 6).bind fun y5 h5=>Z3n (hc.re h5) h2.2 h3.2 hk
theorem Z2j {α:Type}(g:α→α→Bool)(hg:∀x,g x x=true):∀xs:List α,all2 g xs xs=true
 |[]=>rfl
 |x::xs=>by show(g x x&&all2 g xs xs)=true;rw[hg,Z2j g hg xs];rfl
theorem Z0Z {α:Type}(g:α→α→Bool)(hg:∀x,g x x=true)(xs:List α):UQ g xs xs=true:=by
 unfold UQ
 rw[Z2j g hg,decide_eq_true rfl];rfl
theorem Z2G (a:ByteArray):Qc a a=true:=by unfold Qc;exact beq_self_eq_true _
theorem Z2F (a:Z4):QC a a=true:=by
 unfold QC
 rw[Z2G,Z0Z Qc Z2G,beq_self_eq_true,beq_self_eq_true];rfl
theorem Z4z (a:Z5):Qo a a=true:=by
 unfold Qo
 rw[Z4y,decide_eq_true rfl];rfl
theorem Z2H (z:Zt):Z10 z z=true:=by
 unfold Z10
 rw[Z0Z _ Z4z,Z0Z _ Z2F];rfl
theorem Z1q {x:List Z4}(hx:Zx x≤1050000):XO x x=some true:=(Z2Y x x hx).trans (by rw[Z0Z _ Z2F])
theorem Z3r {z:Zt}{held:List Int}{h:Z6}{xs:List Z4}(h1:We (U3 z held h xs)=1):∃s,Wd (U3 z held h xs)=(z.1++[s],xs)∧X6 z=true∧X6 (z.1++[s],xs)=true∧U2 (Xl z) s=1∧z.1.length<12:=by
 have two:∀w:Zt,We (Wc w 2)=1→False:=fun w h=>by rw[(Qw _ _).2]at h;cases h
 unfold U3 at h1⊢
 cases hz:X6 z with
 |false=>rw[hz,cond_f]at h1;exact(two _ h1).elim
 |true=>
  rw[hz,cond_t]at h1
  rw[cond_t]
  cases hc:(XJ z held h).2 !=(1:Int)with
  |true=>
   rw[hc,cond_t,(Qw _ _).2]at h1
   rw[h1]at hc;cases hc
  |false=>
   rw[hc,cond_f]at h1
   rw[cond_f]
   cases hq:X6 ((XJ z held h).1,xs)with
   |false=>rw[hq,cond_f]at h1;exact(two _ h1).elim
   |true=>
    rw[cond_t,(Qw _ _).1]
    unfold XJ at hc hq⊢
    rcases Z4A z.1 (Uv (Xl z) h held)with⟨e1,e2⟩|⟨e,k1,k2,k3⟩
    ·rw[e2]at hc;cases hc
    ·rw[e]at hq⊢
     exact⟨_,rfl,rfl,hq,k3,k2⟩
theorem Z6l {z:Zt}{held:List Int}{h:Z6}{xs:List Z4}(h1:We (U3 z held h xs)≠1):Wd (U3 z held h xs)=z:=by
 unfold U3 at h1⊢
 cases hz:X6 z with
 |false=>rw[cond_f,(Qw _ _).1]
 |true=>
  rw[hz,cond_t]at h1
  rw[cond_t]
  cases hc:(XJ z held h).2 !=(1:Int)with
  |true=>rw[cond_t,(Qw _ _).1]
  |false=>
   rw[hc,cond_f]at h1
   rw[cond_f]
   cases hq:X6 ((XJ z held h).1,xs)with
   |false=>rw[cond_f,(Qw _ _).1]
   |true=>rw[hq,cond_t,(Qw _ _).2]at h1;exact absurd rfl h1
theorem Z2A {z:Zt}{held:List Int}{xs:List Z4}{a b:Int}(h1:We (Qn z held xs a b)=1):(Wd (Qn z held xs a b)).2=xs:=by
 unfold Qn at h1⊢
 cases hc:(X6 z&&XU (Qa z xs a b))with
 |false=>rw[hc,cond_f,(Qw _ _).2]at h1;cases h1
 |true=>
  rw[hc,cond_t]at h1
  rw[cond_t]
  obtain⟨s,e,_⟩:=Z3r h1
  rw[e]
theorem Z2c {z:Zt}(h:X6 z=true):Qu z=Zn (Xl z):=by
 unfold Qu
 rw[h,cond_t]
theorem Z4C (k:Zc)(s:Int)(xs:List Z4)(now u:Int):Zn (X8 k s xs now u)=Qj k s∧Zm (X8 k s xs now u)=0∧Zk (X8 k s xs now u)=1∧Zr (X8 k s xs now u)=s∧Z8 (X8 k s xs now u)=k∧Zg (X8 k s xs now u)=false∧Zo (X8 k s xs now u)=(xs.length:Int)∧Zp (X8 k s xs now u)=Qt xs:=by
 have h:=Z45 (Qj k s) 0 1 now u (xs.length:Int) (Qt xs) s k Un 0 Un false
 exact⟨h.1,h.2.1,h.2.2.1,h.2.2.2.2.2.2.2.1,h.2.2.2.2.2.2.2.2.1,h.2.2.2.2.2.2.2.2.2.2.2.2,h.2.2.2.2.2.1,h.2.2.2.2.2.2.1⟩
theorem Z4K {xs:List Int}:∀j∈xs,Uz xs j=true:=by
 intro j hj
 unfold Uz
 rw[List.any_eq_true]
 exact⟨j,hj,beq_self_eq_true _⟩
theorem Z4G {k:Zc}{s:Int}{xs:List Z4}{a b:Int}(hk:k.1.length≤1050000)(h:UR k s xs a b=true):X6 ([WJ k.1 k (X8 k s xs a (IntKind.i64.wrap (a+b)))],xs)=true∧Qu ([WJ k.1 k (X8 k s xs a (IntKind.i64.wrap (a+b)))],xs)=Qj k s:=by
 unfold UR at h
 simp only[Bool.and_eq_true]at h
 obtain⟨h1,_,h2⟩:=h
 revert h2
 generalize IntKind.i64.wrap (a+b)=u
 intro h2
 obtain⟨e1,e2,e3,e4,e5,e6,e7,e8⟩:=Z4C k s xs a u
 have hkb:XR k=true:=by
  have:=(Z5u h2).1
  rw[e5]at this
  exact this
 have hs:=Z4M (ks:=k.1) k (X8 k s xs a u) hk (fun _=>Z4K)
 have hf:UY (WJ k.1 k (X8 k s xs a u))=true:=by
  have e:Ze (WJ k.1 k (X8 k s xs a u))=X8 k s xs a u:=(Z2h _ _).1
  unfold UY
  rw[e,h2,e1,e2,e3,e4,e5,e6,hs,hkb]
  simp
 have hz:Xl ([WJ k.1 k (X8 k s xs a u)],xs)=X8 k s xs a u:=by
  unfold Xl
  rw[Z3g (xs:=[WJ k.1 k (X8 k s xs a u)]) ⟨Nat.le_refl 1,Nat.le_of_ble_eq_true rfl⟩]
  exact(Z2h _ _).1
 have hc:XA [WJ k.1 k (X8 k s xs a u)]=true:=by
  unfold XA
  show(YV 1 1 12&&decide ((bif !UY (WJ k.1 k (X8 k s xs a u))then(0:Int)else-1)<0))=true
  rw[hf];rfl
 have hi:X6 ([WJ k.1 k (X8 k s xs a u)],xs)=true:=by
  unfold X6 QP
  rw[hz,e7,e8,hc,h1]
  simp
 exact⟨hi,by rw[Z2c hi,hz,e1]⟩
theorem Z3p {code:List Int}(hc:code.length≤1050000):ZB.l33 code=some true:=by
 obtain⟨y,hd,h1,h2⟩:=Z4w hc
 unfold ZB.l33 ZB.g33
 have hk:(WN y).1.length≤1050000:=by omega
 refine Zf hd (Zf (Z5h _ _ _ _ _ hk (by omega)) ?_)
 unfold QZ
 cases hg:UR (WN y) (Ql y) (UN y) (Q0 y) (Qv y)with
 |false=>rfl
 |true=>
  obtain⟨k1,k2⟩:=Z4G hk hg
  rw[cond_t,(Z1t _ _).1,(Z1t _ _).2]
  have hz:Xh ([WJ (WN y).1 (WN y) (X8 (WN y) (Ql y) (UN y) (Q0 y) (IntKind.i64.wrap (Q0 y+Qv y)))],UN y)≤1050000:=by
   have h:=Z3G (WN y).1 (WN y) (X8 (WN y) (Ql y) (UN y) (Q0 y) (IntKind.i64.wrap (Q0 y+Qv y)))
   rw[Z0w]at h
   revert h
   generalize WJ (WN y).1 (WN y) (X8 (WN y) (Ql y) (UN y) (Q0 y) (IntKind.i64.wrap (Q0 y+Qv y)))=sh
   intro h
   unfold Xh YQ
   show YO X2 [sh]+Zx (UN y)≤_
   unfold YO
   rw[List.map_cons,List.map_nil,List.sum_cons,List.sum_nil,List.length_cons,List.length_nil]
   omega
  refine cF rfl (Zf (QR _ hz) (cT k1 (Zf (Z18 _ hz) (Zf (Z1H _ _ hk) (cT (by rw[k2];exact beq_self_eq_true _) (Zf (Z1q (by show Zx (UN y)≤_;omega)) rfl))))))
theorem Z3o {code:List Int}(hc:code.length≤1050000):ZB.l21 code=some true:=by
 obtain⟨y,hd,h1,h2,h3⟩:=Z4v hc
 have hz:=Z0l h1
 have he:=Z0m (WO y) hz
 unfold ZB.l21 ZB.g21
 have renew:(bif We (Z02 (WO y) (UU y) (Q1 y) (Q2 y))==(1:Int)then(XO (Wd (Z02 (WO y) (UU y) (Q1 y) (Q2 y))).2 (WO y).2).bind fun y21=>bif !y21 then some false else ZB.l33 code else ZB.l33 code)=some true:=by
  cases hr:(We (Z02 (WO y) (UU y) (Q1 y) (Q2 y))==(1:Int))with
  |false=>rw[cond_f];exact Z3p hc
  |true=>
   rw[cond_t,show(Wd (Z02 (WO y) (UU y) (Q1 y) (Q2 y))).2=(WO y).2 from Z2A (by unfold Z02 at hr;simpa using hr)]
   exact Zf (Z1q (by omega)) (cF rfl (Z3p hc))
 refine Zf hd (Zf (Z2P _ _ _ _ _ (by omega) (by omega) (by omega) (fun _=>by omega)) (Zf (Z5k _ _ _ _ (by omega) (by omega)) (Zf (Z6q _ _ _ _ _ (by omega) (by omega) (by omega) (fun _=>by omega)) (cF (bne_self _) ?_))))
 cases hr:(We (Qn (WO y) (UU y) (Qx y) (Q1 y) (Q2 y))==(1:Int))with
 |false=>rw[cond_f];exact renew
 |true=>
  rw[cond_t,Z2A (by simpa using hr)]
  exact Zf (Z1q (by omega)) (cF rfl renew)
theorem Z6i {code:List Int}(hc:code.length≤1050000){y:ZF}(h:Z1k y):ZB.l17 code y (U3 (XD y) (UT y) (Q7 y) (UO y))=some true:=by
 obtain⟨h1,h2,h3,h4⟩:=h
 have hz:=Z0l h1
 have hzc:=Z1s h1
 have hp:=Z0l (Z21 (held:=UT y) h1 h3 h4)
 unfold ZB.l17 ZB.g17
 cases hr:(We (U3 (XD y) (UT y) (Q7 y) (UO y))==(1:Int))with
 |false=>rw[cond_f];exact Z3o hc
 |true=>
  obtain⟨s,e,k1,k2,k3,k4⟩:=Z3r (eq_of_beq hr)
  have hpc:=UG _ hp
  rw[e]at hp hpc⊢
  have id:Qu ((XD y).1++[s],UO y)=Qu (XD y):=by
   have hm:=Z1Z (Xl (XD y)) s (by unfold Qh;rw[k3];rfl)
   rw[Z2c k2,Z2c k1,←hm.2.2.1]
   unfold Xl
   show Zn (Ze (Wh ((XD y).1++[s])))=_
   rw[Z60 _ _ k4]
  refine cT rfl (Zf (QR _ (by omega)) ?_)
  rw[k2]
  refine cF rfl (Zf (Z58 _ _ (by omega) (by omega)) ?_)
  rw[Z6g]
  refine cF rfl (Zf (Z18 _ (by omega)) (Zf (Z18 _ (by omega)) ?_))
  rw[id]
  exact cF (bne_self _) (Zf (Z1q (by show Zx (UO y)≤_;omega)) (cF rfl (Z3o hc)))
theorem pure_FnPublished (x0:List Int):ZB x0=some true:=by
 unfold ZB ZB.b
 refine Zf rfl ?_
 by_cases hb:(x0.length:Int)>1048576
 ·exact cT (decide_eq_true hb) rfl
 refine cF (decide_eq_false hb) ?_
 have hc:x0.length≤1050000:=by omega
 obtain⟨y,hd,h⟩:=Z4x hc
 have hh:=h
 obtain⟨h1,h2,h3,h4⟩:=hh
 have hz:=Z0l h1
 have h3:=QJ h3
 have hp:=Z0l (Z21 (held:=UT y) h1 h.2.2.1 h4)
 refine Zf hd (Zf (Z2X _ _ _ _ (by omega) (by omega)) (Zf (Z27 _ _ _ _ (by omega) (by omega)) (cF (bne_self _) (Zf (Z2R _ _ (by omega) (by omega)) ?_))))
 rw[Z2H]
 refine cF rfl ?_
 have tail:((XB (XD y)).bind fun y7=>(XI (XD y)).bind fun y8=>bif !(y7==y8)then some false else(W6 (XD y)).bind fun y9=>(WD (XD y)).bind fun y10=>bif y9 !=y10 then some false else ZB.l17 x0 y (U3 (XD y) (UT y) (Q7 y) (UO y)))=some true:=
  Zf (QR _ (by omega)) (Zf (Z0h _ (by omega)) (cF (Z62 _) (Zf (Z18 _ (by omega)) (Zf (Z6X _ (by omega)) (cF (bne_self _) (Z6i hc h))))))
 cases hr:(We (U3 (XD y) (UT y) (Q7 y) (UO y)) !=(1:Int))with
 |false=>rw[cond_f];exact tail
 |true=>
  rw[cond_t,Z6l (by simpa using hr)]
  refine Zf (Z2R _ _ (by omega) (by omega)) ?_
  rw[Z2H]
  exact cF rfl tail

end Go.Proofs.YtkadeffepgcceadGreat
