/- The plain law of FnForks: what the printed functions compute is true, for all data in range. -/
import Derived.Test.YtcbeaoigenjoeadGreatFnForksPure0
namespace Go.Proofs.YtcbeaoigenjoeadGreat
open V
set_option linter.unusedVariables false
set_option linter.unusedSimpArgs false
set_option maxHeartbeats 1000000
theorem Zc {α β:Type}{e:Option α}{a:α}{f:α→Option β}{r:Option β}(h:e=some a)(hf:f a=r):e.bind f=r:=by rw[h,bind_s];exact hf
theorem cF {α:Type}{c:Bool}{a b r:α}(h:c=false)(hb:b=r):(bif c then a else b)=r:=by rw[h,cond_f];exact hb
theorem cT {α:Type}{c:Bool}{a b r:α}(h:c=true)(ha:a=r):(bif c then a else b)=r:=by rw[h,cond_t];exact ha
theorem Z3q {α:Type}[BEq α][ReflBEq α](a:α):(!(a==a))=false:=by rw[beq_self_eq_true];rfl
def Wa {α:Type}(p:α→Bool):List α→Int→Int
 |[],_=> -1
 |x::xs,k=>bif p x then k else Wa p xs (k+1)
theorem QT {α:Type}(p:α→Bool)(x:α)(xs:List α)(k:Int):Wa p (x::xs) k=bif p x then k else Wa p xs (k+1):=rfl
theorem QV {α:Type}(p:α→Bool){xs:List α}{i:Nat}(h:i<xs.length):Wa p (xs.drop i) (i:Int)=bif p xs[i]then(i:Int)else Wa p (xs.drop (i+1)) ((i+1:Nat):Int):=by
 rw[List.drop_eq_getElem_cons h,QT];rfl
theorem QU {α:Type}(p:α→Bool)(xs:List α)(k:Int):Wa p (xs.drop xs.length) k= -1:=by
 rw[List.drop_length];rfl
theorem Z0S {α:Type}(p:α→Bool)(xs:List α):∀k:Int,0≤k→decide (Wa p xs k≥0)=xs.any p:=by
 induction xs with
 |nil=>intro k hk;rfl
 |cons x t ih=>
  intro k hk
  rw[QT,List.any_cons]
  cases p x with
  |true=>rw[cond_t,Bool.true_or];exact decide_eq_true hk
  |false=>rw[cond_f,Bool.false_or];exact ih _ (by omega)
def all2 {α β:Type}(g:α→β→Bool):List α→List β→Bool
 |x::xs,y::ys=>g x y&&all2 g xs ys
 |_,_=>true
theorem Z2c {α β:Type}(g:α→β→Bool){xs:List α}{ys:List β}{i:Nat}(h:i<xs.length)(h':i<ys.length):all2 g (xs.drop i) (ys.drop i)=(g xs[i] ys[i]&&all2 g (xs.drop (i+1)) (ys.drop (i+1))):=by
 rw[List.drop_eq_getElem_cons h,List.drop_eq_getElem_cons h'];rfl
theorem U6 (a b c:Int):Yu a b c=some (decide (b≤a)&&decide (a≤c)):=by
 show(bif decide (b≤a)then some (decide (a≤c))else some false)=_
 cases decide (b≤a)<;>rfl
theorem Uy (a b c:Int):YV a b c=some (decide (b≤a)&&decide (a≤c)):=by
 show(bif decide (b≤a)then some (decide (a≤c))else some false)=_
 cases decide (b≤a)<;>rfl
def X7 {α:Type}(size:α→Nat)(xs:List α):Nat:=xs.length+(xs.map size).sum
theorem Z0l {α:Type}(size:α→Nat){xs:List α}{i:Nat}(h:i<xs.length):size xs[i]≤(xs.map size).sum:=by
 induction xs generalizing i with
 |nil=>simp at h
 |cons x t ih=>
  rw[List.map_cons,List.sum_cons]
  cases i with
  |zero=>show size x≤_;omega
  |succ i=>
   have hi:i<t.length:=by simpa using h
   have:=ih hi
   show size t[i]≤_
   omega
theorem wd {n:Int}(h:0≤n∧n≤4611686018427387904):IntKind.i64.wrap n=n:=w64 (by omega) (by omega)
def WG (x:ByteArray):Nat:=x.size
def XX (xs:List ByteArray):Nat:=X7 WG xs
def WF (x:Z8):Nat:=x.1.length
def Yx (x:Z4):Nat:=WF (Zd x)+(WF (Zg x)+(WF (Zh x)))
def Ym (x:Z0):Nat:=Yx (Z5 x)+((ZD x).length)
def YH (xs:List Z0):Nat:=X7 Ym xs
def XI (x:Zi):Nat:=Ym (ZL x)+(Ym (Zr x)+(Ym (Zy x)))
def YN (x:Z7):Nat:=WG x.1+(XX x.2.2.2)
def Yj (xs:List Z7):Nat:=X7 YN xs
theorem Z26 (n:Int)(h0:0≤n)(h1:n<68719476736):YA [] n=some []:=by
 have e0:IntKind.i64.wrap ((0:Int)-((0:Nat):Int))=0:=w64 (by omega) (by omega)
 have e1:IntKind.i64.wrap (n-0)=n:=by rw[w64 (by omega) (by omega)];omega
 unfold YA
 simp only[YA.b,YA.l7,YA.g7,e0,e1]
 rw[decide_eq_false (by omega),cond_f]
 by_cases h:n>0
 ·rw[decide_eq_true h,cond_t,decide_eq_true (by omega),cond_t,decide_eq_true h1,cond_t,decide_eq_true (by omega),cond_t,decide_eq_true (by omega),cond_t,decide_eq_true (by omega),cond_t]
  simp
 ·rw[decide_eq_false h,cond_f]
theorem Z21 (x0:List (List Int))(hl:x0.length<1152921504606846976):∀i n,i≤x0.length→x0.length-i<n→∀acc:List Int,acc.length+(x0.drop i).flatten.length<68719476736→Zo.l22 x0 n (x0.length:Int) (i:Int) acc=some (acc++(x0.drop i).flatten):=by
 refine idx_ind ?_ ?_
 ·intro n acc ha
  rw[Zo.u22]
  simp only[Zo.g22,lt_f (Nat.le_refl _),cond_f,List.drop_length,List.flatten_nil,List.append_nil]
 ·intro i n hi ih acc ha
  rw[List.drop_eq_getElem_cons hi,List.flatten_cons]at ha⊢
  rw[List.length_append]at ha
  rw[Zo.u22]
  simp only[Zo.g22,lt_t hi,ge_t,cond_t,w64_succ (i:=i) (by omega),Int.toNat_natCast,at_n hi]
  rw[decide_eq_true (by omega),cond_t,ih _ (by rw[List.length_append];omega),List.append_assoc]
theorem Z22 (x0:List (List Int))(hl:x0.length<1152921504606846976)(hf:x0.flatten.length<68719476736):∀i n,i≤x0.length→x0.length-i<n→∀s:Int,0≤s→s+(x0.drop i).flatten.length<68719476736→Zo.l6 x0 n s (x0.length:Int) (i:Int)=some x0.flatten:=by
 refine idx_ind ?_ ?_
 ·intro n s h0 ha
  rw[Zo.u6]
  rw[List.drop_length,List.flatten_nil]at ha
  simp only[Zo.g6,lt_f (Nat.le_refl _),cond_f]
  rw[Z26 s h0 (by simpa using ha),bind_s]
  have:=Z21 x0 hl 0 KK (Nat.zero_le _) (KK_gt (by omega)) [] (by simpa using hf)
  simpa using this
 ·intro i n hi ih s h0 ha
  rw[List.drop_eq_getElem_cons hi,List.flatten_cons,List.length_append]at ha
  rw[Zo.u6]
  simp only[Zo.g6,lt_t hi,ge_t,cond_t,w64_succ (i:=i) (by omega),Int.toNat_natCast,at_n hi]
  rw[w64 (n:=s+(x0[i].length:Int)) (by omega) (by omega),decide_eq_false (by omega),cond_f,ih _ (by omega) (by omega)]
theorem Z0o (x0:List (List Int))(hl:x0.length<1152921504606846976)(hf:x0.flatten.length<68719476736):Zo x0=some x0.flatten:=by
 have:=Z22 x0 hl hf 0 KK (Nat.zero_le _) (KK_gt (by omega)) 0 (Int.le_refl 0) (by rw[List.drop_zero,Int.zero_add];omega)
 exact this
theorem Z2a (a b:Int):Wp a b=XT a b:=by
 unfold Wp XT
 rw[U6,Uy]
def Z09 (a:Int):Int:=Int.tmod (IntKind.i64.wrap (Int.tmod a 2147483647+2147483647)) 2147483647
theorem Z0s (a:Int):XT a 2147483647=some (Z09 a):=by
 unfold XT Z09
 rw[Uy,bind_s]
 rw[decide_eq_true (by omega),decide_eq_true (by omega),Bool.and_self,Bool.not_true,cond_f]
 rw[show((2147483647:Int)==0)=false from by decide,cond_f,cond_f]
def Ug (h a:Int):Int:=Int.tmod (IntKind.i64.wrap ((IntKind.i64.wrap ((IntKind.i64.wrap (h*(1000003:Int)))+Z09 a))+(13:Int))) (2147483647:Int)
theorem Z3M (x0:List Int)(hx:x0.length≤1152921504606846976):∀i n,i≤x0.length→x0.length-i<n→∀h:Int,ZB.l6 x0 n h (i:Int)=some ((x0.drop i).foldl Ug h):=by
 refine idx_ind ?_ ?_
 ·intro n h
  rw[ZB.u6]
  simp only[ZB.g6,lt_f (Nat.le_refl _),cond_f,List.drop_length,List.foldl_nil]
 ·intro i n hi ih h
  rw[List.drop_eq_getElem_cons hi,List.foldl_cons]
  rw[ZB.u6]
  simp only[ZB.g6,lt_t hi,ge_t,cond_t,bind_s,w64_succ (i:=i) (by omega),Int.toNat_natCast,at_n hi,Z2a,Z0s]
  rw[show((2147483647:Int)==0)=false from by decide,cond_f,ih]
  rfl
theorem Z2N (x0:List Int)(hx:x0.length≤1152921504606846976):∀i n,i≤x0.length→x0.length-i<n→∀h:Int,ZN.l6 x0 n h (x0.length:Int) (i:Int)=some ((x0.drop i).foldl Ug h):=by
 refine idx_ind ?_ ?_
 ·intro n h
  rw[ZN.u6]
  simp only[ZN.g6,lt_f (Nat.le_refl _),cond_f,List.drop_length,List.foldl_nil]
 ·intro i n hi ih h
  rw[List.drop_eq_getElem_cons hi,List.foldl_cons]
  rw[ZN.u6]
  simp only[ZN.g6,lt_t hi,ge_t,cond_t,bind_s,w64_succ (i:=i) (by omega),Int.toNat_natCast,at_n hi,Z0s]
  rw[show((2147483647:Int)==0)=false from by decide,cond_f,ih]
  rfl
theorem Uv (x0:List Int)(hx:x0.length≤1152921504606846976):ZB x0=some (x0.foldl Ug 11):=by
 have:=Z3M x0 hx 0 KK (Nat.zero_le _) (KK_gt (by omega)) 11
 rw[List.drop_zero]at this
 exact this
theorem QY (x0:List Int)(hx:x0.length≤1152921504606846976):ZN x0=some (x0.foldl Ug 11):=by
 have:=Z2N x0 hx 0 KK (Nat.zero_le _) (KK_gt (by omega)) 11
 rw[List.drop_zero]at this
 exact this
def XW (k:Z8):List Int:=[k.2,(k.1.length:Int)]++k.1
theorem UI (k:Z8):(XW k).length=k.1.length+2:=by unfold XW;simp
theorem QD (k:Z8)(h:k.1.length≤1050000):Xq k=some (XW k):=by
 unfold Xq XW
 rw[decide_eq_true (by simp;omega),cond_t]
theorem Qm (k:Z8)(h:k.1.length≤1050000):Xp k=some (XW k):=by
 unfold Xp XW
 rw[decide_eq_true (by simp;omega),cond_t]
def WB (x0:Z4):List Int:=[(ZC x0),(Ya x0),(Yw x0),(ZK x0),(YB x0),(YJ x0),(YF x0),(YU x0)]
def WN (x0:Z4):List Int:=[(ZQ x0)]
def WS (x0:Z4):List Int:=[bif(Zp x0)then(1:Int)else 0]
def YD (x0:Z4):List Int:=((((WB x0++XW (Zd x0))++XW (Zg x0))++WN x0)++XW (Zh x0))++WS x0
theorem WL (x0:Z4):(YD x0).length=Yx x0+16:=by
 unfold YD Yx WF
 simp only[List.length_append,UI]
 simp[WB,WN,WS];omega
theorem Z2e {α:Type}(a b:List α):(a++b).length=a.length+b.length:=List.length_append
theorem U0 (x0:Z4)(h:Yx x0≤1050000):Yf x0=some (YD x0):=by
 have hs:=h
 unfold Yx WF at hs
 have e1:=QD (Zd x0) (by omega)
 have e2:=QD (Zg x0) (by omega)
 have e3:=QD (Zh x0) (by omega)
 have l1:=UI (Zd x0)
 have l2:=UI (Zg x0)
 have l3:=UI (Zh x0)
 have l8:(WB x0).length=8:=rfl
 have le:(WN x0).length=1:=rfl
 show((Xq (Zd x0)).bind fun y1=>bif decide ((WB x0).length+y1.length<68719476736)then(Xq (Zg x0)).bind fun y2=>bif decide ((WB x0++y1).length+y2.length<68719476736)then bif decide (((WB x0++y1)++y2).length+(WN x0).length<68719476736)then(Xq (Zh x0)).bind fun y3=>bif decide ((((WB x0++y1)++y2)++WN x0).length+y3.length<68719476736)then bif(Zp x0)then bif decide (((((WB x0++y1)++y2)++WN x0)++y3).length+[(1:Int)].length<68719476736)then some (((((WB x0++y1)++y2)++WN x0)++y3)++[(1:Int)])else none else bif decide (((((WB x0++y1)++y2)++WN x0)++y3).length+[(0:Int)].length<68719476736)then some (((((WB x0++y1)++y2)++WN x0)++y3)++[(0:Int)])else none else none else none else none else none)=_
 simp only[e1,e2,e3,bind_s,Z2e,l1,l2,l3,l8,le,List.length_singleton]
 rw[decide_eq_true (by omega),cond_t,decide_eq_true (by omega),cond_t,decide_eq_true (by omega),cond_t,decide_eq_true (by omega),cond_t,decide_eq_true (by omega),cond_t]
 unfold YD WS
 cases(Zp x0)<;>rfl
theorem UE (x0:Z4)(h:Yx x0≤1050000):YE x0=some (YD x0):=by
 have hs:=h
 unfold Yx WF at hs
 have e1:=Qm (Zd x0) (by omega)
 have e2:=Qm (Zg x0) (by omega)
 have e3:=Qm (Zh x0) (by omega)
 have eb:W1 (Zp x0)=some (bif(Zp x0)then(1:Int)else 0):=by
  unfold W1
  cases(Zp x0)<;>rfl
 have ef:[WB x0,XW (Zd x0),XW (Zg x0),WN x0,XW (Zh x0),WS x0].flatten=YD x0:=by
  simp[YD]
 have ec:=Z0o [WB x0,XW (Zd x0),XW (Zg x0),WN x0,XW (Zh x0),WS x0] (by simp) (by rw[ef,WL];omega)
 rw[ef]at ec
 show((Xp (Zd x0)).bind fun y1=>(Xp (Zg x0)).bind fun y2=>(Xp (Zh x0)).bind fun y3=>(W1 (Zp x0)).bind fun y4=>(Zo [WB x0,y1,y2,WN x0,y3,[y4]]).bind fun y5=>some y5)=_
 simp only[e1,e2,e3,eb,bind_s]
 rw[show [bif(Zp x0)then(1:Int)else 0]=WS x0 from rfl,ec,bind_s]
def UD (x0:Z4):Int:=([(233:Int)]++YD x0).foldl Ug 11
theorem Z1B (x0:Z4)(h:Yx x0≤1050000):X1 x0=some (UD x0):=by
 have hl:=WL x0
 unfold X1 UD
 rw[U0 x0 h,bind_s,decide_eq_true (by simp[hl];omega),cond_t,Uv _ (by simp[hl];omega),bind_s]
theorem Z2O (x0:Z4)(h:Yx x0≤1050000):X9 x0=some (UD x0):=by
 have hl:=WL x0
 unfold X9 UD
 rw[UE x0 h,bind_s,decide_eq_true (by simp[hl];omega),cond_t,QY _ (by simp[hl];omega),bind_s]
def Q0 (k:Int)(xs:List Int):Int:=(([k]++xs)++[k]).foldl Ug 11
theorem Z3S (k:Int)(xs:List Int)(h:xs.length≤16777216):Wn k xs=some (Q0 k xs):=by
 unfold Wn Q0
 rw[decide_eq_true (by simp;omega),cond_t,decide_eq_true (by simp;omega),cond_t,Uv _ (by simp;omega),bind_s]
theorem Z2S (k:Int)(xs:List Int)(h:xs.length≤16777216):Wc k xs=some (Q0 k xs):=by
 have ef:[[k],xs,[k]].flatten=([k]++xs)++[k]:=by simp
 have ec:=Z0o [[k],xs,[k]] (by simp) (by rw[ef];simp;omega)
 rw[ef]at ec
 unfold Wc Q0
 rw[ec,bind_s,QY _ (by simp;omega),bind_s]
def Un (k:Int)(xs:List Int):Int:=Q0 k ([(223:Int)]++xs)
theorem Z1L (k:Int)(xs:List Int)(h:xs.length≤8388608):XN k xs=some (Un k xs):=by
 unfold XN Un
 rw[decide_eq_true (by simp;omega),cond_t,Z3S _ _ (by simp;omega),bind_s]
theorem Z2W (k:Int)(xs:List Int)(h:xs.length≤8388608):Wd k xs=some (Un k xs):=by
 unfold Wd Un
 rw[decide_eq_true (by simp;omega),cond_t,Z2S _ _ (by simp;omega),bind_s]
theorem Z03 (k:Int):XC k=some (decide (1≤k)&&decide (k≤99)):=by
 unfold XC
 rw[Uy,bind_s]
def WC (s:Z6)(xs:List Int):Bool:=(decide (1≤s.1)&&decide (s.1≤99))&&(s.2==Un s.1 xs)
theorem Z1E (s:Z6)(xs:List Int)(h:xs.length≤8388608):XK s xs=some (WC s xs):=by
 unfold XK WC
 rw[U6,bind_s,Z1L _ _ h,bind_s]
 cases(decide (1≤s.1)&&decide (s.1≤99))<;>rfl
theorem Z16 (s:Z6)(xs:List Int)(h:xs.length≤8388608):XH s xs=some (WC s xs):=by
 unfold XH WC
 rw[Z03,bind_s,Z2W _ _ h,bind_s]
 cases(decide (1≤s.1)&&decide (s.1≤99))<;>rfl
def WE (k:Int)(xs:List Int)(s:Z6):Bool:=s.1==k&&WC s xs
theorem Z27 (x0:List Z6)(x1:Unit×(Int×List Int))(hx:x0.length≤1050000)(hm:x1.2.2.length≤8388608):∀i n,i≤x0.length→x0.length-i<n→ZX.l4 x0 x1 n (x0.length:Int) (i:Int)=some (Wa (WE x1.2.1 x1.2.2) (x0.drop i) (i:Int)):=by
 refine idx_ind ?_ ?_
 ·intro n
  rw[ZX.u4]
  simp only[ZX.g4,lt_f (Nat.le_refl _),cond_f,QU]
 ·intro i n hi ih
  rw[ZX.u4]
  simp only[ZX.g4,Wu,Z16 _ _ hm,lt_t hi,ge_t,cond_t,bind_s,w64_succ (i:=i) (by omega),Int.toNat_natCast,at_n hi,QV _ hi,ih]
  unfold WE
  cases(x0[i].1==x1.2.1)<;>cases(WC x0[i] x1.2.2)<;>rfl
theorem Z23 (x0:List Z6)(k:Int)(xs:List Int)(hx:x0.length≤1050000)(hm:xs.length≤8388608):Wi x0 ((),(k,xs))=some (x0.any (WE k xs)):=by
 have h:=Z27 x0 ((),(k,xs)) hx hm 0 KK (Nat.zero_le _) (KK_gt (by omega))
 have e:ZX x0 ((),(k,xs))=some (Wa (WE k xs) x0 0):=by
  unfold ZX
  simpa [ZX.b]using h
 unfold Wi
 rw[e,bind_s,Z0S _ _ _ (Int.le_refl 0)]
def WW (p:Int→Bool):List Int→Int→Int
 |[],c=>c
 |k::ks,c=>WW p ks (bif p k then c+1 else c)
theorem Z0I (p:Int→Bool){ks:List Int}{i:Nat}(h:i<ks.length)(c:Int):WW p (ks.drop i) c=WW p (ks.drop (i+1)) (bif p ks[i]then c+1 else c):=by
 rw[List.drop_eq_getElem_cons h];rfl
theorem Z0H (p:Int→Bool)(ks:List Int)(c:Int):WW p (ks.drop ks.length) c=c:=by
 rw[List.drop_length];rfl
def XB (sg:List Z6)(xs:List Int)(k:Int):Bool:=sg.any (WE k xs)
theorem Z2I (x0:Z8)(xs:List Int)(sg:List Z6)(hk:x0.1.length≤1050000)(hs:sg.length≤1050000)(hm:xs.length≤8388608):∀i n,i≤x0.1.length→x0.1.length-i<n→∀c:Int,0≤c→c≤i→Yb.l6 x0 xs sg n c (x0.1.length:Int) (i:Int)=some (WW (XB sg xs) (x0.1.drop i) c):=by
 refine idx_ind ?_ ?_
 ·intro n c h0 h1
  rw[Yb.u6]
  simp only[Yb.g6,lt_f (Nat.le_refl _),cond_f,Z0H]
 ·intro i n hi ih c h0 h1
  rw[Yb.u6]
  simp only[Yb.g6,lt_t hi,ge_t,cond_t,bind_s,w64_succ (i:=i) (by omega),Int.toNat_natCast,at_n hi,Z23 _ _ _ hs hm,Z0I _ hi,w64 (n:=c+1) (by omega) (by omega)]
  rw[show sg.any (WE x0.1[i] xs)=XB sg xs x0.1[i]from rfl]
  cases XB sg xs x0.1[i]with
  |true=>rw[cond_t,cond_t];exact ih _ (by omega) (by omega)
  |false=>rw[cond_f,cond_f];exact ih _ (by omega) (by omega)
theorem Z2J (x0:Z8)(xs:List Int)(sg:List Z6)(hk:x0.1.length≤1050000)(hs:sg.length≤1050000)(hm:xs.length≤8388608):Yb x0 xs sg=some (WW (XB sg xs) x0.1 0):=by
 have:=Z2I x0 xs sg hk hs hm 0 KK (Nat.zero_le _) (KK_gt (by omega)) 0 (Int.le_refl 0) (by omega)
 rw[List.drop_zero]at this
 exact this
theorem Z3B (x0:Z8)(xs:List Int)(sg:List Z6)(hs:sg.length≤1050000)(hm:xs.length≤8388608)(c:Int)(j:Nat)(hj:j<x0.1.length)(r:Int→Int→Option Int):∀i n,i≤sg.length→sg.length-i<n→Ze.l12 x0 xs sg c (j:Int) r n (i:Int)=bif(sg.drop i).any (WE x0.1[j] xs)then r (IntKind.i64.wrap (c+1)) (IntKind.i64.wrap ((j:Int)+1))else r c (IntKind.i64.wrap ((j:Int)+1)):=by
 refine idx_ind ?_ ?_
 ·intro n
  rw[Ze.u12]
  simp only[Ze.g12,lt_f (Nat.le_refl _),cond_f,List.drop_length,List.any_nil]
 ·intro i n hi ih
  rw[Ze.u12]
  simp only[Ze.g12,Ze.l19,Ze.g19,lt_t hi,lt_t hj,ge_t,cond_t,cond_f,bind_s,w64_succ (i:=i) (by omega),Int.toNat_natCast,at_n hi,at_n hj,Z1E _ _ hm,ih]
  rw[List.drop_eq_getElem_cons hi,List.any_cons]
  rw[show WE x0.1[j] xs sg[i]=(sg[i].1==x0.1[j]&&WC sg[i] xs)from rfl]
  cases(sg[i].1==x0.1[j])<;>cases(WC sg[i] xs)<;>rfl
theorem Z3A (x0:Z8)(xs:List Int)(sg:List Z6)(hk:x0.1.length≤1050000)(hs:sg.length≤1050000)(hm:xs.length≤8388608):∀i n,i≤x0.1.length→x0.1.length-i<n→∀c:Int,0≤c→c≤i→Ze.l6 x0 xs sg n c (i:Int)=some (WW (XB sg xs) (x0.1.drop i) c):=by
 refine idx_ind ?_ ?_
 ·intro n c h0 h1
  rw[Ze.u6]
  simp only[Ze.g6,lt_f (Nat.le_refl _),cond_f,Z0H]
 ·intro i n hi ih c h0 h1
  have hl:=Z3B x0 xs sg hs hm c i hi (Ze.l6 x0 xs sg n) 0 KK (Nat.zero_le _) (KK_gt (by omega))
  rw[List.drop_zero]at hl
  rw[Ze.u6]
  simp only[Ze.g6,lt_t hi,cond_t]
  refine Eq.trans hl ?_
  rw[w64_succ (i:=i) (by omega),w64 (n:=c+1) (by omega) (by omega),Z0I _ hi]
  rw[show sg.any (WE x0.1[i] xs)=XB sg xs x0.1[i]from rfl]
  cases XB sg xs x0.1[i]with
  |true=>rw[cond_t,cond_t];exact ih _ (by omega) (by omega)
  |false=>rw[cond_f,cond_f];exact ih _ (by omega) (by omega)
theorem Z3C (x0:Z8)(xs:List Int)(sg:List Z6)(hk:x0.1.length≤1050000)(hs:sg.length≤1050000)(hm:xs.length≤8388608):Ze x0 xs sg=some (WW (XB sg xs) x0.1 0):=by
 have:=Z3A x0 xs sg hk hs hm 0 KK (Nat.zero_le _) (KK_gt (by omega)) 0 (Int.le_refl 0) (by omega)
 rw[List.drop_zero]at this
 exact this
def gk (x0:Z8)(j:Nat):Int:=x0.1.getD j 0
theorem Qj (x0:Z8)(j:Nat):x0.1.getD j 0=gk x0 j:=rfl
def Qs (x0:Z8)(i:Nat):Prop:=∀j,j<x0.1.length→i≤j→0<j→gk x0 (j-1)<gk x0 j
def Z05 (x0:Z8)(i:Nat):Prop:=∀j,j<x0.1.length→i≤j→(1≤gk x0 j∧gk x0 j≤99)∧(0<j→gk x0 (j-1)<gk x0 j)
def Z19 (x0:Z8):Prop:=(1≤(x0.1.length:Int)∧(x0.1.length:Int)≤4)∧(1≤x0.2∧x0.2≤(x0.1.length:Int))
theorem Z0g (x0:Z8)(hx:x0.1.length≤1050000):∀i n,i≤x0.1.length→x0.1.length-i<n→∃b,ZJ.l4 x0 n (i:Int)=some b∧(b=true↔Z05 x0 i∧Z19 x0):=by
 refine idx_ind ?_ ?_
 ·intro n
  rw[ZJ.u4]
  simp only[ZJ.g4,lt_f (Nat.le_refl _),cond_f,U6,bind_s]
  refine⟨(decide ((1:Int)≤(x0.1.length:Int))&&decide ((x0.1.length:Int)≤4))&&(decide (1≤x0.2)&&decide (x0.2≤(x0.1.length:Int))),?_,?_⟩
  ·cases(decide ((1:Int)≤(x0.1.length:Int))&&decide ((x0.1.length:Int)≤4))<;>rfl
  ·unfold Z05 Z19
   simp only[Bool.and_eq_true,decide_eq_true_eq]
   exact⟨fun h=>⟨fun j h1 h2=>absurd h1 (by omega),h⟩,fun h=>h.2⟩
 ·intro i n hi ih
  obtain⟨b,hb,hP⟩:=ih
  rw[ZJ.u4]
  simp only[ZJ.g4,lt_t hi,ge_t,cond_t,U6,bind_s,w64_succ (i:=i) (by omega),Int.toNat_natCast,hb,Qj]
  by_cases hr:1≤gk x0 i∧gk x0 i≤99
  ·rw[decide_eq_true hr.1,decide_eq_true hr.2,Bool.and_self,Bool.not_true,cond_f]
   by_cases h0:0<i
   ·have ew:IntKind.i64.wrap ((i:Int)-1)=((i-1:Nat):Int):=by rw[w64 (by omega) (by omega)];omega
    simp only[decide_eq_true (show(i:Int)>0 by omega),cond_t,ew,ge_t,lt_t (show i-1<x0.1.length by omega),Int.toNat_natCast,Qj]
    by_cases ha:gk x0 (i-1)<gk x0 i
    ·rw[decide_eq_false (by omega),cond_f]
     refine⟨b,rfl,hP.trans ⟨fun h=>⟨fun j h1 h2=> ?_,h.2⟩,fun h=>⟨fun j h1 h2=>h.1 j h1 (by omega),h.2⟩⟩⟩
     by_cases e:j=i
     ·subst e;exact⟨hr,fun _=>ha⟩
     ·exact h.1 j h1 (by omega)
    ·rw[decide_eq_true (by omega),cond_t]
     refine⟨false,rfl,⟨fun h=>Bool.noConfusion h,fun h=>absurd ((h.1 i hi (Nat.le_refl _)).2 h0) ha⟩⟩
   ·rw[decide_eq_false (by omega),cond_f]
    refine⟨b,rfl,hP.trans ⟨fun h=>⟨fun j h1 h2=> ?_,h.2⟩,fun h=>⟨fun j h1 h2=>h.1 j h1 (by omega),h.2⟩⟩⟩
    by_cases e:j=i
    ·subst e;exact⟨hr,fun h=>absurd h h0⟩
    ·exact h.1 j h1 (by omega)
  ·have e:(decide (1≤gk x0 i)&&decide (gk x0 i≤99))=false:=by
    cases hc:(decide (1≤gk x0 i)&&decide (gk x0 i≤99))
    ·rfl
    ·simp only[Bool.and_eq_true,decide_eq_true_eq]at hc;exact absurd hc hr
   rw[e,Bool.not_false,cond_t]
   exact⟨false,rfl,⟨fun h=>Bool.noConfusion h,fun h=>absurd (h.1 i hi (Nat.le_refl _)).1 hr⟩⟩
theorem Z2g (x0:Z8)(hx:x0.1.length≤1050000):∀i n,i≤x0.1.length→x0.1.length-i<n→∃b,Yc.l4 x0.1 n (x0.1.length:Int) (i:Int)=some b∧(b=true↔Qs x0 i):=by
 refine idx_ind ?_ ?_
 ·intro n
  rw[Yc.u4]
  simp only[Yc.g4,lt_f (Nat.le_refl _),cond_f]
  exact⟨true,rfl,⟨fun _ j h1 h2=>absurd h1 (by omega),fun _=>rfl⟩⟩
 ·intro i n hi ih
  obtain⟨b,hb,hP⟩:=ih
  rw[Yc.u4]
  simp only[Yc.g4,lt_t hi,ge_t,cond_t,w64_succ (i:=i) (by omega),Int.toNat_natCast,hb,Qj]
  by_cases h0:0<i
  ·have ew:IntKind.i64.wrap ((i:Int)-1)=((i-1:Nat):Int):=by rw[w64 (by omega) (by omega)];omega
   simp only[decide_eq_true (show(i:Int)>0 by omega),cond_t,ew,ge_t,lt_t (show i-1<x0.1.length by omega),Int.toNat_natCast,Qj]
   by_cases ha:gk x0 (i-1)<gk x0 i
   ·rw[decide_eq_false (by omega),cond_f]
    refine⟨b,rfl,hP.trans ⟨fun h j h1 h2 h3=> ?_,fun h j h1 h2 h3=>h j h1 (by omega) h3⟩⟩
    by_cases e:j=i
    ·subst e;exact ha
    ·exact h j h1 (by omega) h3
   ·rw[decide_eq_true (by omega),cond_t]
    exact⟨false,rfl,⟨fun h=>Bool.noConfusion h,fun h=>absurd (h i hi (Nat.le_refl _) h0) ha⟩⟩
  ·rw[decide_eq_false (by omega),cond_f]
   refine⟨b,rfl,hP.trans ⟨fun h j h1 h2 h3=>h j h1 (by omega) h3,fun h j h1 h2 h3=>h j h1 (by omega) h3⟩⟩
theorem QN (x0:Z8)(h:Qs x0 0)(a:Nat):∀b,a≤b→b<x0.1.length→gk x0 a≤gk x0 b:=by
 intro b
 induction b with
 |zero=>intro h1 _;have:a=0:=by omega
        subst this;exact Int.le_refl _
 |succ b ih=>
  intro h1 h2
  by_cases e:a=b+1
  ·subst e;exact Int.le_refl _
  ·have:=ih (by omega) (by omega)
   have h3:=h (b+1) h2 (by omega) (by omega)
   rw[show b+1-1=b from rfl]at h3
   omega
theorem Z35 (x0:Z8)(h:Qs x0 0)(h0:1≤gk x0 0)(h1:gk x0 (x0.1.length-1)≤99):Z05 x0 0:=by
 intro j hj _
 have a:=QN x0 h 0 j (by omega) hj
 have b:=QN x0 h j (x0.1.length-1) (by omega) (by omega)
 exact⟨⟨by omega,by omega⟩,h j hj (by omega)⟩
theorem Qa {a b:Bool}(h:a=true↔b=true):a=b:=by cases a<;>cases b<;>simp_all
theorem Z0r (x0:Z8)(hx:x0.1.length≤1050000):∃b,ZJ x0=some b∧Xt x0=some b:=by
 obtain⟨s,hs,hS⟩:=Z0g x0 hx 0 KK (Nat.zero_le _) (KK_gt (by omega))
 obtain⟨a,ha,hA⟩:=Z2g x0 hx 0 KK (Nat.zero_le _) (KK_gt (by omega))
 refine⟨s,hs,?_⟩
 have ea:Yc x0.1=some a:=ha
 unfold Xt
 rw[Uy,bind_s]
 by_cases hl:1≤(x0.1.length:Int)∧(x0.1.length:Int)≤4
 ·rw[decide_eq_true hl.1,decide_eq_true hl.2,Bool.and_self,cond_t,ea,bind_s]
  have ew:IntKind.i64.wrap ((x0.1.length:Int)-1)=((x0.1.length-1:Nat):Int):=by rw[w64 (by omega) (by omega)];omega
  cases a with
  |false=>
   rw[cond_f]
   have:s=false:=by
    cases s with
    |false=>rfl
    |true=>
     have h:=(hS.mp rfl).1
     exact(hA.mpr (fun j h1 h2 h3=>(h j h1 h2).2 h3)).symm
   rw[this]
  |true=>
   have hasc:=hA.mp rfl
   rw[cond_t,decide_eq_true (Int.le_refl 0),cond_t,decide_eq_true (by omega),cond_t,Z03,bind_s,ew,ge_t,cond_t,lt_t (by omega),cond_t,Z03,bind_s,Uy,bind_s,Int.toNat_natCast,show(0:Int).toNat=0 from rfl]
   rw[show x0.1.getD 0 0=gk x0 0 from rfl,show x0.1.getD (x0.1.length-1) 0=gk x0 (x0.1.length-1)from rfl]
   have e:s=((decide (1≤gk x0 0)&&decide (gk x0 0≤99))&&((decide (1≤gk x0 (x0.1.length-1))&&decide (gk x0 (x0.1.length-1)≤99))&&(decide (1≤x0.2)&&decide (x0.2≤(x0.1.length:Int))))):=by
    refine Qa (hS.trans ?_)
    simp only[Bool.and_eq_true,decide_eq_true_eq]
    constructor
    ·intro h
     exact⟨(h.1 0 (by omega) (Nat.le_refl _)).1,(h.1 (x0.1.length-1) (by omega) (by omega)).1,h.2.2⟩
    ·intro h
     exact⟨Z35 x0 hasc h.1.1 h.2.1.2,hl,h.2.2⟩
   rw[e]
   cases(decide (1≤gk x0 0)&&decide (gk x0 0≤99))<;>cases(decide (1≤gk x0 (x0.1.length-1))&&decide (gk x0 (x0.1.length-1)≤99))<;>rfl
 ·have e:(decide (1≤(x0.1.length:Int))&&decide ((x0.1.length:Int)≤4))=false:=by
   cases hc:(decide (1≤(x0.1.length:Int))&&decide ((x0.1.length:Int)≤4))
   ·rfl
   ·simp only[Bool.and_eq_true,decide_eq_true_eq]at hc;exact absurd hc hl
  rw[e,cond_f]
  have:s=false:=by
   cases s with
   |false=>rfl
   |true=>exact absurd (hS.mp rfl).2.1 hl
  rw[this]
theorem Z29 (x0:Z8)(hx:x0.1.length≤1050000)(h:ZJ x0=some true):1≤x0.1.length:=by
 obtain⟨s,hs,hS⟩:=Z0g x0 hx 0 KK (Nat.zero_le _) (KK_gt (by omega))
 have e:ZJ x0=some s:=hs
 rw[h]at e
 injection e with e
 have:=(hS.mp e.symm).2.1
 omega
noncomputable def W4 (k:Z8):Bool:=(ZJ k).getD false
theorem UN (k:Z8)(hx:k.1.length≤1050000):ZJ k=some (W4 k):=by
 obtain⟨b,h1,h2⟩:=Z0r k hx
 unfold W4
 rw[h1];rfl
theorem Ql (k:Z8)(hx:k.1.length≤1050000):Xt k=some (W4 k):=by
 obtain⟨b,h1,h2⟩:=Z0r k hx
 unfold W4
 rw[h1,h2];rfl
def Xu (k:Z8):Bool:=k.2==(0:Int)&&((k.1.length:Int)==(0:Int))
theorem QE (k:Z8):Xv k=some (Xu k):=by
 unfold Xv Xu
 cases(k.2==(0:Int))<;>rfl
theorem Qn (k:Z8):Xi k=some (Xu k):=by
 unfold Xi Xu
 cases(k.2==(0:Int))<;>rfl
theorem Z34 (k:Z8)(hx:k.1.length≤1050000):(W4 k&&Xu k)=false:=by
 cases h:W4 k with
 |false=>rfl
 |true=>
  have:=Z29 k hx (by rw[UN k hx,h])
  unfold Xu
  have e:((k.1.length:Int)==(0:Int))=false:=by rw[beq_eq_false_iff_ne];omega
  rw[e,Bool.and_false];rfl
def Xn (a b c:Int):Bool:=decide (b≤a)&&decide (a≤c)
theorem Qu (a b c:Int):Yu a b c=some (Xn a b c):=U6 a b c
theorem QK (a b c:Int):YV a b c=some (Xn a b c):=Uy a b c
theorem Z2Z (a:Int):XV a=some (Xn a 0 2147483646):=by
 unfold XV
 rw[QK,bind_s]
theorem Uq {α:Type}(c:Bool)(a b:α):(bif c then some a else some b)=some (bif c then a else b):=by cases c<;>rfl
theorem Z0w (c a:Bool):(bif c then a else false)=(c&&a):=by cases c<;>rfl
theorem Z0x (c a:Bool):(bif c then false else a)=(!c&&a):=by cases c<;>rfl
theorem Z0y (c a:Bool):(bif c then true else a)=(c||a):=by cases c<;>rfl
theorem Z0z (c a:Bool):(bif c then a else true)=(!c||a):=by cases c<;>rfl
def UV (x:Z4):Bool:=Xn (ZC x) 0 2147483646&&(Xn (YF x) 0 2147483646&&(Xn (YU x) 0 2147483646&&(Xn (Ya x) 0 200&&Xn (Yw x) 1 3)))
def Q8 (x:Z4):Bool:=decide ((ZK x)≥0)&&(decide ((ZK x)≤(YB x))&&(decide ((YB x)≤100000)&&decide (IntKind.i64.wrap ((YB x)-(ZK x))≤200)))
theorem Z4g (x:Z4)(r:Bool):(Xn (ZK x) 0 100000&&(Xn (YB x) (ZK x) 100000&&(!decide (IntKind.i64.wrap ((YB x)-(ZK x))>200)&&r)))=(Q8 x&&r):=by
 have:(Xn (ZK x) 0 100000&&(Xn (YB x) (ZK x) 100000&& !decide (IntKind.i64.wrap ((YB x)-(ZK x))>200)))=Q8 x:=by
  unfold Xn Q8
  generalize IntKind.i64.wrap ((YB x)-(ZK x))=w
  refine Qa ?_
  simp only[Bool.and_eq_true,decide_eq_true_eq,Bool.not_eq_true',decide_eq_false_iff_not]
  omega
 rw[←this]
 simp only[Bool.and_assoc]
noncomputable def UZ (x:Z4):Bool:=(bif Xu (Zg x)then((ZQ x)==(0:Int))else(W4 (Zg x)&&Xn (ZQ x) 1 500))&&(W4 (Zh x)||(Xu (Zh x)&& !(Zp x)))
noncomputable def Xo (x:Z4):Bool:=UV x&&(Q8 x&&(Xn (YJ x) 0 12&&(W4 (Zd x)&&UZ x)))
theorem QC (x:Z4)(hx:Yx x≤1050000):Zj x=some (Xo x):=by
 unfold Yx WF at hx
 have k1:=UN (Zd x) (by omega)
 have k2:=UN (Zg x) (by omega)
 have k3:=UN (Zh x) (by omega)
 have n2:=QE (Zg x)
 have n3:=QE (Zh x)
 have key:(bif Xu (Zg x)then(!((ZQ x) !=(0:Int))&&(W4 (Zh x)||(Xu (Zh x)&& !(Zp x))))else(W4 (Zg x)&&(Xn (ZQ x) 1 500&&(W4 (Zh x)||(Xu (Zh x)&& !(Zp x))))))=UZ x:=by
  unfold UZ
  cases Xu (Zg x)with
  |true=>simp[bne]
  |false=>simp only[cond_f,Bool.and_assoc]
 unfold Zj
 simp only[Zj.b,Zj.l7,Zj.g7,Zj.l11,Zj.g11,Zj.l21,Zj.g21,Qu,k1,k2,k3,n2,n3,bind_s,Uq,Z0w,Z0x,Z0y,Z0z,Bool.not_not]
 rw[key,Z4g]
 unfold Xo UV Zd
 simp only[Bool.and_assoc]
theorem Z00 (x:Z4)(hx:Yx x≤1050000):YX x=some (Xo x):=by
 unfold Yx WF at hx
 have k1:=Ql (Zd x) (by omega)
 have k2:=Ql (Zg x) (by omega)
 have k3:=Ql (Zh x) (by omega)
 have n2:=Qn (Zg x)
 have n3:=Qn (Zh x)
 have q3:=Z34 (Zh x) (by omega)
 have key:((Xu (Zg x)||W4 (Zg x))&&((Xu (Zh x)||W4 (Zh x))&&((bif Xu (Zg x)then((ZQ x)==(0:Int))else Xn (ZQ x) 1 500)&&(!(Zp x)|| !Xu (Zh x)))))=UZ x:=by
  unfold UZ
  revert q3
  generalize ((ZQ x)==(0:Int))=a
  generalize Xn (ZQ x) 1 500=b
  generalize (Zp x)=c
  cases Xu (Zg x)<;>cases W4 (Zg x)<;>cases Xu (Zh x)<;>cases W4 (Zh x)<;>cases a<;>cases b<;>cases c<;>decide
 unfold YX
 simp only[Wf,Wv,Xg,Z2Z,QK,k1,k2,k3,n2,n3,bind_s,Uq,Z0w,Z0x,Z0y,Z0z,Bool.not_not]
 rw[key]
 unfold Xo UV Q8 Zd
 simp only[Bool.and_assoc]
theorem Z25 (x0 x1:List Int)(hl:x0.length=x1.length)(hx:x0.length≤1152921504606846976):∀i n,i≤x0.length→x0.length-i<n→ZO.l8 x0 x1 n (i:Int)=some (decide (x0.drop i=x1.drop i)):=by
 refine idx_ind ?_ ?_
 ·intro n
  rw[ZO.u8]
  simp only[ZO.g8,lt_f (Nat.le_refl _),cond_f]
  rw[List.drop_length,hl,List.drop_length];simp
 ·intro i n hi ih
  have hi':i<x1.length:=by omega
  rw[ZO.u8]
  simp only[ZO.g8,lt_t hi,lt_t hi',ge_t,cond_t,w64_succ (i:=i) (by omega),Int.toNat_natCast,at_n hi,at_n hi']
  rw[dec_step (drop_eq hi hi')]
  by_cases he:x0[i]=x1[i]
  ·rw[show(x0[i] !=x1[i])=false by simp[he],cond_f,ih,decide_eq_true he,Bool.true_and]
  ·rw[show(x0[i] !=x1[i])=true by simp[he],cond_t,decide_eq_false he,Bool.false_and]
theorem Z0p (x0 x1:List Int)(hx:x0.length≤1152921504606846976):ZO x0 x1=some (decide (x0=x1)):=by
 unfold ZO
 by_cases hl:x0.length=x1.length
 ·simp only[ZO.b,len_eq hl,cond_f]
  have:=Z25 x0 x1 hl hx 0 KK (Nat.zero_le _) (KK_gt (by omega))
  simpa using this
 ·simp only[ZO.b,len_ne hl,cond_t]
  rw[decide_eq_false (fun h=>hl (by rw[h]))]
theorem Z4d (x0 x1:List Int)(hl:x0.length=x1.length)(hx:x0.length≤1152921504606846976):∀i n,i≤x0.length→x0.length-i<n→ZM.l8 x0 x1 n (x0.length:Int) (i:Int)=some (decide (x0.drop i=x1.drop i)):=by
 refine idx_ind ?_ ?_
 ·intro n
  rw[ZM.u8]
  simp only[ZM.g8,lt_f (Nat.le_refl _),cond_f]
  rw[List.drop_length,hl,List.drop_length];simp
 ·intro i n hi ih
  have hi':i<x1.length:=by omega
  rw[ZM.u8]
  simp only[ZM.g8,lt_t hi,lt_t hi',ge_t,cond_t,w64_succ (i:=i) (by omega),Int.toNat_natCast,at_n hi,at_n hi']
  rw[dec_step (drop_eq hi hi')]
  by_cases he:x0[i]=x1[i]
  ·rw[show(x0[i] !=x1[i])=false by simp[he],cond_f,ih,decide_eq_true he,Bool.true_and]
  ·rw[show(x0[i] !=x1[i])=true by simp[he],cond_t,decide_eq_false he,Bool.false_and]
theorem Z1R (x0 x1:List Int)(hx:x0.length≤1152921504606846976):ZM x0 x1=some (decide (x0=x1)):=by
 unfold ZM
 by_cases hl:x0.length=x1.length
 ·simp only[ZM.b,len_eq hl,cond_f]
  have:=Z4d x0 x1 hl hx 0 KK (Nat.zero_le _) (KK_gt (by omega))
  simpa using this
 ·simp only[ZM.b,len_ne hl,cond_t]
  rw[decide_eq_false (fun h=>hl (by rw[h]))]
theorem Z1N (a b:Z6):((a.1==b.1)&&((a.2==b.2)&&true))=decide (a=b):=by
 obtain⟨a1,a2⟩:=a
 obtain⟨b1,b2⟩:=b
 by_cases h1:a1=b1<;>by_cases h2:a2=b2<;>simp[h1,h2]
theorem Z4b (x0 x1:List Z6)(hl:x0.length=x1.length)(hx:x0.length≤1152921504606846976):∀i n,i≤x0.length→x0.length-i<n→ZR.l8 x0 x1 n (x0.length:Int) (i:Int)=some (decide (x0.drop i=x1.drop i)):=by
 refine idx_ind ?_ ?_
 ·intro n
  rw[ZR.u8]
  simp only[ZR.g8,lt_f (Nat.le_refl _),cond_f]
  rw[List.drop_length,hl,List.drop_length];simp
 ·intro i n hi ih
  have hi':i<x1.length:=by omega
  rw[ZR.u8]
  simp only[ZR.g8,lt_t hi,lt_t hi',ge_t,cond_t,w64_succ (i:=i) (by omega),Int.toNat_natCast,at_n hi,at_n hi',Z1N]
  rw[dec_step (drop_eq hi hi')]
  by_cases he:x0[i]=x1[i]
  ·simp only[he,decide_true,Bool.not_true,cond_f,Bool.true_and]
   exact ih
  ·simp only[he,decide_false,Bool.not_false,cond_t,Bool.false_and]
theorem Z4c (x0 x1:List Z6)(hx:x0.length≤1152921504606846976):ZR x0 x1=some (decide (x0=x1)):=by
 unfold ZR
 by_cases hl:x0.length=x1.length
 ·simp only[ZR.b,len_eq hl,cond_f]
  have:=Z4b x0 x1 hl hx 0 KK (Nat.zero_le _) (KK_gt (by omega))
  simpa using this
 ·simp only[ZR.b,len_ne hl,cond_t]
  rw[decide_eq_false (fun h=>hl (by rw[h]))]
theorem Uo (a b:Z8)(hx:a.1.length≤1050000):Xh a b=some (decide (a=b)):=by
 unfold Xh
 rw[Z1R _ _ (by omega),bind_s]
 obtain⟨a1,a2⟩:=a
 obtain⟨b1,b2⟩:=b
 by_cases h1:a1=b1<;>by_cases h2:a2=b2<;>simp[h1,h2]
theorem UH {k k':Z8}{r r':List Int}(h:XW k++r=XW k'++r'):k=k'∧r=r':=by
 unfold XW at h
 simp only[List.cons_append,List.nil_append,List.append_assoc,List.cons.injEq]at h
 obtain⟨h1,h2,h3⟩:=h
 have hl:k.1.length=k'.1.length:=by omega
 obtain⟨h4,h5⟩:=List.append_inj h3 hl
 exact⟨Prod.ext h4 h1,h5⟩
theorem Z0Z {a b:Z4}(h:YD a=YD b):Zd a=Zd b∧Zg a=Zg b∧Zh a=Zh b∧WS a=WS b:=by
 unfold YD at h
 simp only[List.append_assoc]at h
 obtain⟨_,h⟩:=List.append_inj h rfl
 obtain⟨h1,h⟩:=UH h
 obtain⟨h2,h⟩:=UH h
 obtain⟨_,h⟩:=List.append_inj h rfl
 obtain⟨h3,h⟩:=UH h
 exact⟨h1,h2,h3,h⟩
theorem Z2F {a b:Z4}(h:WS a=WS b):((Zp a)==(Zp b))=true:=by
 unfold WS at h
 generalize (Zp a)=p at h⊢
 generalize (Zp b)=q at h⊢
 revert h
 cases p<;>cases q<;>decide
def Wt (a b:Z4):Bool:=decide (YD a=YD b)
theorem Q7 (a b:Z4)(ha:Yx a≤1050000)(hb:Yx b≤1050000):YI a b=some (Wt a b):=by
 unfold YI Wt
 rw[U0 a ha,bind_s,U0 b hb,bind_s,Z0p _ _ (by rw[WL];omega),bind_s]
 by_cases h:YD a=YD b
 ·rw[decide_eq_true h,cond_t,Z2F (Z0Z h).2.2.2]
 ·rw[decide_eq_false h,cond_f]
theorem UW (a b:Z4)(ha:Yx a≤1050000)(hb:Yx b≤1050000):YK a b=some (Wt a b):=by
 have hs:=ha
 unfold Yx WF at hs
 show((Xh (Zd a) (Zd b)).bind fun y1=>bif y1 then(Xh (Zg a) (Zg b)).bind fun y2=>bif y2 then(Xh (Zh a) (Zh b)).bind fun y3=>bif y3 then(YE a).bind fun y4=>(YE b).bind fun y5=>(ZM y4 y5).bind fun y6=>some y6 else some false else some false else some false)=_
 rw[Uo _ _ (by omega),bind_s,Uo _ _ (by omega),bind_s,Uo _ _ (by omega),bind_s,UE a ha,bind_s,UE b hb,bind_s,Z1R _ _ (by rw[WL];omega),bind_s]
 unfold Wt
 by_cases h:YD a=YD b
 ·obtain⟨h1,h2,h3,_⟩:=Z0Z h
  rw[decide_eq_true h1,decide_eq_true h2,decide_eq_true h3,cond_t,cond_t,cond_t]
 ·rw[decide_eq_false h]
  cases decide (Zd a=Zd b)<;>cases decide (Zg a=Zg b)<;>cases decide (Zh a=Zh b)<;>rfl
def Xy (a b:Z0):Bool:=Wt (Z5 a) (Z5 b)&&decide (ZD a=ZD b)
theorem Z3E (x0 x1:Z0)(hl:(ZD x0).length=(ZD x1).length)(hx:(ZD x0).length≤1152921504606846976):∀i n,i≤(ZD x0).length→(ZD x0).length-i<n→Zt.l8 x0 x1 n (i:Int)=some (decide ((ZD x0).drop i=(ZD x1).drop i)):=by
 refine idx_ind ?_ ?_
 ·intro n
  rw[Zt.u8]
  simp only[Zt.g8,lt_f (Nat.le_refl _),cond_f]
  rw[List.drop_length,hl,List.drop_length];simp
 ·intro i n hi ih
  have hi':i<(ZD x1).length:=by omega
  rw[Zt.u8]
  simp only[Zt.g8,lt_t hi,lt_t hi',ge_t,cond_t,w64_succ (i:=i) (by omega),Int.toNat_natCast,at_n hi,at_n hi',Z1N]
  rw[dec_step (drop_eq hi hi')]
  generalize (ZD x0)[i]=p
  generalize (ZD x1)[i]=q
  by_cases he:p=q
  ·simp only[he,decide_true,Bool.not_true,cond_f,Bool.true_and]
   exact ih
  ·simp only[he,decide_false,Bool.not_false,cond_t,Bool.false_and]
theorem Z3F (a b:Z0)(ha:Ym a≤1050000)(hb:Ym b≤1050000):Zt a b=some (Xy a b):=by
 unfold Ym at ha hb
 show((YI (Z5 a) (Z5 b)).bind fun y1=>bif !y1 then some false else bif((ZD a).length:Int) !=((ZD b).length:Int)then some false else Zt.l8 a b KK 0)=_
 rw[Q7 _ _ (by omega) (by omega),bind_s]
 unfold Xy
 cases Wt (Z5 a) (Z5 b)with
 |false=>rw[Bool.not_false,cond_t,Bool.false_and]
 |true=>
  rw[Bool.not_true,cond_f,Bool.true_and]
  by_cases hl:(ZD a).length=(ZD b).length
  ·rw[len_eq hl,cond_f]
   have:=Z3E a b hl (by omega) 0 KK (Nat.zero_le _) (KK_gt (by omega))
   simpa using this
  ·rw[len_ne hl,cond_t,decide_eq_false (fun h=>hl (by rw[h]))]
theorem Qk (a b:Z0)(ha:Ym a≤1050000)(hb:Ym b≤1050000):YR a b=some (Xy a b):=by
 unfold Ym at ha hb
 show((YK (Z5 a) (Z5 b)).bind fun y1=>bif y1 then(ZR (ZD a) (ZD b)).bind fun y2=>some y2 else some false)=_
 rw[UW _ _ (by omega) (by omega),bind_s,Z4c _ _ (by omega),bind_s]
 unfold Xy
 cases Wt (Z5 a) (Z5 b)<;>rfl
def UQ (a b:Zi):Bool:=Xy (ZL a) (ZL b)&&(Xy (Zr a) (Zr b)&&Xy (Zy a) (Zy b))
theorem Z11 (a b:Zi)(ha:XI a≤1050000)(hb:XI b≤1050000):X8 a b=some (UQ a b):=by
 unfold XI at ha hb
 show((YR (ZL a) (ZL b)).bind fun y1=>bif y1 then(YR (Zr a) (Zr b)).bind fun y2=>bif y2 then(YR (Zy a) (Zy b)).bind fun y3=>some y3 else some false else some false)=_
 rw[Qk _ _ (by omega) (by omega),bind_s,Qk _ _ (by omega) (by omega),bind_s,Qk _ _ (by omega) (by omega),bind_s]
 unfold UQ
 cases Xy (ZL a) (ZL b)<;>cases Xy (Zr a) (Zr b)<;>rfl
theorem Q3 (x:Z8)(hx:x.1.length≤1050000):Xr x=some x:=by
 unfold Xr
 rw[decide_eq_true (by simp;omega),cond_t];rfl
theorem Z20 (x:List Int)(hx:x.length≤1050000):Wh x=some x:=by
 have e:(bif decide (([]:List Int).length+x.length<68719476736)then some ([]++x)else none)=some x:=by
  rw[decide_eq_true (by simp;omega),cond_t];rfl
 unfold Wh
 rw[e]
 cases x with
 |nil=>exact both_eq _
 |cons a t=>rfl
theorem QP (x:Z8)(hx:x.1.length≤1050000):XU x=some x:=by
 unfold XU
 rw[Z20 _ hx,bind_s]
theorem Qt (x0:Z4)(hx:Yx x0≤1050000):YO x0=some x0:=by
 unfold Yx WF at hx
 unfold YO
 exact Zc (Q3 _ (by omega)) (Zc (Q3 _ (by omega)) (Zc (Q3 _ (by omega)) rfl))
theorem Z2o (x0:Z4)(hx:Yx x0≤1050000):Xb x0=some x0:=by
 unfold Yx WF at hx
 unfold Xb
 exact Zc (QP _ (by omega)) (Zc (QP _ (by omega)) (Zc (QP _ (by omega)) rfl))
theorem Z1Z (x:List Z6)(hx:x.length≤1050000):Wg x=some x:=by
 have e:(bif decide (([]:List Z6).length+x.length<68719476736)then some ([]++x)else none)=some x:=by
  rw[decide_eq_true (by simp;omega),cond_t];rfl
 unfold Wg
 rw[e]
 cases x with
 |nil=>exact both_eq _
 |cons a t=>rfl
theorem UJ (x0:Z0)(hx:Ym x0≤1050000):Yh x0=some x0:=by
 unfold Ym at hx
 unfold Yh
 exact Zc (Qt _ (by omega)) (cT (decide_eq_true (by simp;omega)) rfl)
theorem Qd (x0:Z0)(hx:Ym x0≤1050000):YQ x0=some x0:=by
 unfold Ym at hx
 unfold YQ
 exact Zc (Z2o _ (by omega)) (Zc (Z1Z _ (by omega)) rfl)
theorem Z2n (x0:Zi)(hx:XI x0≤1050000):Xa x0=some x0:=by
 unfold XI at hx
 unfold Xa
 exact Zc (Qd _ (by omega)) (Zc (Qd _ (by omega)) (Zc (Qd _ (by omega)) rfl))
def Ux (x:Zi):Zi:=XZ (ZL x) (Zy x) (Zr x)
theorem QJ (x:Zi):XI (Ux x)=XI x:=by
 show Ym (ZL x)+(Ym (Zy x)+Ym (Zr x))=Ym (ZL x)+(Ym (Zr x)+Ym (Zy x))
 omega
theorem Z02 (x0:Zi)(hx:XI x0≤1050000):X3 x0=some (Ux x0):=by
 unfold X3
 rw[Z2n _ hx,bind_s];rfl
def Xl (xs:List Int)(k:Int):Bool:=xs.any (fun a=>a==k)
theorem Z3e (x0:List Int)(k:Int)(hx:x0.length≤1152921504606846976):∀i n,i≤x0.length→x0.length-i<n→ZU.l4 x0 k n (i:Int)=some (Xl (x0.drop i) k):=by
 refine idx_ind ?_ ?_
 ·intro n
  rw[ZU.u4]
  simp only[ZU.g4,lt_f (Nat.le_refl _),cond_f,List.drop_length];rfl
 ·intro i n hi ih
  rw[ZU.u4]
  simp only[ZU.g4,lt_t hi,ge_t,cond_t,w64_succ (i:=i) (by omega),Int.toNat_natCast,at_n hi,ih]
  rw[List.drop_eq_getElem_cons hi]
  show _=some ((x0[i]==k)||Xl (x0.drop (i+1)) k)
  cases(x0[i]==k)<;>rfl
theorem Z1k (x0:List Int)(k:Int)(hx:x0.length≤1152921504606846976):ZU x0 k=some (Xl x0 k):=by
 have:=Z3e x0 k hx 0 KK (Nat.zero_le _) (KK_gt (by omega))
 rw[List.drop_zero]at this
 exact this
theorem Z28 (x0:List Int)(k:Int)(hx:x0.length≤1152921504606846976):∀i n,i≤x0.length→x0.length-i<n→Ye.l4 x0 k n (x0.length:Int) (i:Int)=some (Wa (fun a=>a==k) (x0.drop i) (i:Int)):=by
 refine idx_ind ?_ ?_
 ·intro n
  rw[Ye.u4]
  simp only[Ye.g4,lt_f (Nat.le_refl _),cond_f,QU]
 ·intro i n hi ih
  rw[Ye.u4]
  simp only[Ye.g4,lt_t hi,ge_t,cond_t,w64_succ (i:=i) (by omega),Int.toNat_natCast,at_n hi,QV _ hi,ih]
  rw[Bool.beq_comm]
  cases(x0[i]==k)<;>rfl
theorem Z24 (x0:List Int)(k:Int)(hx:x0.length≤1152921504606846976):Wj x0 k=some (Xl x0 k):=by
 have h:=Z28 x0 k hx 0 KK (Nat.zero_le _) (KK_gt (by omega))
 rw[List.drop_zero]at h
 have e:Ye x0 k=some (Wa (fun a=>a==k) x0 0):=h
 unfold Wj
 rw[e,bind_s,Z0S _ _ _ (Int.le_refl 0)];rfl
def U7 (sk:List Int)(m:List Int):List Int→List Z6→List Z6
 |[],acc=>acc
 |k::ks,acc=>U7 sk m ks (bif Xl sk k then acc++[(k,Un k m)]else acc)
theorem Z4a (sk m:List Int){ks:List Int}{i:Nat}(h:i<ks.length)(acc:List Z6):U7 sk m (ks.drop i) acc=U7 sk m (ks.drop (i+1)) (bif Xl sk ks[i]then acc++[(ks[i],Un ks[i] m)]else acc):=by
 rw[List.drop_eq_getElem_cons h];rfl
theorem Z49 (sk m ks:List Int)(acc:List Z6):U7 sk m (ks.drop ks.length) acc=acc:=by
 rw[List.drop_length];rfl
theorem Z1Q (sk m ks:List Int):∀acc:List Z6,(U7 sk m ks acc).length≤acc.length+ks.length:=by
 induction ks with
 |nil=>intro acc;exact Nat.le_refl _
 |cons k ks ih=>
  intro acc
  show(U7 sk m ks (bif Xl sk k then acc++[(k,Un k m)]else acc)).length≤_
  refine Nat.le_trans (ih _) ?_
  cases Xl sk k with
  |true=>rw[cond_t,List.length_append,List.length_cons];simp;omega
  |false=>rw[cond_f,List.length_cons];omega
theorem Z40 (sk:List Int)(x1:Z8)(m:List Int)(hs:sk.length≤1050000)(hk:x1.1.length≤1050000)(hm:m.length≤8388608):∀i n,i≤x1.1.length→x1.1.length-i<n→∀acc:List Z6,acc.length≤i→ZT.l6 sk x1 m n (i:Int) acc=some (U7 sk m (x1.1.drop i) acc):=by
 refine idx_ind ?_ ?_
 ·intro n acc ha
  rw[ZT.u6]
  simp only[ZT.g6,lt_f (Nat.le_refl _),cond_f,Z49]
 ·intro i n hi ih acc ha
  rw[ZT.u6]
  simp only[ZT.g6,lt_t hi,ge_t,cond_t,bind_s,w64_succ (i:=i) (by omega),Int.toNat_natCast,at_n hi,Z1k _ _ (show sk.length≤1152921504606846976 by omega),Z1L _ _ hm,Z4a _ _ hi]
  cases Xl sk x1.1[i]with
  |true=>
   rw[cond_t,cond_t,decide_eq_true (by simp;omega),cond_t]
   exact ih _ (by rw[List.length_append];simp;omega)
  |false=>rw[cond_f,cond_f];exact ih _ (by omega)
theorem Z1J (sk:List Int)(x1:Z8)(m:List Int)(hs:sk.length≤1050000)(hk:x1.1.length≤1050000)(hm:m.length≤8388608):ZT sk x1 m=some (U7 sk m x1.1 []):=by
 have:=Z40 sk x1 m hs hk hm 0 KK (Nat.zero_le _) (KK_gt (by omega)) [] (Nat.le_refl _)
 rw[List.drop_zero]at this
 exact this
def Z1O (sk:List Int)(k:Z8)(h:Z4):Z0:=Up h (U7 sk (YD h) k.1 [])
theorem Z41 (sk:List Int)(k:Z8)(h:Z4)(hs:sk.length≤1050000)(hk:k.1.length≤1050000)(hh:Yx h≤1050000):YL sk k h=some (Z1O sk k h):=by
 unfold YL
 rw[Qt _ hh,bind_s,U0 _ hh,bind_s,Z1J _ _ _ hs hk (by rw[WL];omega),bind_s];rfl
theorem aB {e f:Option Bool}{b c:Bool}(h:e=some b)(hf:f=some c):(e.bind fun y=>bif y then f else some false)=some (b&&c):=by
 rw[h,bind_s,hf];cases b<;>rfl
theorem aC {f:Option Bool}{c d:Bool}(hf:f=some d):(bif c then f else some false)=some (c&&d):=by
 rw[hf];cases c<;>rfl
theorem aL {α:Type}{e:Option α}{b:α}(h:e=some b):(e.bind fun y=>some y)=some b:=by rw[h,bind_s]
theorem Uw {xs:List Z0}{i:Nat}(h:i<xs.length){n:Nat}(hx:YH xs≤n):Ym xs[i]≤n:=by
 have:=Z0l Ym h
 unfold YH X7 at hx
 omega
theorem QQ {xs:List Z7}{i:Nat}(h:i<xs.length){n:Nat}(hx:Yj xs≤n):YN xs[i]≤n:=by
 have:=Z0l YN h
 unfold Yj X7 at hx
 omega
def UO (k:Z8)(s:Int):Int:=([(239:Int),s]++XW k).foldl Ug 11
theorem Z1M (k:Z8)(s:Int)(hk:k.1.length≤1050000):XO k s=some (UO k s):=by
 have hl:=UI k
 unfold XO UO
 rw[QD k hk,bind_s,decide_eq_true (by simp[hl];omega),cond_t,Uv _ (by simp[hl];omega),bind_s]
theorem Z2X (k:Z8)(s:Int)(hk:k.1.length≤1050000):We k s=some (UO k s):=by
 have hl:=UI k
 unfold We UO
 rw[Qm k hk,bind_s,decide_eq_true (by simp[hl];omega),cond_t,QY _ (by simp[hl];omega),bind_s]
noncomputable def UG (k:Z8)(m:List Int)(sg:List Z6):Bool:=W4 k&&decide (WW (XB sg m) k.1 0≥k.2)
theorem Z1F (k:Z8)(m:List Int)(sg:List Z6)(hk:k.1.length≤1050000)(hs:sg.length≤1050000)(hm:m.length≤8388608):XL k m sg=some (UG k m sg):=by
 unfold XL UG
 exact aB (UN k hk) (Zc (Z3C k m sg hk hs hm) rfl)
theorem Z2Q (k:Z8)(m:List Int)(sg:List Z6)(hk:k.1.length≤1050000)(hs:sg.length≤1050000)(hm:m.length≤8388608):Wb k m sg=some (UG k m sg):=by
 unfold Wb UG
 exact aB (Ql k hk) (Zc (Z2J k m sg hk hs hm) rfl)
noncomputable def Wx (s:Z0)(k:Z8):Bool:=UG k (YD (Z5 s)) (ZD s)
theorem QX (x:Z4)(hx:Yx x≤1050000):(YD x).length≤8388608:=by rw[WL];omega
theorem Qq (s:Z0)(k:Z8)(hs:Ym s≤1050000)(hk:k.1.length≤1050000):YM s k=some (Wx s k):=by
 unfold Ym at hs
 unfold YM Wx
 exact Zc (UE _ (by omega)) (aL (Z2Q _ _ _ hk (by omega) (QX _ (by omega))))
noncomputable def W2 (s:Z0):Bool:=Xo (Z5 s)&&(Ya (Z5 s)==(0:Int)&&(Yw (Z5 s)==(1:Int)&&(!(Zp (Z5 s))&&(ZC (Z5 s)==UO (Zd (Z5 s)) (YU (Z5 s))&&Wx s (Zd (Z5 s))))))
theorem Z0e (s:Z0)(hs:Ym s≤1050000):YZ s=some (W2 s):=by
 unfold Ym at hs
 have hk:(Zd (Z5 s)).1.length≤1050000:=by unfold Yx WF at hs;omega
 unfold YZ W2
 exact aB (QC _ (by omega)) (aC (aC (aC (Zc (Z1M _ _ hk) (aC (Zc (U0 _ (by omega)) (aL (Z1F _ _ _ hk (by omega) (QX _ (by omega))))))))))
theorem QZ (s:Z0)(hs:Ym s≤1050000):YW s=some (W2 s):=by
 have hs':=hs
 unfold Ym at hs'
 have hk:(Zd (Z5 s)).1.length≤1050000:=by unfold Yx WF at hs';omega
 unfold YW W2
 exact aB (Z00 _ (by omega)) (aC (aC (aC (Zc (Z2X _ _ hk) (aC (aL (Qq _ _ hs hk)))))))
theorem QB (a b:Z8)(hx:a.1.length≤1050000):XA a b=some (decide (a=b)):=by
 unfold XA
 refine(aC (aL (Z0p _ _ (by omega)))).trans ?_
 obtain⟨a1,a2⟩:=a
 obtain⟨b1,b2⟩:=b
 by_cases h1:a1=b1<;>by_cases h2:a2=b2<;>simp[h1,h2]
def Ul (a b:Z4):Bool:=YJ a==YJ b&&YF a==YF b
theorem Z1I (a b:Z4):X4 a b=some (Ul a b):=aC rfl
theorem Z17 (a b:Z4):X2 a b=some (Ul a b):=aC rfl
def UM (p h:Z4):Int:=bif Zp p then 4 else bif Zp h then 6 else 1
def Z07 (p h:Z4):Bool:=Xu (Zg p)||decide ((ZK h)<(IntKind.i64.wrap ((YB p)+(ZQ p))))
def UU (p h:Z4):Int:=bif Zp p then 4 else bif Z07 p h then 5 else bif Zp h||(!decide (Zd h=Zg p)|| !Ul h p)then 6 else 1
def UY (p h:Z4):Int:=bif Xu (Zh p)then 5 else bif(Zp h==Zp p)|| !(Ul h p&&(decide (Zh h=Zh p)&&(decide (Zg h=Zg p)&&(ZQ h==ZQ p))))then 6 else bif Zp h&& !decide (Zd h=Zd p)then 6 else 1
theorem Z3Y (p h:Z4):Xf p h=some (UM p h):=by
 unfold Xf UM
 cases Zp p<;>cases Zp h<;>rfl
theorem Uf (h:Z4)(hx:Yx h≤1050000):(Zd h).1.length≤1050000∧(Zg h).1.length≤1050000∧(Zh h).1.length≤1050000:=by
 unfold Yx WF at hx;omega
theorem Z3N (p h:Z4)(hh:Yx h≤1050000):ZZ p h=some (UU p h):=by
 have hk:=(Uf h hh).1
 unfold ZZ UU Z07
 simp only[ZZ.b,ZZ.l9,ZZ.g9,QE,QB _ _ hk,Z1I,bind_s]
 generalize decide ((ZK h)<(IntKind.i64.wrap ((YB p)+(ZQ p))))=a
 generalize decide (Zd h=Zg p)=b
 cases Zp p<;>cases Xu (Zg p)<;>cases a<;>cases Zp h<;>cases b<;>cases Ul h p<;>rfl
theorem Z3R (p h:Z4)(hh:Yx h≤1050000):Y0 p h=some (UY p h):=by
 have hk:=Uf h hh
 unfold Y0 UY
 simp only[Y0.b,Y0.l9,Y0.g9,QE,QB _ _ hk.1,QB _ _ hk.2.1,QB _ _ hk.2.2,Z1I,bind_s,bne]
 generalize (ZQ h==ZQ p)=w
 generalize (Zp h==Zp p)=q
 generalize decide (Zh h=Zh p)=a
 generalize decide (Zg h=Zg p)=b
 generalize decide (Zd h=Zd p)=d
 cases Xu (Zh p)<;>cases q<;>cases Ul h p<;>cases a<;>cases b<;>cases w<;>cases Zp h<;>cases d<;>rfl
def U5 (code:Int)(b:Bool):Int:=bif code==(1:Int)then(bif b then code else 7)else code
noncomputable def Uh (p h:Z4):Bool:=ZC h==ZC p&&(Ya h==IntKind.i64.wrap ((Ya p)+(1:Int))&&(YU h==UD p&&decide (ZK h≥ZK p)))
theorem Z32 (p h:Z4)(hp:Yx p≤1050000):Xc p h=some (Uh p h):=by
 unfold Xc Uh
 exact aC (aC (Zc (Z2O p hp) (aC rfl)))
noncomputable def Q1 (p:Z4)(s:Z0):Int:=
 bif Yw (Z5 s)==(2:Int)then U5 (UU p (Z5 s)) (Wx s (Zg p))else bif Yw (Z5 s)==(3:Int)then U5 (UY p (Z5 s)) (Wx s (Zh p))else U5 (UM p (Z5 s)) (Wx s (Zd p))
noncomputable def WZ (p:Z4)(s:Z0):Int:=
 bif !(Xo p&&Xo (Z5 s))then 2 else bif !Uh p (Z5 s)then 3 else Q1 p s
theorem Z2A (c:Int)(b:Bool):(bif c==(1:Int)then(bif !b then some (7:Int)else some c)else some c)=some (U5 c b):=by
 unfold U5
 cases(c==(1:Int))<;>cases b<;>rfl
theorem Z0i (s:Z0)(c:Int)(k:Z8)(hs:Ym s≤1050000)(hk:k.1.length≤1050000):Zk.l31 s c k.1 k.2=some (U5 c (Wx s k)):=by
 unfold Ym at hs
 unfold Zk.l31
 simp only[Zk.g31,U0 _ (show Yx (Z5 s)≤1050000 by omega),Z1F k _ _ hk (show(ZD s).length≤1050000 by omega) (QX (Z5 s) (by omega)),bind_s]
 exact Z2A c _
theorem Z1G (p:Z4)(s:Z0)(hp:Yx p≤1050000)(hs:Ym s≤1050000):Zk p s=some (WZ p s):=by
 have hs':=hs
 unfold Ym at hs'
 have hk:=Uf p hp
 unfold Zk WZ Uh
 simp only[Zk.b,Zk.l9,Zk.g9,Zk.l13,Zk.g13,QC p hp,QC (Z5 s) (show _≤1050000 by omega),Z1B p hp,Z3Y,Z3N p (Z5 s) (by omega),Z3R p (Z5 s) (by omega),Z0i s _ _ hs hk.1,Z0i s _ _ hs hk.2.1,Z0i s _ _ hs hk.2.2,bind_s,Uq,bne]
 show some _=some _
 unfold Q1
 congr 1
 generalize (ZC (Z5 s)==ZC p)=a
 generalize (Ya (Z5 s)==IntKind.i64.wrap ((Ya p)+(1:Int)))=b
 generalize (YU (Z5 s)==UD p)=c
 have e:decide ((ZK (Z5 s))<(ZK p))= !decide (ZK (Z5 s)≥ZK p):=by
  by_cases h:ZK (Z5 s)<ZK p
  ·rw[decide_eq_true h,decide_eq_false (by omega)];rfl
  ·rw[decide_eq_false h,decide_eq_true (by omega)];rfl
 rw[e]
 generalize decide (ZK (Z5 s)≥ZK p)=d
 cases Xo p<;>cases Xo (Z5 s)<;>cases a<;>cases b<;>cases c<;>cases d<;>rfl
theorem Z2U (p:Z4)(s:Z0)(hp:Yx p≤1050000)(hs:Ym s≤1050000):Xd p s=some (U5 (UM p (Z5 s)) (Wx s (Zd p))):=by
 have hk:=Uf p hp
 unfold Xd UM
 rw[Qq s _ hs hk.1,bind_s]
 cases Zp p<;>cases Zp (Z5 s)<;>cases Wx s (Zd p)<;>rfl
theorem Z2P (p:Z4)(s:Z0)(hp:Yx p≤1050000)(hs:Ym s≤1050000):Zw p s=some (U5 (UU p (Z5 s)) (Wx s (Zg p))):=by
 have hk:=Uf p hp
 have hs':=hs
 unfold Ym at hs'
 have hq:=Uf (Z5 s) (by omega)
 unfold Zw UU Z07
 simp only[Zw.b,Zw.l11,Zw.g11,Zw.l15,Zw.g15,Qn,Uo _ _ hq.1,Z17,Qq s _ hs hk.2.1,bind_s]
 generalize decide ((ZK (Z5 s))<(IntKind.i64.wrap ((YB p)+(ZQ p))))=a
 generalize decide (Zd (Z5 s)=Zg p)=b
 generalize Wx s (Zg p)=c
 cases Zp p<;>cases Xu (Zg p)<;>cases a<;>cases Zp (Z5 s)<;>cases b<;>cases Ul (Z5 s) p<;>cases c<;>rfl
theorem Z2R (p:Z4)(s:Z0)(hp:Yx p≤1050000)(hs:Ym s≤1050000):Zx p s=some (U5 (UY p (Z5 s)) (Wx s (Zh p))):=by
 have hk:=Uf p hp
 have hs':=hs
 unfold Ym at hs'
 have hq:=Uf (Z5 s) (by omega)
 unfold Zx UY
 simp only[Zx.b,Zx.l7,Zx.g7,Zx.l13,Zx.g13,Qn,Uo _ _ hq.1,Uo _ _ hq.2.1,Uo _ _ hq.2.2,Z17,Qq s _ hs hk.2.2,bind_s]
 generalize (ZQ (Z5 s)==ZQ p)=w
 generalize (Zp (Z5 s)==Zp p)=q
 generalize decide (Zh (Z5 s)=Zh p)=a
 generalize decide (Zg (Z5 s)=Zg p)=b
 generalize decide (Zd (Z5 s)=Zd p)=d
 generalize Wx s (Zh p)=c
 cases Xu (Zh p)<;>cases q<;>cases Ul (Z5 s) p<;>cases a<;>cases b<;>cases w<;>cases Zp (Z5 s)<;>cases d<;>cases c<;>rfl
theorem Z18 (x:Z4)(h:Xo x=true):Yw x=1∨Yw x=2∨Yw x=3:=by
 unfold Xo UV at h
 simp only[Bool.and_eq_true]at h
 have h1:=h.1.2.2.2.2
 unfold Xn at h1
 simp only[Bool.and_eq_true,decide_eq_true_eq]at h1
 omega
theorem Z2T (p:Z4)(s:Z0)(hp:Yx p≤1050000)(hs:Ym s≤1050000):ZV p s=some (WZ p s):=by
 have hs':=hs
 unfold Ym at hs'
 unfold ZV WZ
 simp only[ZV.b,ZV.l5,ZV.g5,Z00 p hp,Z00 (Z5 s) (show _≤1050000 by omega),Z32 p _ hp,Z2U p s hp hs,Z2P p s hp hs,Z2R p s hp hs,bind_s]
 cases h1:Xo p with
 |false=>rfl
 |true=>
  cases h2:Xo (Z5 s)with
  |false=>rfl
  |true=>
   cases Uh p (Z5 s)with
   |false=>rfl
   |true=>
    show _=some (Q1 p s)
    unfold Q1
    rcases Z18 _ h2 with h|h|h<;>rw[h]<;>rfl
noncomputable def Ww (p:Z4)(s:Z0):Bool:=WZ p s==(1:Int)
theorem Z0h (p:Z4)(s:Z0)(hp:Yx p≤1050000)(hs:Ym s≤1050000):X0 p s=some (Ww p s):=Zc (Z1G p s hp hs) rfl
theorem Z01 (p:Z4)(s:Z0)(hp:Yx p≤1050000)(hs:Ym s≤1050000):YY p s=some (Ww p s):=Zc (Z2T p s hp hs) rfl
noncomputable def fw :Option Z4→List Z0→Int→Int
 |_,[],_=> -1
 |none,s::t,k=>bif !W2 s then k else fw (some (Z5 s)) t (k+1)
 |some p,s::t,k=>bif !Ww p s then k else fw (some (Z5 s)) t (k+1)
def WU (xs:List Z0):Nat→Option Z4
 |0=>none
 |j+1=>some (Z5 (xs.getD j Zl))
theorem Z0W (o:Option Z4)(xs:List Z0)(k:Int):fw o (xs.drop xs.length) k= -1:=by
 rw[List.drop_length]
 cases o<;>rfl
theorem Qi {xs:List Z0}(h:0<xs.length):fw none (xs.drop 0) 0=bif !W2 xs[0]then 0 else fw (WU xs 1) (xs.drop 1) 1:=by
 rw[List.drop_eq_getElem_cons h]
 show _=bif !W2 xs[0]then 0 else fw (some (Z5 (xs.getD 0 Zl))) (xs.drop 1) 1
 rw[at_n h];rfl
theorem Qh {xs:List Z0}{j:Nat}(h:j+1<xs.length):fw (WU xs (j+1)) (xs.drop (j+1)) ((j+1:Nat):Int)=bif !Ww (Z5 xs[j]) xs[j+1]then((j+1:Nat):Int)else fw (WU xs (j+2)) (xs.drop (j+2)) ((j+2:Nat):Int):=by
 rw[List.drop_eq_getElem_cons h]
 show fw (some (Z5 (xs.getD j Zl))) _ _=bif !Ww (Z5 xs[j]) xs[j+1]then((j+1:Nat):Int)else fw (some (Z5 (xs.getD (j+1) Zl))) (xs.drop (j+2)) ((j+2:Nat):Int)
 rw[at_n h,at_n (show j<xs.length by omega)];rfl
theorem Us {xs:List Z0}{i:Nat}(h:i<xs.length){n:Nat}(hx:YH xs≤n):Yx (Z5 xs[i])≤n:=by
 have:=Uw h hx
 unfold Ym at this
 omega
theorem Z3I (x0:List Z0)(hx:YH x0≤1050000):∀i n,i≤x0.length→x0.length-i<n→Y7.l4 x0 n (i:Int)=some (fw (WU x0 i) (x0.drop i) (i:Int)):=by
 have hl:x0.length≤1050000:=by unfold YH X7 at hx;omega
 refine idx_ind ?_ ?_
 ·intro n
  rw[Y7.u4]
  simp only[Y7.g4,lt_f (Nat.le_refl _),cond_f,Z0W]
 ·intro i n hi ih
  rw[Y7.u4]
  match i,hi,ih with
  |0,hi,ih=>
   have e:=Qi hi
   have hg:x0.getD ((0:Int).toNat) Zl=x0[0]:=at_n hi _
   simp only[Y7.g4,lt_t hi,cond_t,Int.natCast_zero,beq_self_eq_true,decide_eq_true (Int.le_refl 0),hg,Z0e _ (Uw hi hx),bind_s]
   rw[decide_eq_true (show(0:Int)<(x0.length:Int) by omega),cond_t,cond_t,wd (n:=(0:Int)+1) (by omega),decide_eq_false (by omega),cond_f,show(0:Int)+1=((0+1:Nat):Int)from rfl,ih]
   rw[show WU x0 0=none from rfl,e,Uq];rfl
  |j+1,hi,ih=>
   have e:=Qh hi
   have hj:j<x0.length:=by omega
   have ew:IntKind.i64.wrap (((j+1:Nat):Int)-1)=(j:Int):=by rw[wd (by omega)];omega
   simp only[Y7.g4,lt_t hi,cond_t,ew,ge_t,lt_t hj,Int.toNat_natCast,at_n hi,at_n hj,Z0h _ _ (Us hj hx) (Uw hi hx),bind_s]
   rw[show(((j+1:Nat):Int)==(0:Int))=false by rw[beq_eq_false_iff_ne];omega,cond_f,decide_eq_true (by omega),cond_t,w64_succ (by omega),ih,e,Uq]
theorem Z2K (x0:List Z0)(hx:YH x0≤1050000):∀i n,i≤x0.length→x0.length-i<n→Y4.l4 x0 n (x0.length:Int) (i:Int)=some (fw (WU x0 i) (x0.drop i) (i:Int)):=by
 have hl:x0.length≤1050000:=by unfold YH X7 at hx;omega
 refine idx_ind ?_ ?_
 ·intro n
  rw[Y4.u4]
  simp only[Y4.g4,lt_f (Nat.le_refl _),cond_f,Z0W]
 ·intro i n hi ih
  rw[Y4.u4]
  match i,hi,ih with
  |0,hi,ih=>
   have e:=Qi hi
   have hg:x0.getD ((0:Int).toNat) Zl=x0[0]:=at_n hi _
   simp only[Y4.g4,lt_t hi,cond_t,Int.natCast_zero,beq_self_eq_true,decide_eq_true (Int.le_refl 0),hg,QZ _ (Uw hi hx),bind_s]
   rw[decide_eq_true (show(0:Int)<(x0.length:Int) by omega),cond_t,cond_t,wd (n:=(0:Int)+1) (by omega),decide_eq_false (by omega),cond_f,show(0:Int)+1=((0+1:Nat):Int)from rfl,ih]
   rw[show WU x0 0=none from rfl,e,Uq];rfl
  |j+1,hi,ih=>
   have e:=Qh hi
   have hj:j<x0.length:=by omega
   have ew:IntKind.i64.wrap (((j+1:Nat):Int)-1)=(j:Int):=by rw[wd (by omega)];omega
   simp only[Y4.g4,lt_t hi,cond_t,ew,ge_t,lt_t hj,Int.toNat_natCast,at_n hi,at_n hj,Z01 _ _ (Us hj hx) (Uw hi hx),bind_s]
   rw[show(((j+1:Nat):Int)==(0:Int))=false by rw[beq_eq_false_iff_ne];omega,cond_f,decide_eq_true (by omega),cond_t,w64_succ (by omega),ih,e,Uq]
noncomputable def Xm (xs:List Z0):Bool:=Xn (xs.length:Int) 1 12&&decide (fw none xs 0<0)
theorem Z3J (x0:List Z0)(hx:YH x0≤1050000):Y7 x0=some (fw none x0 0):=
 Z3I x0 hx 0 KK (Nat.zero_le _) (KK_gt (by unfold YH X7 at hx;omega))
theorem Z2L (x0:List Z0)(hx:YH x0≤1050000):Y4 x0=some (fw none x0 0):=
 Z2K x0 hx 0 KK (Nat.zero_le _) (KK_gt (by unfold YH X7 at hx;omega))
theorem Z0d (x0:List Z0)(hx:YH x0≤1050000):XD x0=some (Xm x0):=by
 unfold XD Xm
 exact aB (Qu _ _ _) (Zc (Z3J x0 hx) rfl)
theorem Z14 (x0:List Z0)(hx:YH x0≤1050000):W0 x0=some (Xm x0):=by
 unfold W0 Xm
 exact aB (QK _ _ _) (Zc (Z2L x0 hx) rfl)
theorem UF (xs:List Z0)(h:Xm xs=true):1≤xs.length∧xs.length≤12:=by
 unfold Xm Xn at h
 simp only[Bool.and_eq_true,decide_eq_true_eq]at h
 omega
noncomputable def W3 (x:Zi):Bool:=
 !Wt (Z5 (Zr x)) (Z5 (Zy x))&&(bif Xy (ZL x) Zl then W2 (Zr x)&&(W2 (Zy x)&&(ZC (Z5 (Zr x))==ZC (Z5 (Zy x))))else Ww (Z5 (ZL x)) (Zr x)&&Ww (Z5 (ZL x)) (Zy x))
theorem Z0f (x:Zi)(hx:XI x≤1050000):YT x=some (W3 x):=by
 unfold XI at hx
 have hb:Yx (Z5 (ZL x))≤1050000:=by unfold Ym at hx;omega
 have ha:Yx (Z5 (Zr x))≤1050000:=by unfold Ym at hx;omega
 have hc:Yx (Z5 (Zy x))≤1050000:=by unfold Ym at hx;omega
 unfold YT W3
 refine Zc (Q7 _ _ ha hc) ?_
 cases Wt (Z5 (Zr x)) (Z5 (Zy x))with
 |true=>rfl
 |false=>
  refine Zc (Z3F _ _ (by omega) (show 0≤1050000 by omega)) ?_
  cases Xy (ZL x) Zl with
  |true=>simp only[cond_t,cond_f,Bool.not_false,Bool.true_and];exact aB (Z0e _ (by omega)) (aB (Z0e _ (by omega)) rfl)
  |false=>simp only[cond_t,cond_f,Bool.not_false,Bool.true_and];exact aB (Z0h _ _ hb (by omega)) (aL (Z0h _ _ hb (by omega)))
theorem UX (x:Zi)(hx:XI x≤1050000):YP x=some (W3 x):=by
 unfold XI at hx
 have hb:Yx (Z5 (ZL x))≤1050000:=by unfold Ym at hx;omega
 have ha:Yx (Z5 (Zr x))≤1050000:=by unfold Ym at hx;omega
 have hc:Yx (Z5 (Zy x))≤1050000:=by unfold Ym at hx;omega
 unfold YP W3
 refine Zc (UW _ _ ha hc) ?_
 cases Wt (Z5 (Zr x)) (Z5 (Zy x))with
 |true=>rfl
 |false=>
  refine Zc (Qk _ _ (by omega) (show 0≤1050000 by omega)) ?_
  cases Xy (ZL x) Zl with
  |true=>simp only[cond_t,cond_f,Bool.not_false,Bool.true_and];exact aB (QZ _ (by omega)) (aB (QZ _ (by omega)) rfl)
  |false=>simp only[cond_t,cond_f,Bool.not_false,Bool.true_and];exact aB (Z01 _ _ hb (by omega)) (aL (Z01 _ _ hb (by omega)))
noncomputable def US (x:Zi):Int:=bif W3 x then ZC (Z5 (Zr x))else-1
theorem Z3L (x:Zi)(hx:XI x≤1050000):Xe x=some (US x):=by
 unfold Xe US
 refine Zc (Z0f x hx) ?_
 cases W3 x<;>rfl
theorem Z13 (x:Zi)(hx:XI x≤1050000):X6 x=some (US x):=by
 unfold X6 US
 refine Zc (UX x hx) ?_
 cases W3 x<;>rfl
theorem Uc (xs:List Z0)(i:Nat)(n:Nat)(hx:YH xs≤n):Yx (Z5 (xs.getD i Zl))≤n:=by
 by_cases h:i<xs.length
 ·rw[at_n h];exact Us h hx
 ·have e:xs.getD i Zl=Zl:=by simp[List.getD,show xs.length≤i by omega]
  rw[e];exact Nat.zero_le _
theorem Z1i (x:List ByteArray)(hx:x.length≤1050000):XS x=some x:=by
 unfold XS
 rw[decide_eq_true (by simp;omega),cond_t];rfl
theorem Z2v (e:Z7)(hx:YN e≤1050000):e.2.2.2.length≤1050000:=by
 unfold YN XX X7 at hx;omega
theorem Qv (e:Z7)(hx:YN e≤1050000):Xz e=some e:=by
 unfold Xz
 exact Zc (Z1i _ (Z2v e hx)) rfl
theorem Z2b (c:Bool)(h:Z4):Uz (bif c then U2 h true else U3)=c∧(c=true→Zq (bif c then U2 h true else U3)=h):=by
 cases c
 ·exact⟨rfl,fun h=>Bool.noConfusion h⟩
 ·exact⟨rfl,fun _=>rfl⟩
theorem Z0K {α:Type}(xs:List α)(d:α)(f:α→Option α)(hl:xs.length≤1050000)(hf:∀i (h:i<xs.length),f xs[i]=some xs[i])(l:Nat→List α→Int→Option (List α))(u:∀n ys a,l (n+1) ys a=(bif decide (a<(xs.length:Int))then bif decide (0≤a)then bif decide (a<(xs.length:Int))then(f (xs.getD a.toNat d)).bind fun y1=>bif decide (ys.length+[y1].length<68719476736)then l n (ys++[y1]) (IntKind.i64.wrap (a+(1:Int)))else none else none else none else some ys)):l KK [] (0:Int)=some xs:=by
 have hh:∀i n,i≤xs.length→xs.length-i<n→l n (xs.take i) (i:Int)=some xs:=by
  refine idx_ind ?_ ?_
  ·intro n
   rw[u]
   simp only[lt_f (Nat.le_refl _),cond_f,List.take_length]
  ·intro i n hi ih
   rw[u]
   have hg:(xs.take i).length+[xs[i]].length<68719476736:=by rw[List.length_take];show _+1<_;omega
   simp only[lt_t hi,ge_t,cond_t,Int.toNat_natCast,at_n hi,hf i hi,bind_s,w64_succ (i:=i) (by omega),List.take_append_getElem hi]
   rw[decide_eq_true hg,cond_t]
   exact ih
 have:=hh 0 KK (Nat.zero_le _) (KK_gt (by omega))
 rw[List.take_zero]at this
 exact this
def Uj (xs:List Z0):Z0:=xs.getD (IntKind.i64.wrap ((xs.length:Int)-(1:Int))).toNat Zl
noncomputable def UK (xs:List Z0):XE:=bif Xm xs then U2 (Z5 (Uj xs)) true else U3
theorem wl {n:Nat}(h:1≤n∧n≤12):IntKind.i64.wrap ((n:Int)-(1:Int))=(n:Int)-1:=wd (by omega)
theorem Z1o (xs:List Z0)(hx:YH xs≤1050000):Yx (Z5 (Uj xs))≤1050000:=Uc xs _ _ hx
theorem Z3T (xs:List Z0)(hx:YH xs≤1050000):Wo xs=some (UK xs):=by
 unfold Wo UK
 refine Zc (Z0d xs hx) ?_
 cases hc:Xm xs with
 |false=>rfl
 |true=>
  have hl:=UF xs hc
  exact cF rfl (cT (decide_eq_true (by rw[wl hl];omega)) (cT (decide_eq_true (by rw[wl hl];omega)) (Zc (Qt _ (Z1o xs hx)) rfl)))
theorem Q2 (xs:List Z0)(hx:YH xs≤1050000):Y3 xs=some xs:=
 Z0K xs Zl Yh (by unfold YH X7 at hx;omega) (fun i h=>UJ _ (Uw h hx)) (fun n ys a=>Y3.l6 xs n a ys) (fun n ys a=>Y3.u6 xs n a ys)
noncomputable def Qf (xs:List Z0)(s:Z0)(v:Bool):List Z0×Int:=bif v then(xs,2)else bif WZ (Z5 (Uj xs)) s !=(1:Int)then(xs,WZ (Z5 (Uj xs)) s)else(xs++[s],1)
noncomputable def ext (xs:List Z0)(s:Z0):List Z0×Int:=Qf xs s (!Xm xs||decide ((xs.length:Int)≥(12:Int)))
theorem Z1n (xs:List Z0):Uz (UK xs)=Xm xs∧(Xm xs=true→Zq (UK xs)=Z5 (Uj xs)):=Z2b (Xm xs) (Z5 (Uj xs))
theorem Z2f (xs:List Z0)(s:Z0)(hx:YH xs≤1050000):decide (xs.length+[s].length<68719476736)=true:=by
 refine decide_eq_true ?_
 show xs.length+1<_
 unfold YH X7 at hx
 omega
theorem Z3G (xs:List Z0)(s:Z0)(hx:YH xs≤1050000)(hs:Ym s≤1050000)(hc:Xm xs=true)(v:Bool):ZY.l7 xs s (UK xs) v=some (Qf xs s v):=by
 unfold Qf
 cases v with
 |true=>exact Zc (Q2 xs hx) rfl
 |false=>
  show((Zk (Zq (UK xs)) s).bind _)=_
  rw[(Z1n xs).2 hc]
  refine Zc (Z1G _ s (Z1o xs hx) hs) ?_
  cases WZ (Z5 (Uj xs)) s !=(1:Int)with
  |true=>exact Zc (Q2 xs hx) rfl
  |false=>exact Zc (Q2 xs hx) (Zc (UJ s hs) (cT (Z2f xs s hx) rfl))
theorem Z1z (xs:List Z0)(s:Z0)(hx:YH xs≤1050000)(hs:Ym s≤1050000):ZY xs s=some (ext xs s):=by
 unfold ext
 refine Zc (Z3T xs hx) ?_
 rw[(Z1n xs).1]
 cases hc:Xm xs with
 |false=>exact Zc (Q2 xs hx) rfl
 |true=>exact Z3G xs s hx hs hc _
def hq (s t:Z0):Bool:=Wt (Z5 s) (Z5 t)
theorem Z2H (s t:Z0):hq s t=hq t s:=by
 unfold hq Wt
 exact decide_eq_decide.2 ⟨Eq.symm,Eq.symm⟩
def WP (a b:List Z0):Bool:=decide (a.length≤b.length)&&all2 hq a b
def YS :List Z0→List Z0→Nat
 |x::xs,y::ys=>bif hq x y then YS xs ys+1 else 0
 |_,_=>0
theorem Z0t :∀(a b:List Z0),all2 hq a b=all2 hq b a
 |[],[]=>rfl
 |[],_::_=>rfl
 |_::_,[]=>rfl
 |x::xs,y::ys=>by
  unfold all2
  rw[Z2H x y,Z0t xs ys]
theorem Qz :∀(a b:List Z0),all2 hq a b=false→YS a b<a.length∧YS a b<b.length
 |[],_,h=>(by unfold all2 at h;cases h)
 |_::_,[],h=>(by unfold all2 at h;cases h)
 |x::xs,y::ys,h=>by
  unfold all2 at h
  unfold YS
  cases hx:hq x y with
  |false=>exact⟨Nat.succ_pos _,Nat.succ_pos _⟩
  |true=>
   rw[hx,Bool.true_and]at h
   have:=Qz xs ys h
   rw[cond_t,List.length_cons,List.length_cons]
   omega
theorem Z0a {a b:List Z0}(h:WP a b=false)(h':WP b a=false):all2 hq a b=false:=by
 unfold WP at h h'
 rw[Z0t b a]at h'
 by_cases hl:a.length≤b.length
 ·rw[decide_eq_true hl,Bool.true_and]at h;exact h
 ·rw[decide_eq_true (by omega),Bool.true_and]at h';exact h'
noncomputable def Ua (a b:List Z0):Bool:=Xm a&&(Xm b&&(ZC (Z5 (a.getD 0 Zl))==ZC (Z5 (b.getD 0 Zl))&&(!WP a b&& !WP b a)))
noncomputable def WK (a b:List Z0)(m:Nat):Zi:=XZ (bif decide ((m:Int)>(0:Int))then a.getD (IntKind.i64.wrap ((m:Int)-(1:Int))).toNat Zl else Zl) (a.getD m Zl) (b.getD m Zl)
noncomputable def WX (a b:List Z0):Yl:=bif Ua a b then Xw (WK a b (YS a b)) true else UB
theorem Qy :∀(a b:List Z0),all2 hq a b=false→(∀i (_:i<YS a b) (ha:i<a.length) (hb:i<b.length),hq a[i] b[i]=true)∧(∀(ha:YS a b<a.length) (hb:YS a b<b.length),hq a[YS a b] b[YS a b]=false)
 |[],_,h=>(by unfold all2 at h;cases h)
 |_::_,[],h=>(by unfold all2 at h;cases h)
 |x::xs,y::ys,h=>by
  unfold all2 at h
  cases hx:hq x y with
  |false=>
   have e:YS (x::xs) (y::ys)=0:=by unfold YS;rw[hx];rfl
   refine⟨fun i hi=>by omega,?_⟩
   rw[e]
   exact fun _ _=>hx
  |true=>
   rw[hx,Bool.true_and]at h
   have ih:=Qy xs ys h
   have e:YS (x::xs) (y::ys)=YS xs ys+1:=by rw[YS,hx];rfl
   rw[e]
   refine⟨fun i hi ha hb=> ?_,fun ha hb=>ih.2 (by simpa using ha) (by simpa using hb)⟩
   cases i with
   |zero=>exact hx
   |succ i=>exact ih.1 i (by omega) (by simpa using ha) (by simpa using hb)
theorem Z0j (xs:List Z0)(i:Nat)(n:Nat)(hx:YH xs≤n):Ym (xs.getD i Zl)≤n:=by
 by_cases h:i<xs.length
 ·rw[at_n h];exact Uw h hx
 ·have e:xs.getD i Zl=Zl:=by simp[List.getD,show xs.length≤i by omega]
  rw[e];exact Nat.zero_le _
theorem Z0P (a b:List Z0)(m:Nat)(ha:m<a.length)(hb:m<b.length)(hx:YH a≤1050000)(hy:YH b≤1050000)(cp:Z0→Option Z0)(hcp:∀s,Ym s≤1050000→cp s=some s):(bif decide (0≤(m:Int))then bif decide ((m:Int)<(a.length:Int))then(cp (a.getD (m:Int).toNat Zl)).bind fun y3=>bif decide (0≤(m:Int))then bif decide ((m:Int)<(b.length:Int))then(cp (b.getD (m:Int).toNat Zl)).bind fun y4=>bif decide ((m:Int)>(0:Int))then bif decide (0≤(IntKind.i64.wrap ((m:Int)-(1:Int))))then bif decide ((IntKind.i64.wrap ((m:Int)-(1:Int)))<(a.length:Int))then(cp (a.getD ((IntKind.i64.wrap ((m:Int)-(1:Int))).toNat) Zl)).bind fun y5=>some (Xw (XZ y5 y3 y4) true)else none else none else some (Xw (XZ Zl y3 y4) true)else none else none else none else none)=some (Xw (WK a b m) true):=by
 have hl:a.length≤1050000:=by unfold YH X7 at hx;omega
 refine cT ge_t (cT (lt_t ha) (Zc (hcp _ (Z0j a _ _ hx)) (cT ge_t (cT (lt_t hb) (Zc (hcp _ (Z0j b _ _ hy)) ?_)))))
 unfold WK
 cases hd:decide ((m:Int)>(0:Int))with
 |false=>rfl
 |true=>
  have hm:0<m:=by have:=of_decide_eq_true hd;omega
  have e:IntKind.i64.wrap ((m:Int)-(1:Int))=(m:Int)-1:=wd (by omega)
  exact cT rfl (cT (decide_eq_true (by rw[e];omega)) (cT (decide_eq_true (by rw[e];omega)) (Zc (hcp _ (Z0j a _ _ hx)) rfl)))
theorem Z1v (a b:List Z0)(h:a.length≤b.length)(hl:a.length≤1050000)(f:Z4→Z4→Option Bool)(hf:∀i (ha:i<a.length) (hb:i<b.length),f (Z5 a[i]) (Z5 b[i])=some (hq a[i] b[i]))(l:Nat→Int→Option Bool)(u:∀n v,l (n+1) v=(bif decide (v<(a.length:Int))then bif decide (0≤v)then bif decide (v<(a.length:Int))then bif decide (0≤v)then bif decide (v<(b.length:Int))then(f (Z5 (a.getD v.toNat Zl)) (Z5 (b.getD v.toNat Zl))).bind fun y1=>bif !y1 then some false else l n (IntKind.i64.wrap (v+(1:Int)))else none else none else none else none else some true)):l KK (0:Int)=some (all2 hq a b):=by
 have hh:∀i n,i≤a.length→a.length-i<n→l n (i:Int)=some (all2 hq (a.drop i) (b.drop i)):=by
  refine idx_ind ?_ ?_
  ·intro n
   rw[u]
   simp only[lt_f (Nat.le_refl _),cond_f,List.drop_length]
   cases b.drop a.length<;>rfl
  ·intro i n hi ih
   have hi':i<b.length:=by omega
   rw[u]
   simp only[lt_t hi,lt_t hi',ge_t,cond_t,Int.toNat_natCast,at_n hi,at_n hi',hf i hi hi',bind_s,w64_succ (i:=i) (by omega),ih,Z2c hq hi hi']
   cases hq a[i] b[i]<;>rfl
 have:=hh 0 KK (Nat.zero_le _) (KK_gt (by omega))
 rw[List.drop_zero,List.drop_zero]at this
 exact this
theorem Z1D (a b:List Z0)(hx:YH a≤1050000)(hy:YH b≤1050000):Yk a b=some (WP a b):=by
 unfold Yk WP
 by_cases h:a.length≤b.length
 ·rw[decide_eq_true h,Bool.true_and]
  exact cF (decide_eq_false (by omega)) (Z1v a b h (by unfold YH X7 at hx;omega) YI (fun i ha hb=>Q7 _ _ (Us ha hx) (Us hb hy)) (Yk.l8 a b) (fun n v=>Yk.u8 a b n v))
 ·rw[decide_eq_false h,Bool.false_and]
  exact cT (decide_eq_true (by omega)) rfl
theorem Z15 (a b:List Z0)(hx:YH a≤1050000)(hy:YH b≤1050000):Yi a b=some (WP a b):=by
 unfold Yi WP
 by_cases h:a.length≤b.length
 ·rw[decide_eq_true h,Bool.true_and]
  exact cF (decide_eq_false (by omega)) (Z1v a b h (by unfold YH X7 at hx;omega) YK (fun i ha hb=>UW _ _ (Us ha hx) (Us hb hy)) (fun n v=>Yi.l8 a b n (a.length:Int) v) (fun n v=>Yi.u8 a b n (a.length:Int) v))
 ·rw[decide_eq_false h,Bool.false_and]
  exact cT (decide_eq_true (by omega)) rfl
theorem Z3K (a b:List Z0)(hx:YH a≤1050000)(hy:YH b≤1050000)(hn:all2 hq a b=false):Zz.l8 a b KK (0:Int)=some (Xw (WK a b (YS a b)) true):=by
 have hl:a.length≤1050000:=by unfold YH X7 at hx;omega
 obtain⟨ha,hb⟩:=Qz a b hn
 obtain⟨h1,h2⟩:=Qy a b hn
 have hh:∀i n,i≤YS a b→YS a b-i<n→Zz.l8 a b n (i:Int)=some (Xw (WK a b (YS a b)) true):=by
  refine idx_ind ?_ ?_
  ·intro n
   rw[Zz.u8]
   refine cT (lt_t ha) (cT (lt_t hb) (cT ge_t (cT (lt_t ha) (cT ge_t (cT (lt_t hb) (Zc (Q7 _ _ (Uc a _ _ hx) (Uc b _ _ hy)) (cF ?_ (Z0P a b _ ha hb hx hy Yh UJ))))))))
   have:=h2 ha hb
   rw[Int.toNat_natCast,at_n ha,at_n hb]
   exact this
  ·intro i n hi ih
   have hia:i<a.length:=by omega
   have hib:i<b.length:=by omega
   rw[Zz.u8]
   refine cT (lt_t hia) (cT (lt_t hib) (cT ge_t (cT (lt_t hia) (cT ge_t (cT (lt_t hib) (Zc (Q7 _ _ (Uc a _ _ hx) (Uc b _ _ hy)) (cT ?_ ?_)))))))
   ·have:=h1 i hi hia hib
    rw[Int.toNat_natCast,at_n hia,at_n hib]
    exact this
   ·rw[w64_succ (by omega)]
    exact ih
 exact hh 0 KK (Nat.zero_le _) (KK_gt (by omega))
theorem Z2M (a b:List Z0)(hx:YH a≤1050000)(hy:YH b≤1050000)(hn:all2 hq a b=false):ZA.l8 a b KK (0:Int)=some (Xw (WK a b (YS a b)) true):=by
 have hl:a.length≤1050000:=by unfold YH X7 at hx;omega
 obtain⟨ha,hb⟩:=Qz a b hn
 obtain⟨h1,h2⟩:=Qy a b hn
 have hh:∀i n,i≤YS a b→YS a b-i<n→ZA.l8 a b n (i:Int)=some (Xw (WK a b (YS a b)) true):=by
  refine idx_ind ?_ ?_
  ·intro n
   rw[ZA.u8]
   refine cT ge_t (cT (lt_t ha) (cT ge_t (cT (lt_t hb) (Zc (UW _ _ (Uc a _ _ hx) (Uc b _ _ hy)) (cF ?_ (Z0P a b _ ha hb hx hy YQ Qd))))))
   have:=h2 ha hb
   rw[Int.toNat_natCast,at_n ha,at_n hb]
   exact this
  ·intro i n hi ih
   have hia:i<a.length:=by omega
   have hib:i<b.length:=by omega
   rw[ZA.u8]
   refine cT ge_t (cT (lt_t hia) (cT ge_t (cT (lt_t hib) (Zc (UW _ _ (Uc a _ _ hx) (Uc b _ _ hy)) (cT ?_ ?_)))))
   ·have:=h1 i hi hia hib
    rw[Int.toNat_natCast,at_n hia,at_n hib]
    exact this
   ·rw[w64_succ (by omega)]
    exact ih
 exact hh 0 KK (Nat.zero_le _) (KK_gt (by omega))
theorem Z1A (a b:List Z0)(hx:YH a≤1050000)(hy:YH b≤1050000):Zz a b=some (WX a b):=by
 unfold WX Ua
 refine Zc (Z0d a hx) ?_
 cases hc:Xm a with
 |false=>rfl
 |true=>
  refine cF rfl (Zc (Z0d b hy) ?_)
  cases hd:Xm b with
  |false=>rfl
  |true=>
   have la:=UF a hc
   have lb:=UF b hd
   refine cF rfl (cT rfl (cT (decide_eq_true (by omega)) (cT rfl (cT (decide_eq_true (by omega)) ?_))))
   cases hz:(ZC (Z5 (a.getD 0 Zl))==ZC (Z5 (b.getD 0 Zl)))with
   |false=>exact cT (congrArg (fun z=> !z) hz) rfl
   |true=>
    refine cF (congrArg (fun z=> !z) hz) (Zc (Z1D a b hx hy) ?_)
    cases hp:WP a b with
    |true=>rfl
    |false=>
     refine cF rfl (Zc (Z1D b a hy hx) ?_)
     cases hp':WP b a with
     |true=>rfl
     |false=>exact Z3K a b hx hy (Z0a hp hp')
theorem Z12 (a b:List Z0)(hx:YH a≤1050000)(hy:YH b≤1050000):ZA a b=some (WX a b):=by
 unfold WX Ua
 refine Zc (Z14 a hx) ?_
 cases hc:Xm a with
 |false=>rfl
 |true=>
  refine cF rfl (Zc (Z14 b hy) ?_)
  cases hd:Xm b with
  |false=>rfl
  |true=>
   have la:=UF a hc
   have lb:=UF b hd
   refine cF rfl (cT rfl (cT (decide_eq_true (by omega)) (cT rfl (cT (decide_eq_true (by omega)) ?_))))
   cases hz:(ZC (Z5 (a.getD 0 Zl))==ZC (Z5 (b.getD 0 Zl)))with
   |false=>exact cT (congrArg (fun z=> !z) hz) rfl
   |true=>
    refine cF (congrArg (fun z=> !z) hz) (Zc (Z15 a b hx hy) ?_)
    cases hp:WP a b with
    |true=>rfl
    |false=>
     refine cF rfl (Zc (Z15 b a hy hx) ?_)
     cases hp':WP b a with
     |true=>rfl
     |false=>exact Z2M a b hx hy (Z0a hp hp')
theorem Z0F :∀a b:List UInt8,Lib.compareBytes a b=bif Op.bytesLess a b then(-1:Int)else bif a==b then 0 else 1
 |[],[]=>rfl
 |[],_::_=>rfl
 |_::_,[]=>rfl
 |a::x,b::y=>by
  have ih:=Z0F x y
  unfold Lib.compareBytes Op.bytesLess
  by_cases h:a<b
  ·rw[if_pos h,decide_eq_true h,Bool.true_or];rfl
  ·rw[if_neg h,decide_eq_false h,Bool.false_or]
   by_cases g:b<a
   ·rw[if_pos g]
    have ne:(a==b)=false:=by rw[beq_eq_false_iff_ne];rintro rfl;exact h g
    have ne2:(a::x==b::y)=false:=by rw[List.cons_beq_cons,ne,Bool.false_and]
    rw[ne,ne2,Bool.false_and];rfl
   ·have e:a=b:=UInt8.le_antisymm (UInt8.not_lt.1 g) (UInt8.not_lt.1 h)
    subst e
    rw[if_neg g,ih,beq_self_eq_true,Bool.true_and,List.cons_beq_cons,beq_self_eq_true,Bool.true_and]
def UA (a b:ByteArray):Int:=Lib.compareBytes a.data.toList b.data.toList
def U8 (p:Nat→Bool)(n:Nat):Bool:=decide (∀i,i<n→p i=true)
theorem Q9 (p:Nat→Bool)(n:Nat):U8 p n=true↔∀i,i<n→p i=true:=by unfold U8;exact decide_eq_true_iff
theorem QL {len:Nat}(hl:len≤1152921504606846976)(p:Nat→Bool)(z:Bool)(l:Nat→Int→Option Bool)(u0:∀n,l (n+1) (len:Int)=some z)(u:∀n i,i<len→l (n+1) (i:Int)=bif p i then l n ((i+1:Nat):Int)else some false):l KK (0:Int)=some (U8 p len&&z):=by
 have hh:∀i n,i≤len→len-i<n→l n (i:Int)=some (decide (∀j,j<len→i≤j→p j=true)&&z):=by
  refine idx_ind ?_ ?_
  ·intro n
   have e:decide (∀j,j<len→len≤j→p j=true)=true:=decide_eq_true (fun j h1 h2=>absurd h1 (by omega))
   rw[u0,e,Bool.true_and]
  ·intro i n hi ih
   rw[u n i hi,ih]
   cases hp:p i with
   |false=>
    have e:decide (∀j,j<len→i≤j→p j=true)=false:=decide_eq_false (fun h=>by have:=h i hi (Nat.le_refl _);rw[hp]at this;cases this)
    rw[cond_f,e,Bool.false_and]
   |true=>
    rw[cond_t]
    have e:decide (∀j,j<len→i≤j→p j=true)=decide (∀j,j<len→i+1≤j→p j=true):=by
     refine decide_eq_decide.2 ⟨fun h j h1 h2=>h j h1 (by omega),fun h j h1 h2=> ?_⟩
     by_cases e:j=i
     ·subst e;exact hp
     ·exact h j h1 (by omega)
    rw[e]
 have:=hh 0 KK (Nat.zero_le _) (KK_gt (by omega))
 have e:decide (∀j,j<len→0≤j→p j=true)=U8 p len:=decide_eq_decide.2 ⟨fun h j h1=>h j h1 (Nat.zero_le _),fun h j h1 _=>h j h1⟩
 rw[e]at this
 exact this
def Q5 (c:Int):Bool:=(!(decide (c<97)||decide (c>122)))||(!(decide (c<48)||decide (c>57)))
def Xx (s:ByteArray)(i:Nat):Int:=V.bt s (i:Int)
theorem Z3P (s:ByteArray)(hs:s.size≤1050000):Zu.l7 s=some (U8 (fun i=>Q5 (Xx s i)|| !(Xx s i !=(45:Int))) s.size&&true):=by
 refine QL (by omega) _ _ (Zu.l8 s) (fun n=> ?_) (fun n i hi=> ?_)
 ·rw[Zu.u8]
  simp only[Zu.g8,lt_f (Nat.le_refl _),cond_f]
 ·rw[Zu.u8]
  simp only[Zu.g8,lt_t hi,ge_t,cond_t,w64_succ (i:=i) (by omega)]
  rw[show V.bt s (i:Int)=Xx s i from rfl]
  generalize Xx s i=c
  unfold Q5
  cases decide (c<97)<;>cases decide (c>122)<;>cases decide (c<48)<;>cases decide (c>57)<;>cases(c !=(45:Int))<;>rfl
def WO (s:ByteArray):Bool:=(decide (1≤s.size)&&decide (s.size≤8))&&(U8 (fun i=>Q5 (Xx s i)||((Xx s i==(45:Int))&&(decide (0<i)&&decide (i+1<s.size)))) s.size)
theorem Z1p :Q5 45=false:=by decide
theorem Z1C (s:ByteArray)(hs:s.size≤1050000):Zu s=some (WO s):=by
 unfold Zu
 rw[Z3P s hs]
 refine Zc (U6 _ _ _) ?_
 by_cases hl:1≤s.size∧s.size≤8
 ·have hw:IntKind.i64.wrap ((s.size:Int)-(1:Int))=((s.size-1:Nat):Int):=by rw[wd (by omega)];omega
  refine cF (by rw[decide_eq_true (by omega),decide_eq_true (by omega)];rfl) (cT rfl (cT (decide_eq_true (by omega)) ?_))
  rw[hw]
  rw[show V.bt s (0:Int)=Xx s 0 from rfl,show V.bt s ((s.size-1:Nat):Int)=Xx s (s.size-1)from rfl]
  have key:(bif Xx s 0==(45:Int)then false else bif Xx s (s.size-1)==(45:Int)then false else(U8 (fun i=>Q5 (Xx s i)|| !(Xx s i !=(45:Int))) s.size&&true))=WO s:=by
   unfold WO
   rw[decide_eq_true hl.1,decide_eq_true hl.2,Bool.and_self,Bool.true_and,Bool.and_true]
   refine Qa ?_
   rw[Q9]
   constructor
   ·intro h i hi
    cases h0:(Xx s 0==(45:Int))with
    |true=>rw[h0]at h;cases h
    |false=>
     rw[h0,cond_f]at h
     cases h1:(Xx s (s.size-1)==(45:Int))with
     |true=>rw[h1]at h;cases h
     |false=>
      rw[h1,cond_f,Q9]at h
      have:=h i hi
      simp only[Bool.or_eq_true,Bool.and_eq_true,decide_eq_true_eq,Bool.not_eq_true',bne_eq_false_iff_eq]at this⊢
      refine this.imp_right fun g=>⟨by rw[g];rfl,?_,?_⟩
      ·refine Nat.pos_of_ne_zero fun e=> ?_
       subst e
       rw[g]at h0;cases h0
      ·refine Nat.lt_of_not_le fun e=> ?_
       have e2:i=s.size-1:=by omega
       subst e2
       rw[g]at h1;cases h1
   ·intro h
    have h0:(Xx s 0==(45:Int))=false:=by
     cases hc:(Xx s 0==(45:Int))with
     |false=>rfl
     |true=>
      have e:Xx s 0=45:=eq_of_beq hc
      have:=h 0 (by omega)
      rw[e,Z1p]at this
      simp at this
    have h1:(Xx s (s.size-1)==(45:Int))=false:=by
     cases hc:(Xx s (s.size-1)==(45:Int))with
     |false=>rfl
     |true=>
      have e:Xx s (s.size-1)=45:=eq_of_beq hc
      have:=h (s.size-1) (by omega)
      rw[e,Z1p]at this
      simp only[Bool.false_or,Bool.and_eq_true,decide_eq_true_eq]at this
      omega
    rw[h0,h1,cond_f,cond_f,Q9]
    intro i hi
    have:=h i hi
    simp only[Bool.or_eq_true,Bool.and_eq_true]at this
    rw[Bool.or_eq_true]
    refine this.imp_right fun g=> ?_
    have e:Xx s i=45:=eq_of_beq g.1
    rw[e];rfl
  rw[←key]
  cases(Xx s 0==(45:Int))with
  |true=>rfl
  |false=>
   refine cF rfl (cT ge_t (cT (lt_t (by omega)) ?_))
   cases(Xx s (s.size-1)==(45:Int))<;>rfl
 ·have e:WO s=false:=by
   unfold WO
   have:(decide (1≤s.size)&&decide (s.size≤8))=false:=by
    rw[←Bool.decide_and]
    exact decide_eq_false hl
   rw[this,Bool.false_and]
  rw[e]
  refine cT ?_ rfl
  by_cases h1:1≤s.size
  ·rw[decide_eq_true (show(1:Int)≤(s.size:Int) by omega),decide_eq_false (show¬(s.size:Int)≤8 by omega)];rfl
  ·rw[decide_eq_false (show¬(1:Int)≤(s.size:Int) by omega)];rfl
theorem Z0L (e:Z7){n:Nat}(hx:YN e≤n):e.1.size≤n:=by
 unfold YN WG at hx;omega
theorem Z0M (e:Z7){n:Nat}(hx:YN e≤n):XX e.2.2.2≤n:=by
 unfold YN at hx;omega
theorem Z1S {xs:List ByteArray}{i:Nat}(h:i<xs.length){n:Nat}(hx:XX xs≤n):xs[i].size≤n:=by
 have:=Z0l WG h
 unfold XX X7 at hx
 unfold WG at this hx
 omega
def Z04 (p:List ByteArray):Bool:=(decide ((1:Int)≤(p.length:Int))&&decide ((p.length:Int)≤4))&&p.all WO
theorem Z2d {α:Type}(xs:List α)(p:α→Bool)(q:Nat→Bool)(h:∀i (hi:i<xs.length),q i=p xs[i]):U8 q xs.length=xs.all p:=by
 refine Qa ?_
 rw[Q9,List.all_eq_true]
 constructor
 ·intro g x hx
  obtain⟨i,hi,rfl⟩:=List.getElem_of_mem hx
  rw[←h i hi]
  exact g i hi
 ·intro g i hi
  rw[h i hi]
  exact g _ (List.getElem_mem _)
theorem Z3Q (p:List ByteArray)(hp:XX p≤1050000):Yg p=some (Z04 p):=by
 have hl:p.length≤1050000:=by unfold XX X7 at hp;omega
 refine(QL (len:=p.length) (by omega) (fun i=>WO (p.getD i (⟨#[]⟩:ByteArray))) (decide ((1:Int)≤(p.length:Int))&&decide ((p.length:Int)≤4)) (Yg.l4 p) (fun n=> ?_) (fun n i hi=> ?_)).trans ?_
 ·rw[Yg.u4]
  simp only[Yg.g4,lt_f (Nat.le_refl _),cond_f]
  exact Zc (U6 _ _ _) rfl
 ·rw[Yg.u4]
  simp only[Yg.g4,lt_t hi,ge_t,cond_t,w64_succ (i:=i) (by omega),Int.toNat_natCast,at_n hi]
  rw[Z1C _ (Z1S hi hp),bind_s]
  cases WO p[i]<;>rfl
 ·unfold Z04
  rw[Z2d p WO _ (fun i hi=>by rw[at_n hi]),Bool.and_comm]
def Ub (a b c:Int):Bool:=decide (b≤a)&&decide (a≤c)
def Qp (e:Z7):Bool:=WO e.1&&(bif e.2.1==(1:Int)then Ub e.2.2.1 0 999999&&((e.2.2.2.length:Int)==(0:Int))else bif e.2.1==(2:Int)then Ub e.2.2.1 0 2147483646&&((e.2.2.2.length:Int)==(0:Int))else bif e.2.1==(3:Int)then Ub e.2.2.1 0 2147483646&&Z04 e.2.2.2 else false)
theorem Z3O (e:Z7)(hx:YN e≤1050000):Wm e=some (Qp e):=by
 have h1:=Z1C e.1 (Z0L e hx)
 have h2:=Z3Q e.2.2.2 (Z0M e hx)
 unfold Wm Qp
 cases e.2.1==(1:Int)with
 |true=>
  refine cT rfl (Zc h1 ?_)
  cases WO e.1 with
  |false=>rfl
  |true=>
   refine cT rfl (Zc (U6 _ _ _) ?_)
   show _=some (true&&(Ub e.2.2.1 0 999999&&_))
   unfold Ub
   cases(decide (0≤e.2.2.1)&&decide (e.2.2.1≤999999))<;>rfl
 |false=>
  refine cF rfl ?_
  cases e.2.1==(2:Int)with
  |true=>
   refine cT rfl (Zc h1 ?_)
   cases WO e.1 with
   |false=>rfl
   |true=>
    refine cT rfl (Zc (U6 _ _ _) ?_)
    show _=some (true&&(Ub e.2.2.1 0 2147483646&&_))
    unfold Ub
    cases(decide (0≤e.2.2.1)&&decide (e.2.2.1≤2147483646))<;>rfl
  |false=>
   refine cF rfl ?_
   cases e.2.1==(3:Int)with
   |true=>
    refine cT rfl (Zc h1 ?_)
    cases WO e.1 with
    |false=>rfl
    |true=>
     refine cT rfl (Zc (U6 _ _ _) ?_)
     show _=some (true&&(Ub e.2.2.1 0 2147483646&&_))
     unfold Ub
     cases(decide (0≤e.2.2.1)&&decide (e.2.2.1≤2147483646))with
     |false=>rfl
     |true=>exact cT rfl (Zc h2 (by rw[Bool.true_and,Bool.true_and]))
   |false=>exact cF rfl (by rw[cond_f,cond_f,cond_f,Bool.and_false])
theorem Z1y (a b:ByteArray):XJ a b=some (UA a b):=by
 unfold XJ UA
 rw[Z0F,ByteArray.toList_eq,ByteArray.toList_eq]
 cases Op.bytesLess a.data.toList b.data.toList with
 |true=>rfl
 |false=>cases a.data.toList==b.data.toList<;>rfl
def QM (xs:List Z7):Bool:=U8 (fun i=>Qp (xs.getD i Wz)&&(decide (i=0)||UA (xs.getD (i-1) Wz).1 (xs.getD i Wz).1== -1)) xs.length&&decide ((xs.length:Int)≤(12:Int))
theorem Z0b (xs:List Z7)(hx:Yj xs≤1050000):ZS xs=some (QM xs):=by
 have hl:xs.length≤1050000:=by unfold Yj X7 at hx;omega
 refine QL (len:=xs.length) (by omega) _ _ (ZS.l4 xs) (fun n=> ?_) (fun n i hi=> ?_)
 ·rw[ZS.u4]
  simp only[ZS.g4,lt_f (Nat.le_refl _),cond_f]
 ·rw[ZS.u4]
  simp only[ZS.g4,lt_t hi,ge_t,cond_t,w64_succ (i:=i) (by omega),Int.toNat_natCast,at_n hi]
  rw[Z3O _ (QQ hi hx),bind_s]
  cases Qp xs[i]with
  |false=>rfl
  |true=>
   by_cases h0:i=0
   ·subst h0;rfl
   ·have ew:IntKind.i64.wrap ((i:Int)-1)=((i-1:Nat):Int):=by rw[w64 (by omega) (by omega)];omega
    rw[decide_eq_true (show(i:Int)>0 by omega),decide_eq_false h0,ew]
    refine cF rfl (cT rfl (cT ge_t (cT (lt_t (by omega)) (Zc (Z1y _ _) ?_))))
    rw[Int.toNat_natCast,Bool.true_and,Bool.false_or]
    show _=bif(UA (xs.getD (i-1) Wz).1 xs[i].1== -1)then _ else _
    show(bif !(UA (xs.getD (i-1) Wz).1 xs[i].1== -1)then _ else _)=_
    cases(UA (xs.getD (i-1) Wz).1 xs[i].1== -1)<;>rfl
theorem Z1q {α β:Type}(xs:List α)(d:α)(f:α→Option β)(g:α→β)(pre:List β)(hl:xs.length≤1050000)(hp:pre.length≤1050000)(hf:∀i (h:i<xs.length),f xs[i]=some (g xs[i]))(l:Nat→List β→Int→Option (List β))(u:∀n ys a,l (n+1) ys a=(bif decide (a<(xs.length:Int))then bif decide (0≤a)then bif decide (a<(xs.length:Int))then(f (xs.getD a.toNat d)).bind fun y1=>bif decide (ys.length+[y1].length<68719476736)then l n (ys++[y1]) (IntKind.i64.wrap (a+(1:Int)))else none else none else none else some ys)):l KK pre (0:Int)=some (pre++xs.map g):=by
 have hh:∀i n,i≤xs.length→xs.length-i<n→l n (pre++(xs.take i).map g) (i:Int)=some (pre++xs.map g):=by
  refine idx_ind ?_ ?_
  ·intro n
   rw[u]
   simp only[lt_f (Nat.le_refl _),cond_f,List.take_length]
  ·intro i n hi ih
   rw[u]
   have hg:(pre++(xs.take i).map g).length+[g xs[i]].length<68719476736:=by rw[List.length_append,List.length_map,List.length_take];show _+1<_;omega
   simp only[lt_t hi,ge_t,cond_t,Int.toNat_natCast,at_n hi,hf i hi,bind_s,w64_succ (i:=i) (by omega)]
   rw[decide_eq_true hg,cond_t]
   have e:pre++(xs.take i).map g++[g xs[i]]=pre++(xs.take (i+1)).map g:=by
    rw[List.append_assoc,←List.take_append_getElem hi,List.map_append];rfl
   rw[e]
   exact ih
 have:=hh 0 KK (Nat.zero_le _) (KK_gt (by omega))
 rw[List.take_zero,List.map_nil,List.append_nil]at this
 exact this
theorem Z2k {α β:Type}(xs:List α)(d:α)(f:α→Option (List β))(g:α→List β)(pre:List β)(B:Nat)(hB:pre.length+(xs.flatMap g).length≤B)(hB2:B≤1073741824)(hl:xs.length≤1050000)(hf:∀i (h:i<xs.length),f xs[i]=some (g xs[i]))(l:Nat→List β→Int→Option (List β))(u:∀n ys a,l (n+1) ys a=(bif decide (a<(xs.length:Int))then bif decide (0≤a)then bif decide (a<(xs.length:Int))then(f (xs.getD a.toNat d)).bind fun y1=>bif decide (ys.length+y1.length<68719476736)then l n (ys++y1) (IntKind.i64.wrap (a+(1:Int)))else none else none else none else some ys)):l KK pre (0:Int)=some (pre++xs.flatMap g):=by
 have hh:∀i n,i≤xs.length→xs.length-i<n→l n (pre++(xs.take i).flatMap g) (i:Int)=some (pre++xs.flatMap g):=by
  refine idx_ind ?_ ?_
  ·intro n
   rw[u]
   simp only[lt_f (Nat.le_refl _),cond_f,List.take_length]
  ·intro i n hi ih
   rw[u]
   have e:pre++(xs.take i).flatMap g++g xs[i]=pre++(xs.take (i+1)).flatMap g:=by
    rw[List.append_assoc,←List.take_append_getElem hi,List.flatMap_append,List.flatMap_singleton]
   have hle:(pre++(xs.take (i+1)).flatMap g).length≤B:=by
    have:(xs.flatMap g).length=((xs.take (i+1)).flatMap g).length+((xs.drop (i+1)).flatMap g).length:=by
     rw[←List.length_append,←List.flatMap_append,List.take_append_drop]
    rw[List.length_append];omega
   have hg:(pre++(xs.take i).flatMap g).length+(g xs[i]).length<68719476736:=by
    rw[←List.length_append,e];omega
   simp only[lt_t hi,ge_t,cond_t,Int.toNat_natCast,at_n hi,hf i hi,bind_s,w64_succ (i:=i) (by omega)]
   rw[decide_eq_true hg,cond_t,e]
   exact ih
 have:=hh 0 KK (Nat.zero_le _) (KK_gt (by omega))
 rw[List.take_zero,List.flatMap_nil,List.append_nil]at this
 exact this
theorem Z0C (s:ByteArray):(V.bytesOf s).length=s.size:=by
 unfold V.bytesOf
 rw[List.length_map,Array.length_toList];rfl
noncomputable def Qb (xs:List Int):List Int:=(xs.length:Int)::xs.map IntKind.i64.wrap
theorem Z2j (xs:List Int):(Qb xs).length=xs.length+1:=by unfold Qb;rw[List.length_cons,List.length_map]
theorem Z3z (xs:List Int)(hx:xs.length≤1050000):Yr xs=some (Qb xs):=
 Z1q xs 0 (fun a=>some (IntKind.i64.wrap a)) IntKind.i64.wrap [(xs.length:Int)] hx (by simp) (fun i h=>rfl) (fun n ys a=>Yr.l6 xs n a ys) (fun n ys a=>Yr.u6 xs n a ys)
theorem Z4e {s:ByteArray}(hs:s.size≤1050000):V.smallS s=true:=by
 rw[V.smallS_eq]
 exact decide_eq_true (by show(s.size:Int)<68719476736;omega)
noncomputable def Uk (s:ByteArray):List Int:=Qb (V.bytesOf s)
theorem Qx (s:ByteArray):(Uk s).length=s.size+1:=by unfold Uk;rw[Z2j,Z0C]
theorem Z3W (s:ByteArray)(hs:s.size≤1050000):XY s=some (Uk s):=by
 unfold XY
 exact cT (Z4e hs) (Zc (Z3z _ (by rw[Z0C];exact hs)) rfl)
noncomputable def UC (e:Z7):List Int:=(Uk e.1++[e.2.1,e.2.2.1,(e.2.2.2.length:Int)])++e.2.2.2.flatMap Uk
theorem Z0Q (p:List ByteArray):(p.flatMap Uk).length=XX p:=by
 unfold XX X7
 induction p with
 |nil=>rfl
 |cons x t ih=>
  rw[List.flatMap_cons,List.length_append,ih,Qx,List.length_cons,List.map_cons,List.sum_cons]
  unfold WG
  omega
theorem Z2u (e:Z7):(UC e).length=YN e+4:=by
 unfold UC YN WG
 rw[List.length_append,List.length_append,Qx,Z0Q]
 show e.1.size+1+3+_=_
 omega
theorem eL (e:Z7)(hx:YN e≤1050000)(f:ByteArray→Option (List Int))(hf:∀s,s.size≤1050000→f s=some (Uk s))(l:Nat→List Int→Int→Option (List Int))(u:∀n ys a,l (n+1) ys a=(bif decide (a<(e.2.2.2.length:Int))then bif decide (0≤a)then bif decide (a<(e.2.2.2.length:Int))then(f (e.2.2.2.getD a.toNat (⟨#[]⟩:ByteArray))).bind fun y1=>bif decide (ys.length+y1.length<68719476736)then l n (ys++y1) (IntKind.i64.wrap (a+(1:Int)))else none else none else none else some ys)):((f e.1).bind fun y1=>bif decide (y1.length+[e.2.1,e.2.2.1,(e.2.2.2.length:Int)].length<68719476736)then l KK (y1++[e.2.1,e.2.2.1,(e.2.2.2.length:Int)]) (0:Int)else none)=some (UC e):=by
 have h1:=Z0L e hx
 have h2:=Z0M e hx
 refine Zc (hf _ h1) (cT (decide_eq_true (by rw[Qx];show _+3<_;omega)) ?_)
 exact Z2k e.2.2.2 (⟨#[]⟩:ByteArray) f Uk _ 2200000 (by rw[List.length_append,Qx,Z0Q];show _+3+_≤_;omega) (by omega) (by unfold XX X7 at h2;omega) (fun i h=>hf _ (Z1S h h2)) l u
theorem Z3D (e:Z7)(hx:YN e≤1050000):Ys e=some (UC e):=
 eL e hx XY Z3W (fun n ys a=>Ys.l6 e n a ys) (fun n ys a=>Ys.u6 e n a ys)
def hs (xs:List Int):Int:=xs.foldl Ug 11
noncomputable def Z08 (e:Z7):Int:=hs (227::UC e)
theorem Z3U (e:Z7)(hx:YN e≤1050000):W5 e=some (Z08 e):=by
 unfold W5
 have hl:=Z2u e
 exact Zc (Z3D e hx) (cT (decide_eq_true (by show 1+_<_;omega)) (Zc (Uv _ (show([(227:Int)]++UC e).length≤_ by rw[List.length_append];show 1+_≤_;omega)) rfl))
noncomputable def leaves (xs:List Z7):List Int:=xs.map Z08
theorem Z3p (xs:List Z7):(leaves xs).length=xs.length:=List.length_map ..
theorem Z3V (xs:List Z7)(hx:Yj xs≤1050000):Yt xs=some (leaves xs):=
 Z1q xs Wz W5 Z08 [] (by unfold Yj X7 at hx;omega) (by simp) (fun i h=>Z3U _ (QQ h hx)) (fun n ys a=>Yt.l6 xs n a ys) (fun n ys a=>Yt.u6 xs n a ys)
def QA (a b:Int):Int:=hs [229,a,b]
theorem Z3X (a b:Int):Wq a b=some (QA a b):=Zc (Uv _ (by show 3≤_;omega)) rfl
def up :List Int→List Int
 |a::b::t=>QA a b::up t
 |[a]=>[a]
 |[]=>[]
theorem Z1X :∀xs:List Int,(up xs).length=(xs.length+1)/2
 |[]=>by rw[up];rfl
 |[a]=>by simp[up]
 |a::b::t=>by
  show(up t).length+1=(t.length+1+1+1)/2
  rw[Z1X t];omega
theorem upL (f:Int→Int→Option Int)(hf:∀a b,f a b=some (QA a b))(xs:List Int)(hx:xs.length≤1050000)(l:Nat→Int→List Int→Option (List Int))(u:∀n a ys,l (n+1) a ys=(bif decide (a<(xs.length:Int))then bif decide ((IntKind.i64.wrap (a+(1:Int)))<(xs.length:Int))then bif decide (0≤a)then bif decide (a<(xs.length:Int))then bif decide (0≤(IntKind.i64.wrap (a+(1:Int))))then bif decide ((IntKind.i64.wrap (a+(1:Int)))<(xs.length:Int))then(f (xs.getD a.toNat (0:Int)) (xs.getD ((IntKind.i64.wrap (a+(1:Int))).toNat) (0:Int))).bind fun y1=>bif decide (ys.length+[y1].length<68719476736)then l n (IntKind.i64.wrap (a+(2:Int))) (ys++[y1])else none else none else none else none else none else bif decide (0≤a)then bif decide (a<(xs.length:Int))then bif decide (ys.length+[xs.getD a.toNat (0:Int)].length<68719476736)then l n (IntKind.i64.wrap (a+(2:Int))) (ys++[xs.getD a.toNat (0:Int)])else none else none else none else some ys)):l KK (0:Int) []=some (up xs):=by
 have hh:∀(suf:List Int) (i n:Nat) (ys:List Int),suf=xs.drop i→suf.length<n→ys.length≤i→i≤xs.length+1→l n (i:Int) ys=some (ys++up suf):=by
  intro suf
  induction suf using up.induct with
  |case1 a b t ih=>
   intro i n ys hs hn hy hi0
   have hlen:(xs.drop i).length=t.length+2:=by rw[←hs];rfl
   rw[List.length_drop]at hlen
   have hi:i<xs.length:=by omega
   have hi':i+1<xs.length:=by omega
   have e1:=List.drop_eq_getElem_cons hi
   have e2:=List.drop_eq_getElem_cons hi'
   rw[e1,e2]at hs
   injection hs with ha hs
   injection hs with hb ht
   cases n with
   |zero=>simp at hn
   |succ n=>
    have ew:IntKind.i64.wrap ((i:Int)+2)=((i+2:Nat):Int):=by rw[w64 (by omega) (by omega)];omega
    have hg:ys.length+[QA xs[i] xs[i+1]].length<68719476736:=by show _+1<_;omega
    rw[u]
    simp only[w64_succ (i:=i) (by omega),lt_t hi,lt_t hi',ge_t,cond_t,Int.toNat_natCast,at_n hi,at_n hi',hf,bind_s,ew]
    rw[decide_eq_true hg,cond_t]
    rw[ih (i+2) n _ ht (by simp at hn;omega) (by rw[List.length_append];show _+1≤_;omega) (by omega)]
    rw[List.append_assoc,ha,hb];rfl
  |case2 a=>
   intro i n ys hs hn hy hi0
   have hlen:(xs.drop i).length=1:=by rw[←hs];rfl
   rw[List.length_drop]at hlen
   have hi:i<xs.length:=by omega
   have e1:=List.drop_eq_getElem_cons hi
   rw[e1]at hs
   injection hs with ha hs
   match n,hn with
   |n+2,_=>
    have ew:IntKind.i64.wrap ((i:Int)+2)=((i+2:Nat):Int):=by rw[w64 (by omega) (by omega)];omega
    have hg:ys.length+[xs[i]].length<68719476736:=by show _+1<_;omega
    rw[u]
    simp only[w64_succ (i:=i) (by omega),lt_t hi,lt_f (show xs.length≤i+1 by omega),ge_t,cond_t,cond_f,Int.toNat_natCast,at_n hi,ew]
    rw[decide_eq_true hg,cond_t,u]
    simp only[lt_f (show xs.length≤i+2 by omega),cond_f]
    rw[ha];rfl
  |case3=>
   intro i n ys hs hn hy hi0
   have hlen:(xs.drop i).length=0:=by rw[←hs];rfl
   rw[List.length_drop]at hlen
   cases n with
   |zero=>simp at hn
   |succ n=>
    rw[u]
    simp only[lt_f (show xs.length≤i by omega),cond_f]
    rw[up,List.append_nil]
 have:=hh xs 0 KK [] (by rw[List.drop_zero]) (KK_gt (by omega)) (Nat.le_refl _) (Nat.zero_le _)
 exact this
theorem Z45 (xs:List Int)(hx:xs.length≤1050000):Yo xs=some (up xs):=upL Wq Z3X xs hx (Yo.l6 xs) (fun n a ys=>Yo.u6 xs n a ys)
def QI :Nat→List Int→Int
 |0,_=>0
 |n+1,xs=>bif decide ((xs.length:Int)>(1:Int))then QI n (up xs)else xs.getD 0 0
noncomputable def Z0m (xs:List Int):Int:=bif(xs.length:Int)==(0:Int)then hs [229]else QI KK xs
theorem Z4k (f:List Int→Option (List Int))(hf:∀xs:List Int,xs.length≤1050000→f xs=some (up xs))(l:Nat→List Int→Option Int)(u:∀n xs,l (n+1) xs=(bif decide ((xs.length:Int)>(1:Int))then(f xs).bind fun y2=>l n y2 else bif decide (0≤(0:Int))then bif decide ((0:Int)<(xs.length:Int))then some (xs.getD ((0:Int).toNat) (0:Int))else none else none)):∀(n:Nat) (xs:List Int),0<xs.length→xs.length<n→xs.length≤1050000→l n xs=some (QI n xs):=by
 intro n
 induction n with
 |zero=>intro xs h0 h1;omega
 |succ n ih=>
  intro xs h0 h1 h2
  rw[u]
  show _=some (bif decide ((xs.length:Int)>(1:Int))then QI n (up xs)else xs.getD 0 0)
  by_cases h:1<xs.length
  ·rw[decide_eq_true (show(xs.length:Int)>1 by omega),cond_t,cond_t,hf xs h2,bind_s]
   have:=Z1X xs
   exact ih _ (by omega) (by omega) (by omega)
  ·rw[decide_eq_false (show¬(xs.length:Int)>1 by omega),cond_f,cond_f]
   exact cT rfl (cT (decide_eq_true (by omega)) rfl)
theorem Z44 (xs:List Int)(hx:xs.length≤1050000):Yn xs=some (Z0m xs):=by
 unfold Yn Z0m
 cases h:((xs.length:Int)==(0:Int))with
 |true=>exact cT h (Zc (Uv _ (by show 1≤_;omega)) rfl)
 |false=>
  have h0:(xs.length:Int)≠0:=by simpa using h
  exact cF h (Z4k Yo Z45 Yn.l8 (fun n xs=>Yn.u8 n xs) KK xs (by omega) (KK_gt (by omega)) hx)
noncomputable def Z1w (n t:Int):Int:=hs [231,n,t]
noncomputable def Z1x (xs:List Z7):Int:=Z1w (xs.length:Int) (Z0m (leaves xs))
theorem Z3Z (n t:Int):Wy n t=some (Z1w n t):=Zc (Uv _ (by show 3≤_;omega)) rfl
theorem Z1H (xs:List Z7)(hx:Yj xs≤1050000):XM xs=some (Z1x xs):=by
 unfold XM
 have hl:xs.length≤1050000:=by unfold Yj X7 at hx;omega
 exact Zc (Z3V xs hx) (Zc (Z44 _ (by rw[Z3p];exact hl)) (Zc (Z3Z _ _) rfl))
theorem Z3l (xs:List Z7)(hx:Yj xs≤1050000):Yv xs=some xs:=
 Z0K xs Wz Xz (by unfold Yj X7 at hx;omega) (fun i h=>Qv _ (QQ h hx)) (fun n ys a=>Yv.l6 xs n a ys) (fun n ys a=>Yv.u6 xs n a ys)
noncomputable def Ur (k:Z8)(s:Int)(xs:List Z7)(now u:Int):Z4:=Xs (UO k s) 0 1 now u (xs.length:Int) (Z1x xs) s k U9 0 U9 false
theorem Z2z (k:Z8)(s:Int)(xs:List Z7)(now u:Int):Yx (Ur k s xs now u)=k.1.length:=by
 show k.1.length+(([]:List Int).length+([]:List Int).length)=_
 rfl
noncomputable def QS (k:Z8)(s:Int)(xs:List Z7)(now term:Int):Bool:=QM xs&&((Xn now 0 100000&&Xn term 0 200)&&Xo (Ur k s xs now (IntKind.i64.wrap (now+term))))
noncomputable def Qg (k:Z8)(s:Int)(xs:List Z7)(now term:Int):XE:=bif QS k s xs now term then U2 (Ur k s xs now (IntKind.i64.wrap (now+term))) true else U3
theorem Z0c (k:Z8)(s:Int)(xs:List Z7)(now term:Int)(v:Bool)(hk:k.1.length≤1050000)(hx:Yj xs≤1050000):Yy.l5 k s xs now term v=some (bif !v&&Xo (Ur k s xs now (IntKind.i64.wrap (now+term)))then U2 (Ur k s xs now (IntKind.i64.wrap (now+term))) true else U3):=by
 cases v with
 |true=>rfl
 |false=>
  refine Zc (Z1M k s hk) (Zc (Z1H xs hx) (Zc (Q3 k hk) (Zc (QC (Ur k s xs now (IntKind.i64.wrap (now+term))) (by rw[Z2z];exact hk)) ?_)))
  cases Xo (Ur k s xs now (IntKind.i64.wrap (now+term)))<;>rfl
theorem Z3H (k:Z8)(s:Int)(xs:List Z7)(now term:Int)(hk:k.1.length≤1050000)(hx:Yj xs≤1050000):Yy k s xs now term=some (Qg k s xs now term):=by
 unfold Yy Qg QS
 refine Zc (Z0b xs hx) ?_
 cases QM xs with
 |false=>exact Z0c k s xs now term true hk hx
 |true=>
  refine cF rfl (Zc (Qu _ _ _) ?_)
  cases Xn now 0 100000 with
  |false=>exact Z0c k s xs now term true hk hx
  |true=>
   refine cF rfl (Zc (Qu _ _ _) ?_)
   rw[Z0c k s xs now term _ hk hx]
   cases Xn term 0 200<;>rfl
theorem Z1r (p:Z4)(s:Z0)(h:Ww p s=true):Xo p=true∧Xo (Z5 s)=true∧ZC (Z5 s)=ZC p∧Ya (Z5 s)=IntKind.i64.wrap ((Ya p)+(1:Int)):=by
 unfold Ww WZ at h
 cases h1:(Xo p&&Xo (Z5 s))with
 |false=>rw[h1]at h;cases h
 |true=>
  cases h2:Uh p (Z5 s)with
  |false=>rw[h1,h2]at h;cases h
  |true=>
   rw[Bool.and_eq_true]at h1
   unfold Uh at h2
   simp only[Bool.and_eq_true]at h2
   exact⟨h1.1,h1.2,eq_of_beq h2.1,eq_of_beq h2.2.1⟩
theorem Z31 (x:Z4)(h:Xo x=true):0≤Ya x∧Ya x≤200:=by
 unfold Xo UV at h
 simp only[Bool.and_eq_true]at h
 have h1:=h.1.2.2.2.1
 unfold Xn at h1
 simp only[Bool.and_eq_true,decide_eq_true_eq]at h1
 exact h1
theorem Z2D (xs:List Z0):∀(p:Z4) (k:Int),0≤k→fw (some p) xs k<0→∀i (hi:i<xs.length),Ya (Z5 xs[i])=Ya p+1+i∧ZC (Z5 xs[i])=ZC p:=by
 induction xs with
 |nil=>intro p k _ _ i hi;simp at hi
 |cons s t ih=>
  intro p k hk h i hi
  unfold fw at h
  cases hf:Ww p s with
  |false=>rw[hf]at h;exact absurd h (by show¬k<0;omega)
  |true=>
   rw[hf]at h
   have hm:=Z1r p s hf
   have hp:=Z31 p hm.1
   have he:Ya (Z5 s)=Ya p+1:=by rw[hm.2.2.2,w64 (by omega) (by omega)]
   cases i with
   |zero=>exact⟨by show Ya (Z5 s)=_;rw[he];simp,hm.2.2.1⟩
   |succ i=>
    have hi2:i<t.length:=by simpa using hi
    have:=ih (Z5 s) (k+1) (by omega) h i hi2
    refine⟨?_,?_⟩
    ·show Ya (Z5 t[i])=_
     rw[this.1,he];omega
    ·show ZC (Z5 t[i])=_
     rw[this.2,hm.2.2.1]
theorem Z0D (xs:List Z0)(h:Xm xs=true):∀i (hi:i<xs.length),Ya (Z5 xs[i])=i∧ZC (Z5 xs[i])=ZC (Z5 (xs.getD 0 Zl)):=by
 unfold Xm at h
 rw[Bool.and_eq_true]at h
 have h:=of_decide_eq_true h.2
 cases xs with
 |nil=>intro i hi;simp at hi
 |cons s t=>
  unfold fw at h
  cases hf:W2 s with
  |false=>rw[hf]at h;exact absurd h (by show¬(0:Int)<0;omega)
  |true=>
   rw[hf]at h
   have e0:Ya (Z5 s)=0:=by
    unfold W2 at hf
    simp only[Bool.and_eq_true]at hf
    exact eq_of_beq hf.2.1
   intro i hi
   cases i with
   |zero=>exact⟨e0,rfl⟩
   |succ i=>
    have hi2:i<t.length:=by simpa using hi
    have:=Z2D t (Z5 s) _ (by omega) h i hi2
    refine⟨?_,this.2⟩
    show Ya (Z5 t[i])=_
    rw[this.1,e0];omega
theorem Z2E (xs:List Z0):∀(p:Z4) (k:Int),0≤k→fw (some p) xs k<0→∀i (hi:i<xs.length),Xo (Z5 xs[i])=true:=by
 induction xs with
 |nil=>intro p k _ _ i hi;simp at hi
 |cons s t ih=>
  intro p k hk h i hi
  unfold fw at h
  cases hf:Ww p s with
  |false=>rw[hf]at h;exact absurd h (by show¬k<0;omega)
  |true=>
   rw[hf]at h
   have hm:=Z1r p s hf
   cases i with
   |zero=>exact hm.2.1
   |succ i=>
    have hi2:i<t.length:=by simpa using hi
    exact ih (Z5 s) (k+1) (by omega) h i hi2
theorem Z2l (xs:List Z0)(h:Xm xs=true):∀i (hi:i<xs.length),Xo (Z5 xs[i])=true:=by
 unfold Xm at h
 rw[Bool.and_eq_true]at h
 have h:=of_decide_eq_true h.2
 cases xs with
 |nil=>intro i hi;simp at hi
 |cons s t=>
  unfold fw at h
  cases hf:W2 s with
  |false=>rw[hf]at h;exact absurd h (by show¬(0:Int)<0;omega)
  |true=>
   rw[hf]at h
   intro i hi
   cases i with
   |zero=>
    unfold W2 at hf
    simp only[Bool.and_eq_true]at hf
    exact hf.1
   |succ i=>
    have hi2:i<t.length:=by simpa using hi
    exact Z2E t (Z5 s) _ (by omega) h i hi2
def Ok {α:Type}(o:Option α)(Q:α→Prop):Prop:=∃a,o=some a∧Q a
theorem Ok.bind {α β:Type}{e:Option α}{P:α→Prop}{f:α→Option β}{Q:β→Prop}(h:Ok e P)(hf:∀a,P a→Ok (f a) Q):Ok (e.bind f) Q:=by
 obtain⟨a,rfl,ha⟩:=h
 rw[bind_s]
 exact hf a ha
theorem Ok.ret {α:Type}{a:α}{Q:α→Prop}(h:Q a):Ok (some a) Q:=⟨a,rfl,h⟩
theorem Ok.of {α:Type}{e:Option α}{a:α}{Q:α→Prop}(h:e=some a)(hq:Q a):Ok e Q:=⟨a,h,hq⟩
theorem Ok.mono {α:Type}{e:Option α}{P Q:α→Prop}(h:Ok e P)(hq:∀a,P a→Q a):Ok e Q:=by
 obtain⟨a,h1,h2⟩:=h
 exact⟨a,h1,hq a h2⟩
theorem Ok.ite {α:Type}{c:Bool}{a b:Option α}{Q:α→Prop}(h1:c=true→Ok a Q)(h2:c=false→Ok b Q):Ok (bif c then a else b) Q:=by
 cases c with
 |true=>rw[cond_t];exact h1 rfl
 |false=>rw[cond_f];exact h2 rfl
theorem Ok.chk {α:Type}{c:Bool}{a b:Option α}{Q:α→Prop}(h:c=true)(h1:Ok a Q):Ok (bif c then a else b) Q:=by
 subst h
 rw[cond_t]
 exact h1
theorem Ok.both {α:Type}{x:Option α}{Q:α→Prop}(h:Ok x Q):Ok (V.both x x) Q:=by
 rw[both_eq]
 exact h
def Cu (code:List Int)(c:Z3):Prop:=c.1=code∧0≤c.2.1∧c.2.1≤(code.length:Int)∧code.length≤1050000
theorem Cu.re {code:List Int}{c d:Z3}(h:Cu code c)(h':Cu code d):Cu code (c.1,d.2.1,d.2.2):=⟨h.1,h'.2⟩
theorem Z0u (a:Int):0≤IntKind.i64.wrap ((BitVec.ofInt IntKind.i64.bits a&&&BitVec.ofInt IntKind.i64.bits (255:Int)).toNat:Int)∧IntKind.i64.wrap ((BitVec.ofInt IntKind.i64.bits a&&&BitVec.ofInt IntKind.i64.bits (255:Int)).toNat:Int)≤255:=by
 have h:(BitVec.ofInt IntKind.i64.bits a&&&BitVec.ofInt IntKind.i64.bits (255:Int)).toNat≤255:=by
  rw[BitVec.toNat_and]
  exact Nat.le_trans Nat.and_le_right (by decide)
 rw[w64 (by omega) (by omega)]
 omega
theorem Qc {code:List Int}{c:Z3}(hc:Cu code c):Ok (XQ c) (fun r=>Cu code r.1∧0≤r.2∧r.2≤255):=by
 obtain⟨h1,h2,h3,h4⟩:=hc
 unfold XQ
 refine Ok.chk (by decide) (Ok.chk (by decide) (Ok.ite (fun h=> ?_) (fun _=>Ok.ret ⟨⟨h1,h2,h3,h4⟩,Z0u _⟩)))
 have h:=of_decide_eq_true h
 rw[h1]at h
 refine Ok.chk (decide_eq_true h2) (Ok.chk (decide_eq_true (by rw[h1];exact h)) (Ok.ret ⟨⟨h1,?_,?_,h4⟩,Z0u _⟩))
 ·show 0≤IntKind.i64.wrap (c.2.1+1)
  rw[w64 (by omega) (by omega)]
  omega
 ·show IntKind.i64.wrap (c.2.1+1)≤_
  rw[w64 (by omega) (by omega)]
  omega
theorem YG {code:List Int}{c:Z3}(hc:Cu code c)(n:Int):Ok (Zm c n) (fun r=>Cu code r.1∧0≤r.2∧(0<n→r.2<n)∧(n≤0→r.2=0)):=by
 unfold Zm
 refine Ok.ite (fun h=> ?_) (fun h=> ?_)
 ·have h:=of_decide_eq_true h
  exact Ok.ret ⟨hc,Int.le_refl 0,fun h'=>by omega,fun _=>rfl⟩
 ·have h:=of_decide_eq_false h
  have hn:(n==(0:Int))=false:=by rw[beq_eq_false_iff_ne];omega
  refine Ok.ite (fun _=>(Qc hc).bind fun y hy=> ?_) (fun _=>(Qc hc).bind fun y hy=>(Qc (hc.re hy.1)).bind fun z hz=>(Qc (hc.re hz.1)).bind fun u hu=> ?_)
  ·rw[hn,cond_f]
   exact Ok.ret ⟨hc.re hy.1,Int.tmod_nonneg n hy.2.1,fun h'=>Int.tmod_lt_of_pos _ h',fun h'=>by omega⟩
  ·rw[hn,cond_f]
   obtain⟨_,y1,y2⟩:=hy
   obtain⟨_,z1,z2⟩:=hz
   obtain⟨_,u1,u2⟩:=hu
   have e1:IntKind.i64.wrap (y.2*65536)=y.2*65536:=w64 (by omega) (by omega)
   have e2:IntKind.i64.wrap (z.2*256)=z.2*256:=w64 (by omega) (by omega)
   have e3:IntKind.i64.wrap (y.2*65536+z.2*256)=y.2*65536+z.2*256:=w64 (by omega) (by omega)
   have e4:IntKind.i64.wrap (y.2*65536+z.2*256+u.2)=y.2*65536+z.2*256+u.2:=w64 (by omega) (by omega)
   rw[e1,e2,e3,e4]
   exact Ok.ret ⟨hc.re ‹_›,Int.tmod_nonneg n (by omega),fun h'=>Int.tmod_lt_of_pos _ h',fun h'=>by omega⟩
theorem UL {code:List Int}{c:Z3}(hc:Cu code c)(n:Int):Ok (Xk c n) (fun r=>Cu code r.1):=by
 unfold Xk
 exact(YG hc n).bind fun y hy=>Ok.ret (hc.re hy.1)
theorem Ut {code:List Int}{c:Z3}(hc:Cu code c){xs:List Int}(hx:0<xs.length):Ok (Xj c xs) (fun r=>Cu code r.1∧r.2∈xs):=by
 unfold Xj
 refine(YG hc _).bind fun y hy=> ?_
 obtain⟨h1,h2,h3,_⟩:=hy
 have h3:=h3 (by omega)
 refine Ok.chk (decide_eq_true h2) (Ok.chk (decide_eq_true h3) (Ok.ret ⟨hc.re h1,?_⟩))
 show xs.getD y.2.toNat 0∈xs
 rw[List.getD_eq_getElem?_getD,List.getElem?_eq_getElem (show y.2.toNat<xs.length by omega)]
 exact List.getElem_mem _
theorem Z4i {code:List Int}{c:Z3}(hc:Cu code c){xs:List ByteArray}(hx:0<xs.length):Ok (W7 c xs) (fun r=>Cu code r.1∧r.2∈xs):=by
 unfold W7
 refine(YG hc _).bind fun y hy=> ?_
 obtain⟨h1,h2,h3,_⟩:=hy
 have h3:=h3 (by omega)
 refine Ok.chk (decide_eq_true h2) (Ok.chk (decide_eq_true h3) (Ok.ret ⟨hc.re h1,?_⟩))
 show xs.getD y.2.toNat _∈xs
 rw[List.getD_eq_getElem?_getD,List.getElem?_eq_getElem (show y.2.toNat<xs.length by omega)]
 exact List.getElem_mem _
theorem UT {v:Int}(h:decide (v>(0:Int))=true):0<v:=of_decide_eq_true h
theorem Q6 {v:Int}(h0:0<v)(h1:v≤1000):IntKind.i64.wrap (v-(1:Int))=v-1:=w64 (by omega) (by omega)
theorem WR {α:Type}{xs:List α}{x:α}(h:xs.length≤1050000):decide (xs.length+[x].length<68719476736)=true:=decide_eq_true (by show xs.length+1<_;omega)
theorem WT {α:Type}(xs:List α)(x:α):(xs++[x]).length=xs.length+1:=by simp
theorem QG {α:Type}(f:α→Nat)(xs:List α)(x:α):X7 f (xs++[x])=X7 f xs+1+f x:=by
 unfold X7
 simp only[List.length_append,List.map_append,List.sum_append,List.map_cons,List.map_nil,List.sum_cons,List.sum_nil,List.length_cons,List.length_nil]
 omega
theorem Z4h {code:List Int}{c:Z3}(hc:Cu code c){xs:List ByteArray}{n:Nat}(hx:0<xs.length)(hs:(xs.all fun s=>decide (s.size≤n))=true):Ok (W7 c xs) (fun r=>Cu code r.1∧r.2.size≤n):=
 (Z4i hc hx).mono fun r h=>⟨h.1,of_decide_eq_true (List.all_eq_true.1 hs r.2 h.2)⟩
theorem Z1h {code:List Int}{c:Z3}(hc:Cu code c):Ok (XR c) (fun r=>Cu code r.1∧r.2.size≤9):=by
 unfold XR
 exact(Z4h (n:=9) hc (by decide) (by decide)).bind fun y hy=>Ok.ret ⟨hc.re hy.1,hy.2⟩
theorem Z3c {code:List Int}{x0:Z3}:∀(n:Nat) (v a b:Int) (acc:List ByteArray),v<(n:Int)→0≤v→v≤1000→acc.length+v.toNat≤1000→Cu code (x0.1,a,b)→Ok (Yp.l6 x0 n v a b acc) (fun r=>Cu code r.1∧XX r.2≤XX acc+10*v.toNat):=by
 intro n
 induction n with
 |zero=>intro v a b acc h0 h1;omega
 |succ n ih=>
  intro v a b acc h0 h1 h2 ha hc
  rw[Yp.u6]
  refine Ok.ite (fun h=> ?_) (fun h=>Ok.ret ⟨hc,by show XX acc≤_;omega⟩)
  have h:=UT h
  refine(Z1h hc).bind fun y hy=>Ok.chk (WR (by omega)) ?_
  rw[Q6 h h2]
  refine(ih (v-1) _ _ (acc++[y.2]) (by omega) (by omega) (by omega) (by rw[WT];omega) (hc.re hy.1)).mono fun r hr=>⟨hr.1,?_⟩
  have e:XX (acc++[y.2])=XX acc+1+WG y.2:=QG _ _ _
  have e2:WG y.2≤9:=hy.2
  have:=hr.2
  omega
theorem Z3d {code:List Int}{c:Z3}(hc:Cu code c):Ok (Yp c) (fun r=>Cu code r.1∧XX r.2≤30):=by
 unfold Yp
 refine(YG hc 3).bind fun y hy=> ?_
 obtain⟨h1,h2,h3,_⟩:=hy
 have h3:=h3 (by omega)
 have e:IntKind.i64.wrap ((1:Int)+y.2)=1+y.2:=w64 (by omega) (by omega)
 rw[e]
 have hk:=KK_gt (n:=1000) (by omega)
 refine(Z3c KK (1+y.2) _ _ [] (by omega) (by omega) (by omega) (by show 0+_≤_;omega) (hc.re h1)).mono fun r hr=>⟨hr.1,?_⟩
 have e0:XX []=0:=rfl
 have:=hr.2
 omega
theorem Z3k {code:List Int}{c:Z3}(hc:Cu code c):Ok (Ws c) (fun r=>Cu code r.1∧YN r.2≤39):=by
 unfold Ws
 refine(Z1h hc).bind fun y1 h1=>(YG (hc.re h1.1) 5).bind fun y2 h2=>Ok.ite (fun _=> ?_) fun _=>Ok.ite (fun _=> ?_) fun _=> ?_
 ·refine(YG (hc.re h2.1) 5000).bind fun y3 h3=>Ok.bind (P:=fun e=>YN e≤39) ?_ fun e he=>Ok.ret ⟨hc.re h3.1,he⟩
  exact Ok.ret (by show WG y1.2+0≤39;have:WG y1.2≤9:=h1.2;omega)
 ·refine(YG (hc.re h2.1) 5000).bind fun y3 h3=>(Z3d (hc.re h3.1)).bind fun y6 h6=>Ok.bind (P:=fun e=>YN e≤39) ?_ fun e he=>Ok.ret ⟨hc.re h6.1,he⟩
  have hl:y6.2.length≤1050000:=by have:=h6.2;unfold XX X7 at this;omega
  exact Ok.of (Zc (Z1i y6.2 hl) rfl) (by show WG y1.2+XX y6.2≤39;have:WG y1.2≤9:=h1.2;have:=h6.2;omega)
 ·refine(YG (hc.re h2.1) 50).bind fun y3 h3=>Ok.bind (P:=fun e=>YN e≤39) ?_ fun e he=>Ok.ret ⟨hc.re h3.1,he⟩
  exact Ok.ret (by show WG y1.2+0≤39;have:WG y1.2≤9:=h1.2;omega)
theorem Z4j {α:Type}(f:α→Nat){xs:List α}{i:Nat}(h:i<xs.length):X7 f (xs.drop i)=1+f xs[i]+X7 f (xs.drop (i+1)):=by
 rw[List.drop_eq_getElem_cons h]
 unfold X7
 simp only[List.map_cons,List.sum_cons,List.length_cons]
 omega
theorem QH {α:Type}(f:α→Nat)(xs:List α):xs.length≤X7 f xs:=by unfold X7;omega
theorem Z3v (xs:List Z7)(e:Z7)(hx:Yj xs+YN e≤100000):∀(n i:Nat) (done:Bool) (out:List Z7),xs.length-i<n→i≤xs.length→Yj out+(bif done then 0 else YN e+1)+Yj (xs.drop i)≤Yj xs+YN e+1→
 Ok (Zb.l8 xs e n done (i:Int) out) (fun r=>Yj r.1≤Yj xs+YN e+1):=by
 have hlx:=QH YN xs
 have hl:xs.length≤100000:=by unfold Yj at hx;omega
 have fin:∀out:List Z7,Yj out≤Yj xs+YN e+1→Ok (Zb.l29 xs out) (fun r=>Yj r.1≤Yj xs+YN e+1):=by
  intro out ho
  have tail:∀v:Bool,Ok (Zb.l31 xs out v) (fun r=>Yj r.1≤Yj xs+YN e+1):=by
   intro v
   refine Ok.ite (fun _=> ?_) fun _=>Ok.ret ho
   exact Ok.of (Zc (Z3l xs (by omega)) rfl) (by show Yj xs≤_;omega)
  refine Ok.bind (P:=fun _=>True) (Ok.of (Z0b xs (by omega)) trivial) fun y _=>Ok.ite (fun _=>tail _) fun _=> ?_
  exact Ok.bind (P:=fun _=>True) (Ok.of (Z0b out (by omega)) trivial) fun y _=>tail _
 intro n
 induction n with
 |zero=>intro i done out h0;omega
 |succ n ih=>
  intro i done out h0 h1 hi
  have hlo:=QH YN out
  have hou:Yj out≤100001:=by omega
  have hlo:out.length≤100001:=by unfold Yj at hou;omega
  rw[Zb.u8]
  refine Ok.ite (fun h=> ?_) (fun h=> ?_)
  ·have hlt:i<xs.length:=by have:=of_decide_eq_true h;omega
   have hd:=Z4j YN hlt
   have hd:Yj (xs.drop i)=1+YN xs[i]+Yj (xs.drop (i+1)):=hd
   refine Ok.chk (decide_eq_true (by omega)) (Ok.chk h ?_)
   rw[Int.toNat_natCast,at_n hlt]
   refine Ok.bind (P:=fun _=>True) (Ok.of (Z1y _ _) trivial) fun k _=> ?_
   have hei:YN xs[i]≤1050000:=by omega
   have nx:∀(d:Bool) (o:List Z7),Yj o+(bif d then 0 else YN e+1)+Yj (xs.drop i)≤Yj xs+YN e+1→Ok (Zb.l21 xs e (i:Int) k (Zb.l8 xs e n) d o) (fun r=>Yj r.1≤Yj xs+YN e+1):=by
    intro d o ho
    have hlo:o.length≤Yj o:=QH YN o
    have hlo:o.length≤1050000:=by omega
    refine Ok.ite (fun _=> ?_) fun _=> ?_
    ·refine Ok.chk (decide_eq_true (by omega)) (Ok.chk h ?_)
     rw[Int.toNat_natCast,at_n hlt,w64_succ (by omega)]
     refine Ok.bind (P:=fun y=>y=xs[i]) (Ok.of (Qv _ hei) rfl) fun y hy=>Ok.chk (WR hlo) ?_
     subst hy
     refine ih (i+1) d _ (by omega) (by omega) ?_
     have e2:Yj (o++[xs[i]])=Yj o+1+YN xs[i]:=QG _ _ _
     omega
    ·rw[w64_succ (by omega)]
     exact ih (i+1) d o (by omega) (by omega) (by omega)
   have cs:∀v:Bool,(v=true→done=false)→Ok (Zb.l17 xs e done (i:Int) out k (Zb.l8 xs e n) v) (fun r=>Yj r.1≤Yj xs+YN e+1):=by
    intro v hv
    refine Ok.ite (fun h=> ?_) fun _=>nx _ _ hi
    have hd:=hv h
    subst hd
    rw[cond_f]at hi
    refine Ok.bind (P:=fun y=>y=e) (Ok.of (Qv _ (by omega)) rfl) fun y hy=>Ok.chk (WR (by omega)) (nx _ _ ?_)
    subst hy
    have e2:Yj (out++[y])=Yj out+1+YN y:=QG _ _ _
    rw[cond_t]
    omega
   exact Ok.ite (fun _=>cs _ (fun h=>by cases done<;>simp_all)) (fun _=>cs _ (fun h=>by cases h))
  ·have e0:i=xs.length:=by have:=of_decide_eq_false h;omega
   subst e0
   rw[List.drop_length]at hi
   have e0:Yj []=0:=rfl
   refine Ok.ite (fun h=> ?_) (fun h=>fin _ (by omega))
   have hd:done=false:=by cases done<;>simp_all
   subst hd
   rw[cond_f]at hi
   refine Ok.bind (P:=fun y=>y=e) (Ok.of (Qv _ (by omega)) rfl) fun y hy=>Ok.chk (WR (by omega)) (fin _ ?_)
   subst hy
   have e2:Yj (out++[y])=Yj out+1+YN y:=QG _ _ _
   omega
theorem Z3w (xs:List Z7)(e:Z7)(hx:Yj xs+YN e≤100000):Ok (Zb xs e) (fun r=>Yj r.1≤Yj xs+YN e+1):=by
 have hlx:=QH YN xs
 have hlx:xs.length≤100000:=by unfold Yj at hx;omega
 refine Z3v xs e hx KK 0 false [] (KK_gt (by omega)) (Nat.zero_le _) ?_
 have e0:Yj []=0:=rfl
 rw[cond_f,List.drop_zero]
 omega
theorem Z3m {code:List Int}{x0:Z3}:∀(n:Nat) (v a b:Int) (acc:List Z7),v<(n:Int)→0≤v→v≤1000→Yj acc+40*v.toNat≤50000→Cu code (x0.1,a,b)→Ok (Y9.l6 x0 n v a b acc) (fun r=>Cu code r.1∧Yj r.2≤Yj acc+40*v.toNat):=by
 intro n
 induction n with
 |zero=>intro v a b acc h0 h1;omega
 |succ n ih=>
  intro v a b acc h0 h1 h2 ha hc
  rw[Y9.u6]
  refine Ok.ite (fun h=> ?_) (fun h=>Ok.ret ⟨hc,by show Yj acc≤_;omega⟩)
  have h:=UT h
  refine(Z3k hc).bind fun y hy=> ?_
  have hy2:=hy.2
  refine(Z3w acc y.2 (by omega)).bind fun z hz=> ?_
  rw[Q6 h h2]
  refine(ih (v-1) _ _ z.1 (by omega) (by omega) (by omega) (by omega) (hc.re hy.1)).mono fun r hr=>⟨hr.1,?_⟩
  have:=hr.2
  omega
theorem Z1l {code:List Int}{c:Z3}(hc:Cu code c):Ok (Y9 c) (fun r=>Cu code r.1∧Yj r.2≤240):=by
 unfold Y9
 refine(YG hc 7).bind fun y hy=> ?_
 obtain⟨h1,h2,h3,_⟩:=hy
 have h3:=h3 (by omega)
 have hk:=KK_gt (n:=1000) (by omega)
 have e0:Yj []=0:=rfl
 refine(Z3m KK y.2 _ _ [] (by omega) (by omega) (by omega) (by omega) (hc.re h1)).mono fun r hr=>⟨hr.1,?_⟩
 have:=hr.2
 omega
theorem Z3h {code:List Int}{x0:Z3}{m:Int}(hm:m≤1000):∀(n:Nat) (t i a b:Int) (acc:List Int),m-i<(n:Int)→0≤i→i≤m→(acc.length:Int)=i→Cu code (x0.1,a,b)→Ok (ZG.l10 x0 n m t i a b acc) (fun r=>Cu code r.1∧(r.2.1.length:Int)=m):=by
 intro n
 induction n with
 |zero=>intro t i a b acc h0 h1 h2;omega
 |succ n ih=>
  intro t i a b acc h0 h1 h2 ha hc
  rw[ZG.u10]
  refine Ok.ite (fun h=> ?_) (fun h=> ?_)
  ·have h:=of_decide_eq_true h
   refine(YG hc 3).bind fun y hy=>Ok.chk (WR (by omega)) ?_
   have e:IntKind.i64.wrap (i+(1:Int))=i+1:=w64 (by omega) (by omega)
   rw[e]
   exact ih _ (i+1) _ _ _ (by omega) (by omega) (by omega) (by rw[WT];omega) (hc.re hy.1)
  ·have h:=of_decide_eq_false h
   exact(YG hc m).bind fun y hy=>Ok.ret ⟨hc.re hy.1,by show(acc.length:Int)=m;omega⟩
theorem WY {code:List Int}{c:Z3}(hc:Cu code c):Ok (ZG c) (fun r=>Cu code r.1∧r.2.1.length≤3):=by
 unfold ZG
 refine(YG hc 3).bind fun y hy=>(YG (hc.re hy.1) 4).bind fun z hz=> ?_
 obtain⟨h1,h2,h3,_⟩:=hy
 have h3:=h3 (by omega)
 have e:IntKind.i64.wrap ((1:Int)+y.2)=1+y.2:=w64 (by omega) (by omega)
 rw[e]
 have hk:=KK_gt (n:=2000) (by omega)
 refine(Z3h (m:=1+y.2) (by omega) KK z.2 0 _ _ [] (by omega) (by omega) (by omega) rfl (hc.re hz.1)).mono fun r hr=>⟨hr.1,?_⟩
 have:=hr.2
 omega
theorem Z1j {code:List Int}{c:Z3}(hc:Cu code c):Ok (W8 c) (fun r=>Cu code r.1∧r.2.1.length≤4):=by
 unfold W8
 refine(WY hc).bind fun y1 h1=>(YG (hc.re h1.1) 10).bind fun y2 h2=>Ok.ite (fun _=> ?_) fun _=>Ok.ite (fun _=> ?_) fun _=>Ok.ite (fun _=> ?_) fun _=> ?_
 ·exact(Ut (hc.re h2.1) (by decide)).bind fun y3 h3=>Ok.ret ⟨hc.re h3.1,Nat.le_succ_of_le h1.2⟩
 ·have one:Ok ((Xj (c.1,y2.1.2.1,y2.1.2.2) [(1:Int),(99:Int),(100:Int)]).bind fun y4=>bif decide (y1.2.1.length+[y4.2].length<68719476736)then some ((c.1,y4.1.2.1,y4.1.2.2),y1.2.1++[y4.2],y1.2.2)else none) (fun r=>Cu code r.1∧r.2.1.length≤4):=
   (Ut (hc.re h2.1) (by decide)).bind fun y3 h3=>Ok.chk (WR (Nat.le_trans h1.2 (by decide))) (Ok.ret ⟨hc.re h3.1,by show(y1.2.1++[y3.2]).length≤4;rw[WT];have:=h1.2;omega⟩)
  simp only[both_eq]
  exact one
 ·exact Ok.ret ⟨hc.re h2.1,by show([]:List Int).length≤4;decide⟩
 ·exact Ok.ret ⟨hc.re h2.1,Nat.le_succ_of_le h1.2⟩
theorem Z3b {code:List Int}(hl:code.length≤1050000):∀(n i:Nat) (v:Int),code.length-i<n→i≤code.length→Ok (Zv.l6 code n v (i:Int)) (Cu code):=by
 intro n
 induction n with
 |zero=>intro i v h0;omega
 |succ n ih=>
  intro i v h0 h1
  rw[Zv.u6]
  have ret:∀v:Int,Ok (some ((code,(0:Int),v):Z3)) (Cu code):=fun v=>Ok.ret ⟨rfl,Int.le_refl 0,by show(0:Int)≤_;omega,hl⟩
  refine Ok.ite (fun h=>Ok.ite (fun _=> ?_) fun _=>ret v) fun _=>ret v
  have hlt:i<code.length:=by have:=of_decide_eq_true h;omega
  unfold Zv.l11
  refine Ok.chk (decide_eq_true (by omega)) (Ok.chk h ?_)
  rw[w64_succ (by omega)]
  exact ih (i+1) _ (by omega) (by omega)
theorem Z1g {code:List Int}(hl:code.length≤1050000):Ok (Zv code) (Cu code):=
 Z3b hl KK 0 _ (KK_gt (by omega)) (Nat.zero_le _)
def kB (h:Z4):Prop:=(Zd h).1.length≤4∧(Zg h).1.length≤4∧(Zh h).1.length≤4
theorem Qr {h:Z4}(hk:kB h):Yx h≤12:=by
 obtain⟨h1,h2,h3⟩:=hk
 unfold Yx WF
 omega
def sB (s:Z0):Prop:=kB (Z5 s)∧(ZD s).length≤8
theorem Ud {s:Z0}(hs:sB s):Ym s≤20:=by
 have h1:=Qr hs.1
 have h2:=hs.2
 unfold Ym
 omega
theorem Z47 {sk:List Int}{k:Z8}{h:Z4}(hh:kB h)(hk:k.1.length≤4):sB (Z1O sk k h):=by
 have:=Z1Q sk (YD h) k.1 []
 rw[List.length_nil,Nat.zero_add]at this
 exact⟨hh,by show(U7 sk (YD h) k.1 []).length≤8;omega⟩
theorem QF {sk:List Int}{k:Z8}{h:Z4}(hh:kB h)(hk:k.1.length≤4)(hs:sk.length≤4):Ok (YL sk k h) sB:=
 Ok.of (Z41 sk k h (by omega) (by omega) (Nat.le_trans (Qr hh) (by decide))) (Z47 hh hk)
theorem Z1a {code:List Int}{x0:Z3}{a b v1 v2 v25 v26:Int}{y1 y2 y4 y5 y6 y7:Z3×Int}{y8:Z3×List Int×Int}{l:List Int}(hc:Cu code (x0.1,v1,v2))(h8:y8.2.1.length≤3)(hl:l.length≤3):Ok (ZH.l13 x0 a b y1 y2 y4 y5 y6 y7 y8 v1 v2 v25 v26 l) (fun r=>Cu code r.1∧kB r.2):=by
 refine(UL hc 2).bind fun y h=>Ok.ite (fun _=> ?_) fun _=>Ok.ret ⟨hc.re h,Nat.le_succ_of_le h8,Nat.le_succ_of_le hl,Nat.zero_le _⟩
 exact(WY (hc.re h)).bind fun z hz=>(UL (hc.re hz.1) 3).bind fun u hu=>Ok.ret ⟨hc.re hu,Nat.le_succ_of_le h8,Nat.le_succ_of_le hl,Nat.le_succ_of_le hz.2⟩
theorem Z37 {code:List Int}{c:Z3}(hc:Cu code c):Ok (ZH c) (fun r=>Cu code r.1∧kB r.2):=by
 unfold ZH ZH.b
 simp only[both_eq]
 refine(YG hc 50).bind fun y1 h1=>(YG (hc.re h1.1) 4).bind fun y2 h2=>(YG (hc.re h2.1) 3).bind fun y3 h3=>(YG (hc.re h3.1) 40).bind fun y4 h4=>(YG (hc.re h4.1) 90).bind fun y5 h5=>(YG (hc.re h5.1) 9).bind fun y6 h6=>(YG (hc.re h6.1) 5).bind fun y7 h7=>(WY (hc.re h7.1)).bind fun y8 h8=>(YG (hc.re h8.1) 60).bind fun y9 h9=> ?_
 refine(UL (hc.re h9.1) 2).bind fun y h=>Ok.ite (fun _=> ?_) fun _=>Z1a (hc.re h) h8.2 (Nat.zero_le _)
 exact(WY (hc.re h)).bind fun z hz=>(YG (hc.re hz.1) 30).bind fun u hu=>Z1a (hc.re hu.1) h8.2 hz.2
theorem Z36 {code:List Int}{c:Z3}(hc:Cu code c):Ok (Wr c) (fun r=>Cu code r.1∧kB r.2):=by
 unfold Wr
 refine(Z37 hc).bind fun y1 h1=>(YG (hc.re h1.1) 14).bind fun y2 h2=>Ok.ite (fun _=> ?_) fun _=>Ok.ite (fun _=> ?_) fun _=>Ok.ite (fun _=> ?_) fun _=>Ok.ite (fun _=> ?_) fun _=>Ok.ite (fun _=> ?_) fun _=>Ok.ite (fun _=> ?_) fun _=>Ok.ite (fun _=> ?_) fun _=> ?_
 ·exact(Ut (hc.re h2.1) (by decide)).bind fun y h=>Ok.ret ⟨hc.re h.1,h1.2⟩
 ·exact(Ut (hc.re h2.1) (by decide)).bind fun y h=>Ok.ret ⟨hc.re h.1,h1.2⟩
 ·exact(Ut (hc.re h2.1) (by decide)).bind fun y h=>Ok.ret ⟨hc.re h.1,h1.2⟩
 ·exact(Z1j (hc.re h2.1)).bind fun y h=>Ok.ret ⟨hc.re h.1,h.2,h1.2.2.1,h1.2.2.2⟩
 ·exact(Ut (hc.re h2.1) (by decide)).bind fun y h=>Ok.ret ⟨hc.re h.1,h1.2⟩
 ·exact Ok.ret ⟨hc.re h2.1,h1.2⟩
 ·exact(Z1j (hc.re h2.1)).bind fun y h=>Ok.ret ⟨hc.re h.1,h1.2.1,h1.2.2.1,h.2⟩
 ·exact Ok.ret ⟨hc.re h2.1,h1.2⟩
theorem Z3f {code:List Int}{x0:Z3}:∀(n:Nat) (v a b:Int) (acc:List Int),v<(n:Int)→0≤v→v≤1000→acc.length+v.toNat≤1000→Cu code (x0.1,a,b)→Ok (Yq.l6 x0 n v a b acc) (fun r=>Cu code r.1∧r.2.length≤acc.length+v.toNat):=by
 intro n
 induction n with
 |zero=>intro v a b acc h0 h1;omega
 |succ n ih=>
  intro v a b acc h0 h1 h2 ha hc
  rw[Yq.u6]
  refine Ok.ite (fun h=> ?_) (fun h=>Ok.ret ⟨hc,by show acc.length≤_;omega⟩)
  have h:=UT h
  refine(YG hc 9).bind fun y hy=>Ok.chk (WR (by omega)) ?_
  rw[Q6 h h2]
  refine(ih (v-1) _ _ _ (by omega) (by omega) (by omega) (by rw[WT];omega) (hc.re hy.1)).mono fun r hr=>⟨hr.1,?_⟩
  have:=hr.2
  rw[WT]at this
  omega
theorem Z3g {code:List Int}{c:Z3}(hc:Cu code c):Ok (Yq c) (fun r=>Cu code r.1∧r.2.length≤6):=by
 unfold Yq
 refine(YG hc 6).bind fun y hy=> ?_
 obtain⟨h1,h2,h3,_⟩:=hy
 have h3:=h3 (by omega)
 have hk:=KK_gt (n:=1000) (by omega)
 refine(Z3f KK y.2 _ _ [] (by omega) (by omega) (by omega) (by show 0+_≤_;omega) (hc.re h1)).mono fun r hr=>⟨hr.1,?_⟩
 have:r.2.length≤0+y.2.toNat:=hr.2
 omega
theorem Z1Y {α:Type}(xs:List α)(i:Nat)(f:α→α):(V.upd xs i f).length=xs.length:=by
 induction xs generalizing i with
 |nil=>rfl
 |cons x xs ih=>
  cases i with
  |zero=>rfl
  |succ i=>show(V.upd xs i f).length+1=xs.length+1;rw[ih]
theorem Z3i {code:List Int}{x0:Z3}{v1 v2:Int}{s:List Z6}(hc:Cu code (x0.1,v1,v2))(hs:s.length≤4):Ok (YC.l5 x0 v1 v2 s) (fun r=>Cu code r.1∧r.2.length≤8):=by
 refine(YG hc 6).bind fun y3 h3=>Ok.ite (fun _=> ?_) fun _=>Ok.ite (fun _=> ?_) fun _=>Ok.ite (fun _=> ?_) fun _=> ?_
 ·exact(Ut (hc.re h3.1) (by decide)).bind fun y4 h4=>(YG (hc.re h4.1) 9).bind fun y5 h5=>Ok.chk (WR (by omega)) (Ok.ret ⟨hc.re h5.1,by show(s++[_]).length≤8;rw[WT];omega⟩)
 ·exact Ok.chk (decide_eq_true (by omega)) (Ok.ret ⟨hc.re h3.1,by show(s++s).length≤8;rw[List.length_append];omega⟩)
 ·refine Ok.ite (fun h=> ?_) fun _=>Ok.ret ⟨hc.re h3.1,by show s.length≤8;omega⟩
  exact Ok.chk (by decide) (Ok.chk h (Ok.chk (by decide) (Ok.chk h (Ok.ret ⟨hc.re h3.1,by show(V.upd s _ _).length≤8;rw[Z1Y];omega⟩))))
 ·exact Ok.ret ⟨hc.re h3.1,by show s.length≤8;omega⟩
theorem Z3j {code:List Int}{c:Z3}(hc:Cu code c){k:Z8}{m:List Int}(hk:k.1.length≤4)(hm:m.length≤8388608):Ok (YC c k m) (fun r=>Cu code r.1∧r.2.length≤8):=by
 unfold YC YC.b
 simp only[both_eq]
 refine(Z3g hc).bind fun y hy=>Ok.bind (P:=fun s=>s.length≤4) ?_ fun s hs=>Z3i (hc.re hy.1) hs
 have hl:=hy.2
 refine Ok.of (Z1J y.2 k m (by omega) (by omega) hm) ?_
 have:=Z1Q y.2 m k.1 []
 rw[List.length_nil,Nat.zero_add]at this
 omega
theorem Z06 {code:List Int}{x0:Z3}{v18 v19 v20 v21 v22 v23 v24 v25 v26 v1 v2 v27 v28 v29:Int}{b:Bool}{l1 l2 l3:List Int}{y1:Z3×List Int×Int}(hc:Cu code (x0.1,v1,v2))(h1:y1.2.1.length≤3)(hl1:l1.length≤4)(hl2:l2.length≤4)(hl3:l3.length≤4):Ok (ZE.l25 x0 v18 v19 v20 v21 v22 v23 v24 v25 v26 b l1 y1 v1 v2 v27 v28 v29 l2 l3) (fun r=>Cu code r.1∧sB r.2):=by
 refine(QF ?_ ?_ ?_).bind fun y hy=>Ok.ret ⟨hc,hy⟩
 ·exact⟨hl1,hl2,hl3⟩
 ·exact Nat.le_succ_of_le h1
 ·exact Nat.le_succ_of_le h1
theorem Z2B {k:Z8}{s:Int}{xs:List Z7}{now term:Int}(hk:k.1.length≤3):kB (Zq (Qg k s xs now term)):=by
 unfold Qg
 cases QS k s xs now term with
 |true=>exact⟨Nat.le_succ_of_le hk,Nat.zero_le _,Nat.zero_le _⟩
 |false=>exact⟨Nat.zero_le _,Nat.zero_le _,Nat.zero_le _⟩
theorem Z1c {code:List Int}{c:Z3}(hc:Cu code c):Ok (ZE c) (fun r=>Cu code r.1∧sB r.2):=by
 unfold ZE ZE.b
 simp only[both_eq]
 refine(WY hc).bind fun y1 h1=>(YG (hc.re h1.1) 9).bind fun y2 h2=>(Z1l (hc.re h2.1)).bind fun y3 h3=>(YG (hc.re h3.1) 40).bind fun y4 h4=>(YG (hc.re h4.1) 60).bind fun y5 h5=>Ok.bind (P:=fun y=>kB (Zq y)) ?_ fun y6 h6=> ?_
 ·have hx:=h3.2
  have hk:=h1.2
  exact Ok.of (Z3H y1.2 y2.2 y3.2 y4.2 y5.2 (by show y1.2.1.length≤_;omega) (by omega)) (Z2B h1.2)
 ·refine(YG (hc.re h5.1) 4).bind fun y7 h7=>Ok.ite (fun _=> ?_) fun _=>Ok.ite (fun _=> ?_) fun _=>Z06 (hc.re h7.1) h1.2 h6.1 h6.2.1 h6.2.2
  ·exact(WY (hc.re h7.1)).bind fun y8 h8=>(YG (hc.re h8.1) 30).bind fun y9 h9=>Z06 (hc.re h9.1) h1.2 h6.1 (Nat.le_succ_of_le h8.2) h6.2.2
  ·exact(WY (hc.re h7.1)).bind fun y8 h8=>Z06 (hc.re h8.1) h1.2 h6.1 h6.2.1 (Nat.le_succ_of_le h8.2)
theorem Z1b {code:List Int}{c:Z3}(hc:Cu code c):Ok (XP c) (fun r=>Cu code r.1∧sB r.2):=by
 unfold XP
 refine(Z1c hc).bind fun y1 h1=>(YG (hc.re h1.1) 8).bind fun y2 h2=>Ok.ite (fun _=> ?_) fun _=>Ok.ite (fun _=> ?_) fun _=>Ok.ite (fun _=> ?_) fun _=> ?_
 ·exact(Z36 (hc.re h2.1)).bind fun y3 h3=>Ok.ret ⟨hc.re h3.1,h3.2,h1.2.2⟩
 ·refine Ok.bind (P:=fun m=>m.length≤8388608) ?_ fun m hm=>(Z3j (hc.re h2.1) (show _≤4 from h1.2.1.1) hm).bind fun y5 h5=>Ok.ret ⟨hc.re h5.1,h1.2.1,h5.2⟩
  have hz:=Qr h1.2.1
  have hm:(YD (Z5 y1.2)).length≤8388608:=by rw[WL];omega
  exact Ok.of (U0 _ (Nat.le_trans hz (by decide))) hm
 ·refine(QF ?_ ?_ ?_).bind fun y6 h6=>Ok.ret ⟨hc.re h2.1,h6⟩
  ·exact h1.2.1
  ·exact h1.2.1.1
  ·exact h1.2.1.1
 ·exact Ok.ret ⟨hc.re h2.1,h1.2⟩
theorem Uu {code:List Int}{x0:Z3}{a b v1 v2 v18 v19 v20 v21 v22 v24 v25 v26 v27 v33:Int}{h:Z4}{f:Bool}{l1 l2 l3 l4:List Int}(hc:Cu code (x0.1,v1,v2))(h1:l1.length≤4)(h2:l2.length≤4)(h3:l3.length≤4)(h4:l4.length≤4):Ok (Z9.l63 x0 a h b v1 v2 v18 v19 v20 v21 v22 v24 v25 v26 v27 f l1 l2 l3 l4 v33) (fun r=>Cu code r.1∧sB r.2):=by
 refine(QF ?_ ?_ ?_).bind fun y hy=>Ok.ret ⟨hc,hy⟩
 ·exact⟨h1,h2,h3⟩
 ·exact h4
 ·exact h4
theorem Z3t {code:List Int}{x0:Z3}{x1 y1:Z4}{a b v1 v2 v35 v36:Int}(hc:Cu code (x0.1,v1,v2))(hx:kB x1)(hy:kB y1):Ok (Z9.l27 x0 x1 a v35 y1 b v1 v2 v36) (fun r=>Cu code r.1∧sB r.2):=by
 refine Ok.bind (P:=fun k=>k=Zg x1) (Ok.of (Q3 _ (by have:=hx.2.1;omega)) rfl) fun k hk=> ?_
 subst hk
 exact Uu hc hx.2.1 hy.2.1 hy.2.2 hx.2.1
theorem Z3s {code:List Int}{x0:Z3}{x1 y1:Z4}{a b v1 v2 v35 v36:Int}(hc:Cu code (x0.1,v1,v2))(hx:kB x1)(hy:kB y1):Ok (Z9.l25 x0 x1 a v36 y1 b v1 v2 v35) (fun r=>Cu code r.1∧sB r.2):=by
 unfold Z9.l25 Z9.g25
 simp only[both_eq]
 exact(YG hc 60).bind fun y h=>Z3t (hc.re h.1) hx hy
theorem Z1t {code:List Int}{x0:Z3}{x1 y1:Z4}{a b v1 v2 v35 v36:Int}{f g:Bool}(hc:Cu code (x0.1,v1,v2))(hx:kB x1)(hy:kB y1):Ok (Z9.l41 x0 x1 a v35 v36 y1 b f v1 v2 g) (fun r=>Cu code r.1∧sB r.2):=
 Ok.ite (fun _=>(WY hc).bind fun y h=>Uu (hc.re h.1) (Nat.le_succ_of_le h.2) hy.2.1 hy.2.2 hx.2.2) fun _=>Uu hc hy.1 hy.2.1 hy.2.2 hx.2.2
theorem Z3r {code:List Int}{x0:Z3}{x1 y1:Z4}{a b v1 v2 v35 v36:Int}(hc:Cu code (x0.1,v1,v2))(hx:kB x1)(hy:kB y1):Ok (Z9.l13 x0 x1 a v35 y1 b v1 v2 v36) (fun r=>Cu code r.1∧sB r.2):=by
 unfold Z9.l13 Z9.g13
 simp only[both_eq]
 refine(YG hc 6).bind fun y5 h5=>Ok.ite (fun _=> ?_) fun _=>Ok.ite (fun _=>Ok.ite (fun _=> ?_) fun _=> ?_) fun _=>Ok.ite (fun _=> ?_) fun _=>Ok.ite (fun _=> ?_) fun _=>Ok.ite (fun _=> ?_) fun _=> ?_
 ·exact(YG (hc.re h5.1) 3).bind fun y h=>Z3s (hc.re h.1) hx hy
 ·exact(UL (hc.re h5.1) 2).bind fun y h=>Z1t (hc.re h) hx hy
 ·exact Z1t (hc.re h5.1) hx hy
 ·exact(WY (hc.re h5.1)).bind fun y h=>Uu (hc.re h.1) (Nat.le_succ_of_le h.2) hy.2.1 hy.2.2 hx.1
 ·refine(Z1l (hc.re h5.1)).bind fun y h=>Ok.bind (P:=fun _=>True) (Ok.of (Z1H _ (by have:=h.2;omega)) trivial) fun z _=>Uu (hc.re h.1) hy.1 hy.2.1 hy.2.2 hx.1
 ·exact(WY (hc.re h5.1)).bind fun y h=>(YG (hc.re h.1) 20).bind fun z hz=>(WY (hc.re hz.1)).bind fun u hu=>Uu (hc.re hu.1) hy.1 (Nat.le_succ_of_le h.2) (Nat.le_succ_of_le hu.2) hx.1
 ·exact Uu (hc.re h5.1) hy.1 hy.2.1 hy.2.2 hx.1
theorem Z1u {code:List Int}{c:Z3}(hc:Cu code c){p:Z4}(hp:kB p):Ok (Z9 c p) (fun r=>Cu code r.1∧sB r.2):=by
 have hz:=Qr hp
 unfold Z9 Z9.b
 simp only[both_eq]
 refine Ok.bind (P:=fun h=>h=p) (Ok.of (Qt p (by omega)) rfl) fun h hh=> ?_
 subst hh
 refine Ok.bind (P:=fun _=>True) (Ok.of (Z1B h (by omega)) trivial) fun d _=>(YG hc 40).bind fun y3 h3=> ?_
 unfold Z9.l11 Z9.g11
 simp only[both_eq]
 exact(YG (hc.re h3.1) 60).bind fun y4 h4=>Z3r (hc.re h4.1) hp hp
def lB (xs:List Z0):Prop:=∀s∈xs,sB s
theorem Q4 :∀{xs:List Z0},lB xs→YH xs≤21*xs.length
 |[],_=>Nat.le_refl _
 |s::xs,h=>by
  have ih:=Q4 (xs:=xs) fun t ht=>h t (List.mem_cons_of_mem _ ht)
  have hs:=Ud (h s (List.mem_cons_self ..))
  unfold YH X7 at ih⊢
  simp only[List.map_cons,List.sum_cons,List.length_cons]
  omega
theorem Z1m {xs:List Z0}{s:Z0}(h:lB xs)(hs:sB s):lB (xs++[s]):=by
 intro t ht
 rcases List.mem_append.1 ht with ht|ht
 ·exact h t ht
 ·rw[List.mem_singleton.1 ht];exact hs
theorem Z2y (xs:List Z0)(s:Z0):(ext xs s).1=xs∨(ext xs s).1=xs++[s]:=by
 unfold ext Qf
 cases(!Xm xs||decide ((xs.length:Int)≥(12:Int)))with
 |true=>exact .inl rfl
 |false=>
  cases WZ (Z5 (Uj xs)) s !=(1:Int)with
  |true=>exact .inl rfl
  |false=>exact .inr rfl
theorem Z0N {xs:List Z0}{s:Z0}(h:lB xs)(hs:sB s):lB (ext xs s).1∧xs.length≤(ext xs s).1.length∧(ext xs s).1.length≤xs.length+1:=by
 rcases Z2y xs s with e|e<;>rw[e]
 ·exact⟨h,Nat.le_refl _,Nat.le_succ _⟩
 ·exact⟨Z1m h hs,by rw[WT];omega,by rw[WT];omega⟩
theorem UP :sB Zl:=⟨⟨Nat.zero_le _,Nat.zero_le _,Nat.zero_le _⟩,Nat.zero_le _⟩
theorem Ui {xs:List Z0}(h:lB xs)(i:Nat):sB (xs.getD i Zl):=by
 by_cases hi:i<xs.length
 ·rw[at_n hi];exact h _ (List.getElem_mem _)
 ·have e:xs.getD i Zl=Zl:=by simp[List.getD,show xs.length≤i by omega]
  rw[e];exact UP
theorem Z38 {code:List Int}{x0:Z3}:∀(n:Nat) (v a b:Int) (xs:List Z0),v<(n:Int)→0≤v→v≤1000→1≤xs.length→xs.length+v.toNat≤1000→lB xs→Cu code (x0.1,a,b)→Ok (Y8.l6 x0 n v a b xs) (fun r=>Cu code r.1∧lB r.2∧1≤r.2.length∧r.2.length≤xs.length+v.toNat):=by
 intro n
 induction n with
 |zero=>intro v a b xs h0 h1;omega
 |succ n ih=>
  intro v a b xs h0 h1 h2 hx ha hl hc
  rw[Y8.u6]
  refine Ok.ite (fun h=> ?_) (fun h=>Ok.ret ⟨hc,hl,hx,by show xs.length≤_;omega⟩)
  have h:=UT h
  have e:IntKind.i64.wrap ((xs.length:Int)-(1:Int))=(xs.length:Int)-1:=w64 (by omega) (by omega)
  rw[e]
  refine Ok.chk (decide_eq_true (by omega)) (Ok.chk (decide_eq_true (by omega)) ?_)
  refine(Z1u hc (Ui hl _).1).bind fun y hy=>Ok.bind (P:=fun z=>z=ext xs y.2) (Ok.of (Z1z xs y.2 ?_ ?_) rfl) fun z hz=> ?_
  ·have:=Q4 hl;omega
  ·have:=Ud hy.2;omega
  ·subst hz
   rw[Q6 h h2]
   obtain⟨k1,k2,k3⟩:=Z0N hl hy.2
   refine(ih (v-1) _ _ (ext xs y.2).1 (by omega) (by omega) (by omega) (by omega) (by omega) k1 (hc.re hy.1)).mono fun r hr=>⟨hr.1,hr.2.1,hr.2.2.1,?_⟩
   have:=hr.2.2.2
   omega
theorem Z1e {code:List Int}{c:Z3}(hc:Cu code c):Ok (Y8 c) (fun r=>Cu code r.1∧lB r.2∧1≤r.2.length∧r.2.length≤5):=by
 unfold Y8
 refine(Z1c hc).bind fun y1 h1=>(YG (hc.re h1.1) 5).bind fun y hy=> ?_
 obtain⟨k1,k2,k3,_⟩:=hy
 have k3:=k3 (by omega)
 have hk:=KK_gt (n:=1000) (by omega)
 refine(Z38 KK y.2 _ _ [y1.2] (by omega) (by omega) (by omega) (Nat.le_refl 1) (by show 1+_≤_;omega) (fun s hs=>by rw[List.mem_singleton.1 hs];exact h1.2) (hc.re k1)).mono fun r hr=>⟨hr.1,hr.2.1,hr.2.2.1,?_⟩
 have:r.2.length≤1+y.2.toNat:=hr.2.2.2
 omega
theorem Z3n {xs:List Z0}(h:lB xs)(f:Z0→Z0)(hf:∀s,sB s→sB (f s))(i:Nat):lB (V.upd xs i f):=by
 induction xs generalizing i with
 |nil=>exact h
 |cons x xs ih=>
  cases i with
  |zero=>
   intro s hs
   rcases List.mem_cons.1 (show s∈f x::xs from hs)with rfl|hs
   ·exact hf x (h x (List.mem_cons_self ..))
   ·exact h s (List.mem_cons_of_mem _ hs)
  |succ i=>
   intro s hs
   rcases List.mem_cons.1 (show s∈x::V.upd xs i f from hs)with rfl|hs
   ·exact h s (List.mem_cons_self ..)
   ·exact ih (fun t ht=>h t (List.mem_cons_of_mem _ ht)) i s hs
theorem Z1d {code:List Int}{c:Z3}(hc:Cu code c):Ok (W6 c) (fun r=>Cu code r.1∧lB r.2∧r.2.length≤6):=by
 unfold W6
 refine(Z1e hc).bind fun y1 h1=>(YG (hc.re h1.1) 10).bind fun y2 h2=> ?_
 obtain⟨_,hl,k1,k2⟩:=h1
 have e:IntKind.i64.wrap ((y1.2.length:Int)-(1:Int))=(y1.2.length:Int)-1:=w64 (by omega) (by omega)
 refine Ok.ite (fun _=> ?_) fun _=>Ok.ite (fun _=> ?_) fun _=>Ok.ite (fun _=> ?_) fun _=>Ok.ite (fun _=> ?_) fun _=> ?_
 ·rw[e]
  exact Ok.chk (by decide) (Ok.chk (decide_eq_true (by omega)) (Ok.chk (decide_eq_true (by omega)) (Ok.ret ⟨hc.re h2.1,fun s hs=>hl s (List.mem_of_mem_take hs),by show(y1.2.take _).length≤6;rw[List.length_take];omega⟩)))
 ·exact(Z1b (hc.re h2.1)).bind fun y3 h3=>Ok.chk (WR (by omega)) (Ok.ret ⟨hc.re h3.1,Z1m hl h3.2,by show(y1.2++[y3.2]).length≤6;rw[WT];omega⟩)
 ·have hp:decide ((0:Int)<(y1.2.length:Int))=true:=decide_eq_true (by omega)
  exact Ok.chk (by decide) (Ok.chk hp (Ok.chk (by decide) (Ok.chk hp (Ok.ret ⟨hc.re h2.1,by refine Z3n hl _ ?_ _;intro s hs;exact hs,by show(V.upd y1.2 _ _).length≤6;rw[Z1Y];omega⟩))))
 ·exact Ok.chk (by decide) (Ok.chk (decide_eq_true (by omega)) (Ok.chk (decide_eq_true (by omega)) (Ok.ret ⟨hc.re h2.1,fun s hs=>hl s (List.mem_of_mem_drop hs),by show(y1.2.drop _).length≤6;rw[List.length_drop];omega⟩)))
 ·exact Ok.ret ⟨hc.re h2.1,hl,by show y1.2.length≤6;omega⟩
theorem Qw {xs:List Z0}(h:lB xs)(hl:xs.length≤100):YH xs≤1050000:=by have:=Q4 h;omega
theorem Z3a {code:List Int}{x0:Z3}{y1:Z3×List Z0}(h1:lB y1.2)(hn:1≤y1.2.length∧y1.2.length≤5):∀(n:Nat) (v a b:Int) (xs:List Z0),v<(n:Int)→0≤v→v≤1000→1≤xs.length→xs.length+v.toNat≤20→lB xs→Cu code (x0.1,a,b)→
 Ok (Zn.l8 x0 y1 n v a b xs) (fun r=>Cu code r.1∧(lB r.2.1∧1≤r.2.1.length∧r.2.1.length≤5)∧lB r.2.2∧1≤r.2.2.length∧r.2.2.length≤20):=by
 intro n
 induction n with
 |zero=>intro v a b xs h0 h1;omega
 |succ n ih=>
  intro v a b xs g0 g1 g2 hx ha hl hc
  rw[Zn.u8]
  refine Ok.ite (fun h=> ?_) (fun h=> ?_)
  ·have h:=UT h
   have e:IntKind.i64.wrap ((xs.length:Int)-(1:Int))=(xs.length:Int)-1:=w64 (by omega) (by omega)
   rw[e]
   refine Ok.chk (decide_eq_true (by omega)) (Ok.chk (decide_eq_true (by omega)) ?_)
   refine(Z1u hc (Ui hl _).1).bind fun y hy=>Ok.bind (P:=fun z=>z=ext xs y.2) (Ok.of (Z1z xs y.2 ?_ ?_) rfl) fun z hz=> ?_
   ·have:=Q4 hl;omega
   ·have:=Ud hy.2;omega
   ·subst hz
    rw[Q6 h g2]
    obtain⟨k1,k2,k3⟩:=Z0N hl hy.2
    exact ih (v-1) _ _ (ext xs y.2).1 (by omega) (by omega) (by omega) (by omega) (by omega) k1 (hc.re hy.1)
  ·refine(UL hc 5).bind fun y hy=>Ok.ite (fun _=> ?_) fun _=>Ok.ret ⟨hc.re hy,⟨h1,hn⟩,hl,hx,by show xs.length≤20;omega⟩
   refine Ok.chk (by decide) (Ok.chk (decide_eq_true (by omega)) ?_)
   have hs:=Ui h1 ((0:Int).toNat)
   have hz:=Ud hs
   refine Ok.bind (P:=fun s=>sB s) (Ok.of (UJ _ (by omega)) hs) fun s hs=> ?_
   refine Ok.bind (P:=sB) ?_ fun u hu=>Ok.ret ⟨hc.re hy,⟨h1,hn⟩,fun t ht=>by rw[List.mem_singleton.1 ht];exact hu,by show 1≤[u].length;simp,by show [u].length≤20;simp⟩
   refine QF ?_ hs.1.1 hs.1.1
   exact⟨hs.1.1,hs.1.2.1,hs.1.2.2⟩
theorem Z1f {code:List Int}{c:Z3}(hc:Cu code c):Ok (Zn c) (fun r=>Cu code r.1∧(lB r.2.1∧1≤r.2.1.length∧r.2.1.length≤5)∧lB r.2.2∧1≤r.2.2.length∧r.2.2.length≤20):=by
 unfold Zn
 refine(Z1e hc).bind fun y1 h1=>(YG (hc.re h1.1) _).bind fun y2 h2=> ?_
 obtain⟨_,hl,k1,k2⟩:=h1
 obtain⟨h2a,h2b,h2c,_⟩:=h2
 have h2c:=h2c (by omega)
 have e:IntKind.i64.wrap ((1:Int)+y2.2)=1+y2.2:=w64 (by omega) (by omega)
 rw[e]
 refine Ok.chk (by decide) (Ok.chk (decide_eq_true (by omega)) (Ok.chk (decide_eq_true (by omega)) ?_))
 have ht:lB (y1.2.take (1+y2.2).toNat):=fun s hs=>hl s (List.mem_of_mem_take hs)
 have hlt:(y1.2.take (1+y2.2).toNat).length≤5∧1≤(y1.2.take (1+y2.2).toNat).length:=by rw[List.length_take];omega
 have hz:=Q4 ht
 refine Ok.bind (P:=fun xs=>xs=y1.2.take (1+y2.2).toNat) (Ok.of (Q2 _ (by omega)) rfl) fun xs hxs=> ?_
 subst hxs
 refine(YG (hc.re h2a) 3).bind fun y4 h4=> ?_
 obtain⟨h4a,h4b,h4c,_⟩:=h4
 have h4c:=h4c (by omega)
 have hk:=KK_gt (n:=1000) (by omega)
 exact Z3a hl ⟨k1,k2⟩ KK y4.2 _ _ _ (by omega) (by omega) (by omega) hlt.2 (by omega) ht (hc.re h4a)
theorem Z2s {code:List Int}(hl:code.length≤1050000):Ok (Wk code) (fun r=>(lB r.1∧r.1.length≤20)∧lB r.2∧r.2.length≤20):=by
 unfold Wk
 refine(Z1g hl).bind fun c hc=>(Z1f hc).bind fun y2 h2=>(YG (hc.re h2.1) 8).bind fun y3 h3=>Ok.ite (fun _=> ?_) fun _=>Ok.ite (fun _=> ?_) fun _=> ?_
 ·exact(Z1d (hc.re h3.1)).bind fun y4 h4=>Ok.ret ⟨⟨h2.2.1.1,Nat.le_trans h2.2.1.2.2 (by decide)⟩,h4.2.1,Nat.le_trans h4.2.2 (by decide)⟩
 ·exact(Z1d (hc.re h3.1)).bind fun y4 h4=>Ok.ret ⟨⟨h4.2.1,Nat.le_trans h4.2.2 (by decide)⟩,h2.2.2.1,h2.2.2.2.2⟩
 ·exact Ok.ret ⟨⟨h2.2.1.1,Nat.le_trans h2.2.1.2.2 (by decide)⟩,h2.2.2.1,h2.2.2.2.2⟩
theorem UR (h:Z4):Wt h h=true:=decide_eq_true rfl
def WQ :Nat→Int→List Int
 |0,_=>[]
 |n+1,k=>k::WQ n (k+1)
theorem Z0n :∀(n:Nat) (k x:Int),x∈WQ n k↔k≤x∧x<k+(n:Int)
 |0,k,x=>⟨fun h=>absurd h (by simp[WQ]),fun h=>by omega⟩
 |n+1,k,x=>by
  unfold WQ
  rw[List.mem_cons,Z0n n (k+1) x]
  omega
theorem Z1W :∀(n:Nat) (k:Int),(WQ n k).Pairwise (· < ·)
 |0,k=>List.Pairwise.nil
 |n+1,k=>by
  unfold WQ
  refine List.Pairwise.cons (fun x hx=> ?_) (Z1W n (k+1))
  have:=(Z0n n (k+1) x).1 hx
  omega
theorem Z1V :∀(n:Nat) (k:Int),(WQ n k).length=n
 |0,k=>rfl
 |n+1,k=>by unfold WQ;rw[List.length_cons,Z1V n (k+1)]
theorem Z0v :∀{xs ys:List Int},xs.Pairwise (· < ·)→ys.Pairwise (· < ·)→(∀a,a∈xs↔a∈ys)→xs=ys
 |[],[],_,_,_=>rfl
 |[],y::ys,_,_,h=>absurd ((h y).2 (List.mem_cons_self ..)) (by simp)
 |x::xs,[],_,_,h=>absurd ((h x).1 (List.mem_cons_self ..)) (by simp)
 |x::xs,y::ys,hx,hy,h=>by
  obtain⟨hx1,hx2⟩:=List.pairwise_cons.1 hx
  obtain⟨hy1,hy2⟩:=List.pairwise_cons.1 hy
  have e:x=y:=by
   have g1:=(h x).1 (List.mem_cons_self ..)
   have g2:=(h y).2 (List.mem_cons_self ..)
   rcases List.mem_cons.1 g1 with g1|g1
   ·exact g1
   ·rcases List.mem_cons.1 g2 with g2|g2
    ·exact g2.symm
    ·have:=hy1 x g1
     have:=hx1 y g2
     omega
  subst e
  congr 1
  refine Z0v hx2 hy2 fun a=>⟨fun ha=> ?_,fun ha=> ?_⟩
  ·have:=hx1 a ha
   rcases List.mem_cons.1 ((h a).1 (List.mem_cons_of_mem _ ha))with g|g
   ·omega
   ·exact g
  ·have:=hy1 a ha
   rcases List.mem_cons.1 ((h a).2 (List.mem_cons_of_mem _ ha))with g|g
   ·omega
   ·exact g
theorem Z0J (d:Array Int)(hs:∀i j,i≤j→j<d.size→d[i]! ≤d[j]!):∀m,m≤d.size→(Go.Lib.compactUpTo d m).Pairwise (· < ·)∧∀a,a∈Go.Lib.compactUpTo d m↔∃j,j<m∧d[j]! =a
 |0,_=>⟨List.Pairwise.nil,fun a=>⟨fun h=>absurd h (by simp[Go.Lib.compactUpTo]),fun⟨j,h,_⟩=>absurd h (Nat.not_lt_zero _)⟩⟩
 |m+1,hm=>by
  obtain⟨h1,h2⟩:=Z0J d hs m (by omega)
  rw[Go.Lib.compactUpTo_succ]
  by_cases hk:Go.Lib.keeps d m=true
  ·rw[if_pos hk]
   have hkk:m=0∨d[m]! ≠d[m-1]! :=by simpa [Go.Lib.keeps]using hk
   refine⟨List.pairwise_append.2 ⟨h1,List.pairwise_singleton ..,fun a ha b hb=> ?_⟩,fun a=> ?_⟩
   ·rw[List.mem_singleton]at hb
    subst hb
    obtain⟨j,hj,rfl⟩:=(h2 a).1 ha
    have g1:=hs j (m-1) (by omega) (by omega)
    have g2:=hs (m-1) m (by omega) (by omega)
    rcases hkk with hkk|hkk
    ·omega
    ·omega
   ·rw[List.mem_append,h2,List.mem_singleton]
    constructor
    ·rintro(⟨j,hj,rfl⟩|rfl)
     ·exact⟨j,by omega,rfl⟩
     ·exact⟨m,by omega,rfl⟩
    ·rintro⟨j,hj,rfl⟩
     by_cases e:j=m
     ·subst e;exact .inr rfl
     ·exact .inl ⟨j,by omega,rfl⟩
  ·rw[if_neg hk,List.append_nil]
   have hkk:m≠0∧d[m]! =d[m-1]! :=by simpa [Go.Lib.keeps]using hk
   refine⟨h1,fun a=> ?_⟩
   rw[h2]
   constructor
   ·rintro⟨j,hj,rfl⟩
    exact⟨j,by omega,rfl⟩
   ·rintro⟨j,hj,rfl⟩
    by_cases e:j=m
    ·subst e;exact⟨j-1,by omega,hkk.2.symm⟩
    ·exact⟨j,by omega,rfl⟩
theorem Z4f (xs:List Int):(Go.Lib.compact (α:=Int) (xs.mergeSort fun(p q:Int)=>decide (p≤q))).Pairwise (· < ·)∧∀a,a∈Go.Lib.compact (α:=Int) (xs.mergeSort fun(p q:Int)=>decide (p≤q))↔a∈xs:=by
 have hp:=List.pairwise_mergeSort (le:=fun(p q:Int)=>decide (p≤q)) (fun a b c h1 h2=>by simp only[decide_eq_true_eq]at*;omega) (fun a b=>by simp only[Bool.or_eq_true,decide_eq_true_eq];omega) xs
 have hm:=fun a=>List.mem_mergeSort (le:=fun(p q:Int)=>decide (p≤q)) (a:=a) (l:=xs)
 revert hp hm
 generalize (xs.mergeSort fun(p q:Int)=>decide (p≤q))=ys
 intro hp hm
 have hs:∀i j,i≤j→j<ys.toArray.size→ys.toArray[i]! ≤ys.toArray[j]! :=by
  intro i j hij hj
  have hj:j<ys.length:=by simpa using hj
  by_cases e:i=j
  ·subst e;exact Int.le_refl _
  ·have:=List.pairwise_iff_getElem.1 hp i j (by omega) hj (by omega)
   simp only[decide_eq_true_eq]at this
   rw[getElem!_pos _ i (by simp;omega),getElem!_pos _ j (by simpa using hj)]
   simpa using this
 obtain⟨h1,h2⟩:=Z0J ys.toArray hs ys.length (by simp)
 refine⟨h1,fun a=> ?_⟩
 rw[←hm a]
 refine(h2 a).trans ⟨?_,fun ha=> ?_⟩
 ·rintro⟨j,hj,rfl⟩
  rw[getElem!_pos _ j (by simpa using hj)]
  simp
 ·obtain⟨j,hj,rfl⟩:=List.getElem_of_mem ha
  refine⟨j,hj,?_⟩
  rw[getElem!_pos _ j (by simpa using hj)]
  simp
noncomputable def U1 (m:List Int)(sg:List Z6):List Int:=(WQ 99 1).filter (XB sg m)
theorem Um (m:List Int)(sg:List Z6):(U1 m sg).length≤99:=by
 have:=List.length_filter_le (XB sg m) (WQ 99 1)
 rw[Z1V]at this
 exact this
theorem Z1P (m:List Int)(sg:List Z6):(U1 m sg).Pairwise (· < ·):=(Z1W 99 1).filter _
theorem Z0k (m:List Int)(sg:List Z6)(k:Int):k∈U1 m sg↔XB sg m k=true:=by
 unfold U1
 rw[List.mem_filter,Z0n]
 refine⟨fun h=>h.2,fun h=>⟨?_,h⟩⟩
 unfold XB at h
 obtain⟨s,_,hs⟩:=List.any_eq_true.1 h
 unfold WE WC at hs
 simp only[Bool.and_eq_true,beq_iff_eq,decide_eq_true_eq]at hs
 omega
theorem Z48 (m:List Int)(sg:List Z6):Go.Lib.compact (α:=Int) (((sg.filter fun s=>WC s m).map (·.1)).mergeSort fun(p q:Int)=>decide (p≤q))=U1 m sg:=by
 obtain⟨h1,h2⟩:=Z4f ((sg.filter fun s=>WC s m).map (·.1))
 refine Z0v h1 (Z1P m sg) fun a=> ?_
 rw[h2,Z0k]
 unfold XB
 rw[List.mem_map,List.any_eq_true]
 constructor
 ·rintro⟨s,hs,rfl⟩
  obtain⟨h3,h4⟩:=List.mem_filter.1 hs
  refine⟨s,h3,?_⟩
  unfold WE
  rw[beq_self_eq_true,h4]
  rfl
 ·rintro⟨s,hs,h3⟩
  unfold WE at h3
  simp only[Bool.and_eq_true,beq_iff_eq]at h3
  exact⟨s,List.mem_filter.2 ⟨hs,h3.2⟩,h3.1⟩
theorem Z2V (m:List Int)(sg:List Z6)(hs:sg.length≤1050000)(hm:m.length≤8388608):∀i n,i≤sg.length→sg.length-i<n→∀acc:List Int,acc.length≤i→
 ZP.l6 m sg n (sg.length:Int) (i:Int) acc=some (Go.Lib.compact (α:=Int) ((acc++((sg.drop i).filter fun s=>WC s m).map (·.1)).mergeSort fun(p q:Int)=>decide (p≤q))):=by
 refine idx_ind ?_ ?_
 ·intro n acc ha
  rw[ZP.u6]
  simp only[ZP.g6,lt_f (Nat.le_refl _),cond_f,List.drop_length,List.filter_nil,List.map_nil,List.append_nil]
  refine Zc (by unfold slices_Sort_int;exact cT (decide_eq_true (by unfold V.lim;omega)) rfl) (Zc (by unfold slices_Compact_int;exact cT (decide_eq_true (by rw[List.length_mergeSort];unfold V.lim;omega)) rfl) rfl)
 ·intro i n hi ih acc ha
  rw[ZP.u6]
  simp only[ZP.g6,lt_t hi,ge_t,cond_t,bind_s,w64_succ (i:=i) (by omega),Int.toNat_natCast,at_n hi,Z16 _ _ hm]
  rw[List.drop_eq_getElem_cons hi,List.filter_cons]
  cases hb:WC sg[i] m with
  |true=>
   rw[cond_t,if_pos rfl,List.map_cons]
   refine cT (WR (by omega)) ?_
   rw[ih _ (by rw[WT];omega),List.append_assoc]
   rfl
  |false=>
   rw[cond_f,if_neg (by simp)]
   exact ih _ (by omega)
theorem Qo (m:List Int)(sg:List Z6)(hs:sg.length≤1050000)(hm:m.length≤8388608):ZP m sg=some (U1 m sg):=by
 have:=Z2V m sg hs hm 0 KK (Nat.zero_le _) (KK_gt (by omega)) [] (Nat.le_refl _)
 rw[List.drop_zero,List.nil_append,Z48]at this
 exact this
theorem Z43 (m:List Int)(sg:List Z6)(hs:sg.length≤1050000)(hm:m.length≤8388608)(k:Int)(acc:List Int)(ha:acc.length≤1000)(r:Int→List Int→Option (List Int)):∀i n,i≤sg.length→sg.length-i<n→
 Zf.l12 m sg k acc r n (i:Int)=bif(sg.drop i).any (WE k m)then r (IntKind.i64.wrap (k+(1:Int))) (acc++[k])else r (IntKind.i64.wrap (k+(1:Int))) acc:=by
 refine idx_ind ?_ ?_
 ·intro n
  rw[Zf.u12]
  simp only[Zf.g12,lt_f (Nat.le_refl _),cond_f,List.drop_length,List.any_nil]
 ·intro i n hi ih
  rw[Zf.u12]
  simp only[Zf.g12,Zf.l19,Zf.g19,lt_t hi,ge_t,cond_t,cond_f,bind_s,w64_succ (i:=i) (by omega),Int.toNat_natCast,at_n hi,Z1E _ _ hm,ih,WR (x:=k) (show acc.length≤1050000 by omega)]
  rw[List.drop_eq_getElem_cons hi,List.any_cons]
  rw[show WE k m sg[i]=(sg[i].1==k&&WC sg[i] m)from rfl]
  cases(sg[i].1==k)<;>cases(WC sg[i] m)<;>rfl
theorem Z42 (m:List Int)(sg:List Z6)(hs:sg.length≤1050000)(hm:m.length≤8388608):∀(d n:Nat) (k:Int) (acc:List Int),k=100-(d:Int)→d≤99→d<n→acc.length+d≤1000→Zf.l6 m sg n k acc=some (acc++(WQ d k).filter (XB sg m)):=by
 intro d
 induction d with
 |zero=>
  intro n k acc hk _ hn _
  obtain⟨n,rfl⟩:∃n',n=n'+1:=⟨n-1,by omega⟩
  rw[Zf.u6]
  refine cF (decide_eq_false (by omega)) ?_
  simp[WQ]
 |succ d ih=>
  intro n k acc hk hd hn ha
  obtain⟨n,rfl⟩:∃n',n=n'+1:=⟨n-1,by omega⟩
  rw[Zf.u6]
  refine cT (decide_eq_true (by omega)) ?_
  have h12:=Z43 m sg hs hm k acc (by omega) (Zf.l6 m sg n) 0 KK (Nat.zero_le _) (KK_gt (by omega))
  rw[List.drop_zero]at h12
  refine h12.trans ?_
  rw[w64 (n:=k+1) (by omega) (by omega)]
  unfold WQ
  rw[List.filter_cons]
  rw[show sg.any (WE k m)=XB sg m k from rfl]
  cases XB sg m k with
  |true=>
   rw[cond_t,if_pos rfl,ih n (k+1) (acc++[k]) (by omega) (by omega) (by omega) (by rw[WT];omega),List.append_assoc]
   rfl
  |false=>
   rw[cond_f,if_neg (by simp)]
   exact ih n (k+1) acc (by omega) (by omega) (by omega) (by omega)
theorem Z1K (m:List Int)(sg:List Z6)(hs:sg.length≤1050000)(hm:m.length≤8388608):Zf m sg=some (U1 m sg):=
 Z42 m sg hs hm 99 KK 1 [] (by omega) (by omega) (KK_gt (by omega)) (by simp)
noncomputable def XF (x:Zi):List Int:=bif W3 x then(U1 (YD (Z5 (Zr x))) (ZD (Zr x))).filter (Xl (U1 (YD (Z5 (Zy x))) (ZD (Zy x))))else []
theorem Z0B (x:Zi):(XF x).length≤99:=by
 unfold XF
 cases W3 x with
 |false=>rw[cond_f];exact Nat.zero_le _
 |true=>rw[cond_t];exact Nat.le_trans (List.length_filter_le ..) (Um ..)
theorem Z2h (a b:List Int)(ha:a.length≤1000)(hb:b.length≤1000):∀i n,i≤a.length→a.length-i<n→∀acc:List Int,acc.length≤i→ZI.l14 a b n (i:Int) acc=some (acc++(a.drop i).filter (Xl b)):=by
 refine idx_ind ?_ ?_
 ·intro n acc h
  rw[ZI.u14]
  simp only[ZI.g14,lt_f (Nat.le_refl _),cond_f,List.drop_length,List.filter_nil,List.append_nil]
 ·intro i n hi ih acc h
  rw[ZI.u14]
  simp only[ZI.g14,lt_t hi,ge_t,cond_t,bind_s,w64_succ (i:=i) (by omega),Int.toNat_natCast,at_n hi,Z1k _ _ (show b.length≤1152921504606846976 by omega)]
  rw[List.drop_eq_getElem_cons hi,List.filter_cons]
  cases Xl b a[i]with
  |true=>
   rw[cond_t,if_pos rfl]
   refine cT (WR (by omega)) ?_
   rw[ih _ (by rw[WT];omega),List.append_assoc]
   rfl
  |false=>
   rw[cond_f,if_neg (by simp)]
   exact ih _ (by omega)
theorem QW {x:Zi}(hx:XI x≤1050000):(Yx (Z5 (Zr x))≤1050000∧(ZD (Zr x)).length≤1050000)∧(Yx (Z5 (Zy x))≤1050000∧(ZD (Zy x)).length≤1050000):=by
 unfold XI Ym at hx
 omega
theorem Z3y (x:Zi)(hx:XI x≤1050000):ZI x=some (XF x):=by
 obtain⟨⟨a1,a2⟩,b1,b2⟩:=QW hx
 have e1:(YD (Z5 (Zr x))).length≤8388608:=by rw[WL];omega
 have e2:(YD (Z5 (Zy x))).length≤8388608:=by rw[WL];omega
 unfold ZI ZI.b XF
 refine Zc (Z0f x hx) ?_
 cases W3 x with
 |false=>rfl
 |true=>
  refine cF rfl (Zc (U0 _ a1) (Zc (Z1K _ _ a2 e1) (Zc (U0 _ b1) (Zc (Z1K _ _ b2 e2) ?_))))
  have:=Z2h _ _ (Nat.le_trans (Um (YD (Z5 (Zr x))) (ZD (Zr x))) (by omega)) (Nat.le_trans (Um (YD (Z5 (Zy x))) (ZD (Zy x))) (by omega)) 0 KK (Nat.zero_le _) (KK_gt (by have:=Um (YD (Z5 (Zr x))) (ZD (Zr x));omega)) [] (Nat.le_refl _)
  rw[List.drop_zero,List.nil_append]at this
  exact this
theorem Z0A (k:Int)(b:List Int)(hb:b.length≤1000):XG k b=some (!Xl b k):=by
 unfold XG
 exact Zc (Z24 b k (by omega)) rfl
theorem Z2Y (a b:List Int)(ha:a.length≤1000)(hb:b.length≤1000):Yd a ((),b)=some (Wa (fun k=> !Xl b k) a 0):=by
 have h:∀i n,i≤a.length→a.length-i<n→Yd.l4 a ((),b) n (a.length:Int) (i:Int)=some (Wa (fun k=> !Xl b k) (a.drop i) (i:Int)):=by
  refine idx_ind ?_ ?_
  ·intro n
   rw[Yd.u4]
   simp only[Yd.g4,lt_f (Nat.le_refl _),cond_f,QU]
  ·intro i n hi ih
   rw[Yd.u4]
   simp only[Yd.g4,lt_t hi,ge_t,cond_t,bind_s,w64_succ (i:=i) (by omega),Int.toNat_natCast,at_n hi,Z0A _ _ hb,QV _ hi,ih]
   cases(Xl b a[i])<;>rfl
 have:=h 0 KK (Nat.zero_le _) (KK_gt (by omega))
 rw[List.drop_zero]at this
 exact this
theorem Z0R (p:Int→Bool):∀(xs:List Int) (k:Int),0≤k→(Wa (fun a=> !p a) xs k= -1∧xs.filter p=xs)∨∃i:Nat,i<xs.length∧Wa (fun a=> !p a) xs k=k+(i:Int)∧xs.filter p=xs.take i++(xs.drop (i+1)).filter p
 |[],k,_=> .inl ⟨rfl,rfl⟩
 |x::xs,k,hk=>by
  rw[QT,List.filter_cons]
  cases hp:p x with
  |false=>
   refine .inr ⟨0,by simp,?_,?_⟩
   ·show(bif true then k else _)=_
    rw[cond_t];simp
   ·simp
  |true=>
   rw[show(bif !true then k else Wa (fun a=> !p a) xs (k+1))=Wa (fun a=> !p a) xs (k+1)from rfl,if_pos rfl]
   rcases Z0R p xs (k+1) (by omega)with⟨h1,h2⟩|⟨i,h1,h2,h3⟩
   ·exact .inl ⟨h1,by rw[h2]⟩
   ·exact .inr ⟨i+1,by simpa using h1,by rw[h2];omega,by rw[h3];rfl⟩
theorem Z2p (b:List Int)(hb:b.length≤1000)(len:Nat)(hl:len≤1000):∀(d n:Nat) (j:Nat),j+d=len→d<n→∀(i:Nat) (xs:List Int),i<j→xs.length=len→
 Y6.l10 ((),b) n (i:Int) (j:Int) xs=some (([]:List Int),xs.take i++(xs.drop j).filter (Xl b)):=by
 intro d
 induction d with
 |zero=>
  intro n j hj hn i xs hi hx
  obtain⟨n,rfl⟩:∃n',n=n'+1:=⟨n-1,by omega⟩
  rw[Y6.u10]
  refine cF (decide_eq_false (by omega)) (cT (decide_eq_true (by omega)) (cT (decide_eq_true (by omega)) (cT (by decide) (cT (decide_eq_true (by omega)) (cT (decide_eq_true (by simp;omega)) ?_)))))
  rw[List.drop_of_length_le (by omega),List.filter_nil,List.append_nil,Int.toNat_natCast,List.take_append_of_le_length (by simp;omega),List.take_take,Nat.min_self]
 |succ d ih=>
  intro n j hj hn i xs hi hx
  obtain⟨n,rfl⟩:∃n',n=n'+1:=⟨n-1,by omega⟩
  have hjx:j<xs.length:=by omega
  have hix:i<xs.length:=by omega
  rw[Y6.u10]
  simp only[Y6.g10,lt_t hjx,lt_t hix,ge_t,cond_t,bind_s,w64_succ (i:=i) (by omega),w64_succ (i:=j) (by omega),Int.toNat_natCast,at_n hjx,Z0A _ _ hb,Bool.not_not]
  rw[List.drop_eq_getElem_cons hjx,List.filter_cons]
  cases Xl b xs[j]with
  |true=>
   rw[cond_t,if_pos rfl,ih n (j+1) (by omega) (by omega) (i+1) (xs.set i xs[j]) (by omega) (by rw[List.length_set];exact hx)]
   congr 2
   rw[List.drop_set,if_pos (by omega),List.take_succ_eq_append_getElem (by rw[List.length_set];exact hix),List.getElem_set_self,List.take_set,List.set_eq_of_length_le (by rw[List.length_take];omega),List.append_assoc]
   rfl
  |false=>
   rw[cond_f,if_neg (by simp)]
   exact ih n (j+1) (by omega) (by omega) i xs (by omega) hx
theorem Z2q (a b:List Int)(ha:a.length≤1000)(hb:b.length≤1000):Y6 a ((),b)=some (([]:List Int),a.filter (Xl b)):=by
 unfold Y6 Y6.b
 refine Zc (Z2Y a b ha hb) ?_
 rcases Z0R (Xl b) a 0 (Int.le_refl 0)with⟨h1,h2⟩|⟨i,h1,h2,h3⟩
 ·rw[h1,h2]
  exact cT (by decide) rfl
 ·rw[h2,h3,Int.zero_add,w64_succ (i:=i) (by omega)]
  refine cF (by rw[beq_eq_false_iff_ne];omega) ?_
  exact Z2p b hb a.length ha (a.length-(i+1)) KK (i+1) (by omega) (KK_gt (by omega)) i a (by omega) rfl
theorem Z10 (x:Zi)(hx:XI x≤1050000):X5 x=some (XF x):=by
 obtain⟨⟨a1,a2⟩,b1,b2⟩:=QW hx
 have e1:(YD (Z5 (Zr x))).length≤8388608:=by rw[WL];omega
 have e2:(YD (Z5 (Zy x))).length≤8388608:=by rw[WL];omega
 have l1:=Um (YD (Z5 (Zr x))) (ZD (Zr x))
 have l2:=Um (YD (Z5 (Zy x))) (ZD (Zy x))
 unfold X5 XF
 refine Zc (UX x hx) ?_
 cases W3 x with
 |false=>rfl
 |true=>exact cF rfl (Zc (UE _ b1) (Zc (Qo _ _ b2 e2) (Zc (UE _ a1) (Zc (Qo _ _ a2 e1) (Zc (Z2q _ _ (by omega) (by omega)) rfl)))))
def fB (f:Zi):Prop:=sB (ZL f)∧sB (Zr f)∧sB (Zy f)
theorem Z0O {f:Zi}(h:fB f):XI f≤60:=by
 have h1:=Ud h.1
 have h2:=Ud h.2.1
 have h3:=Ud h.2.2
 unfold XI
 omega
theorem Z4z {f:Zi}(h:fB f):fB (Ux f):=⟨h.1,h.2.2,h.2.1⟩
theorem Z0U {a b:List Z0}(ha:lB a)(hb:lB b):fB (ZF (WX a b)):=by
 unfold WX
 cases Ua a b with
 |false=>rw[cond_f];exact⟨UP,UP,UP⟩
 |true=>
  rw[cond_t,(WV _ _).1]
  unfold WK
  refine⟨?_,?_,?_⟩
  ·rw[(WM _ _ _).1]
   cases decide ((YS a b:Int)>(0:Int))with
   |true=>rw[cond_t];exact Ui ha _
   |false=>rw[cond_f];exact UP
  ·rw[(WM _ _ _).2.1];exact Ui ha _
  ·rw[(WM _ _ _).2.2];exact Ui hb _
theorem Z0T {code:List Int}{x0:Z3}{y1:Z3×List Z0×List Z0}{v42 v43 v44 v45 v46 v47 v48 v49 v50 v51 v52 v53 v55 v56 v57 v58 v59 v60 v61 v62 v63 v64 v65 v66 v68 v69 v70 v71 v72 v73 v74 v75 v76 v77 v78 v79:Int}{v54 v67 v80:Bool}{v81 v82 v83 v85 v86 v87 v89 v90 v91:List Int}{v84 v88 v92:List Z6}(hc:Cu code (x0.1,y1.1.2.1,y1.1.2.2))(h81:v81.length≤4)(h82:v82.length≤4)(h83:v83.length≤4)(h84:v84.length≤8)(h85:v85.length≤4)(h86:v86.length≤4)(h87:v87.length≤4)(h88:v88.length≤8)(h89:v89.length≤4)(h90:v90.length≤4)(h91:v91.length≤4)(h92:v92.length≤8):
 Ok (Yz.l11 x0 y1 v42 v43 v44 v45 v46 v47 v48 v49 v50 v51 v52 v53 v54 v55 v56 v57 v58 v59 v60 v61 v62 v63 v64 v65 v66 v67 v68 v69 v70 v71 v72 v73 v74 v75 v76 v77 v78 v79 v80 v81 v82 v83 v84 v85 v86 v87 v88 v89 v90 v91 v92) (fun r=>Cu code r.1∧fB r.2):=by
 unfold Yz.l11 Yz.g11
 refine(UL hc 8).bind fun y5 h5=>Ok.ite (fun _=> ?_) fun _=> ?_
 ·exact(Z1b (hc.re h5)).bind fun y6 h6=>Ok.ret ⟨hc.re h6.1,h6.2,⟨⟨h85,h86,h87⟩,h88⟩,⟨⟨h89,h90,h91⟩,h92⟩⟩
 ·exact Ok.ret ⟨hc.re h5,⟨⟨h81,h82,h83⟩,h84⟩,⟨⟨h85,h86,h87⟩,h88⟩,⟨⟨h89,h90,h91⟩,h92⟩⟩
theorem Z39 {code:List Int}{c:Z3}(hc:Cu code c):Ok (Yz c) (fun r=>Cu code r.1∧fB r.2):=by
 unfold Yz Yz.b
 refine(Z1f hc).bind fun y1 h1=> ?_
 obtain⟨k0,⟨k1,k2,k3⟩,k4,k5,k6⟩:=h1
 have hx:=Qw k1 (by omega)
 have hy:=Qw k4 (by omega)
 refine Ok.bind (P:=fun r=>fB (ZF r)) (Ok.of (Z1A _ _ hx hy) (Z0U k1 k4)) fun y2 h2=>Ok.ite (fun _=> ?_) fun _=> ?_
 ·have s1:=Ui k1 ((0:Int).toNat)
  have s2:=Ui k4 ((0:Int).toNat)
  have z1:=Ud s1
  have z2:=Ud s2
  refine Ok.chk (by decide) (Ok.chk (decide_eq_true (by omega)) (Ok.bind (P:=sB) (Ok.of (UJ _ (by omega)) s1) fun y3 h3=>Ok.chk (by decide) (Ok.chk (decide_eq_true (by omega)) (Ok.bind (P:=sB) (Ok.of (UJ _ (by omega)) s2) fun y4 h4=> ?_))))
  exact Z0T (hc.re k0) (by simp) (by simp) (by simp) (by simp) h3.1.1 h3.1.2.1 h3.1.2.2 h3.2 h4.1.1 h4.1.2.1 h4.1.2.2 h4.2
 ·exact Z0T (hc.re k0) h2.1.1.1 h2.1.1.2.1 h2.1.1.2.2 h2.1.2 h2.2.1.1.1 h2.2.1.1.2.1 h2.2.1.1.2.2 h2.2.1.2 h2.2.2.1.1 h2.2.2.1.2.1 h2.2.2.1.2.2 h2.2.2.2
theorem Z2t {code:List Int}(hl:code.length≤1050000):Ok (Wl code) fB:=by
 unfold Wl
 exact(Z1g hl).bind fun c hc=>(Z39 hc).bind fun y hy=>Ok.ret hy.2
theorem Z0X (x0:List Int)(k:Int)(hx:x0.length≤1152921504606846976):Y5 x0 k=some (Xl x0 k):=by
 have h:∀i n,i≤x0.length→x0.length-i<n→Y5.l4 x0 k n (i:Int)=some (Xl (x0.drop i) k):=by
  refine idx_ind ?_ ?_
  ·intro n
   rw[Y5.u4]
   simp only[Y5.g4,lt_f (Nat.le_refl _),cond_f,List.drop_length];rfl
  ·intro i n hi ih
   rw[Y5.u4]
   simp only[Y5.g4,lt_t hi,ge_t,cond_t,w64_succ (i:=i) (by omega),Int.toNat_natCast,at_n hi,ih]
   rw[List.drop_eq_getElem_cons hi]
   show _=some ((x0[i]==k)||Xl (x0.drop (i+1)) k)
   cases(x0[i]==k)<;>rfl
 have:=h 0 KK (Nat.zero_le _) (KK_gt (by omega))
 rw[List.drop_zero]at this
 exact this
theorem Z46 (x:List Int)(hx:x.length≤1050000):ZW x x=some true:=by
 have hh:∀i n,i≤x.length→x.length-i<n→ZW.l8 x x n (i:Int)=some true:=by
  refine idx_ind ?_ ?_
  ·intro n
   rw[ZW.u8]
   simp only[ZW.g8,lt_f (Nat.le_refl _),cond_f]
  ·intro i n hi ih
   rw[ZW.u8]
   simp only[ZW.g8,lt_t hi,ge_t,cond_t,bne_self_eq_false,cond_f,w64_succ (i:=i) (by omega),ih]
 unfold ZW ZW.b
 exact cF (bne_self _) (hh 0 KK (Nat.zero_le _) (KK_gt (by omega)))
theorem Z0Y (xs:List Int)(k:Int):Xl xs k=true↔k∈xs:=by
 unfold Xl
 rw[List.any_eq_true]
 constructor
 ·rintro⟨a,ha,h⟩
  rw[beq_iff_eq]at h
  subst h;exact ha
 ·exact fun h=>⟨k,h,beq_self_eq_true k⟩
theorem Z2G {x y:Z4}(h:YD x=YD y):x=y:=by
 unfold YD at h
 simp only[List.append_assoc]at h
 obtain⟨h1,h⟩:=List.append_inj h rfl
 obtain⟨h2,h⟩:=UH h
 obtain⟨h3,h⟩:=UH h
 obtain⟨h4,h⟩:=List.append_inj h rfl
 obtain⟨h5,h6⟩:=UH h
 unfold WB at h1
 unfold WN at h4
 unfold WS at h6
 simp only[List.cons.injEq,and_true]at h1 h4 h6
 obtain⟨a1,a2,a3,a4,a5,a6,a7,a8⟩:=h1
 have h7:Zp x=Zp y:=by
  revert h6
  cases Zp x<;>cases Zp y<;>simp
 rw[←Z0q x,←Z0q y,a1,a2,a3,a4,a5,a6,a7,a8,h2,h3,h4,h5,h7]
theorem QR {x y:Z4}(h:Wt x y=true):x=y:=Z2G (of_decide_eq_true h)
theorem Z0E (xs:List Z0)(h:Xm xs=true):(∀h0:0<xs.length,W2 xs[0]=true)∧∀j (hj:j+1<xs.length),Ww (Z5 xs[j]) xs[j+1]=true:=by
 unfold Xm at h
 simp only[Bool.and_eq_true,decide_eq_true_eq]at h
 have h:=h.2
 have key:∀j (hj:j<xs.length),fw (WU xs j) (xs.drop j) (j:Int)<0:=by
  intro j
  induction j with
  |zero=>intro hj;exact h
  |succ j ih=>
   intro hj
   have:=ih (by omega)
   cases j with
   |zero=>
    have e:=Qi (xs:=xs) (by omega)
    rw[show fw (WU xs 0) (xs.drop 0) ((0:Nat):Int)=fw none (xs.drop 0) 0 from rfl,e]at this
    cases hb:W2 xs[0]with
    |true=>rw[hb]at this;exact this
    |false=>rw[hb]at this;have this':(0:Int)<0:=this;omega
   |succ j=>
    have e:=Qh (xs:=xs) (j:=j) (by omega)
    rw[e]at this
    cases hb:Ww (Z5 xs[j]) xs[j+1]with
    |true=>rw[hb]at this;exact this
    |false=>
     rw[hb]at this
     rw[show(bif !false then((j+1:Nat):Int)else fw (WU xs (j+2)) (xs.drop (j+2)) ((j+2:Nat):Int))=((j+1:Nat):Int)from rfl]at this
     omega
 refine⟨fun h0=> ?_,fun j hj=> ?_⟩
 ·have:=key 0 h0
  rw[show fw (WU xs 0) (xs.drop 0) ((0:Nat):Int)=fw none (xs.drop 0) 0 from rfl,Qi h0]at this
  cases hb:W2 xs[0]with
  |true=>rfl
  |false=>rw[hb]at this;have this':(0:Int)<0:=this;omega
 ·have:=key (j+1) hj
  rw[Qh hj]at this
  cases hb:Ww (Z5 xs[j]) xs[j+1]with
  |true=>rfl
  |false=>
   rw[hb]at this
   rw[show(bif !false then((j+1:Nat):Int)else fw (WU xs (j+2)) (xs.drop (j+2)) ((j+2:Nat):Int))=((j+1:Nat):Int)from rfl]at this
   omega
theorem Z2x (x y:Z4):Wt x y=Wt y x:=decide_eq_decide.2 ⟨fun h=>h.symm,fun h=>h.symm⟩
theorem Z30 (f:Zi):W3 (Ux f)=W3 f:=by
 unfold W3 Ux
 rw[(WM _ _ _).1,(WM _ _ _).2.1,(WM _ _ _).2.2,Z2x]
 congr 1
 cases Xy (ZL f) Zl with
 |true=>
  rw[cond_t,cond_t,Bool.beq_comm]
  cases W2 (Zr f)<;>cases W2 (Zy f)<;>rfl
 |false=>rw[cond_f,cond_f,Bool.and_comm]
/-- What ForkIn finds. -/
theorem Z2C {a b:List Z0}(h:Ua a b=true):WX a b=Xw (WK a b (YS a b)) true∧W3 (WK a b (YS a b))=true∧Ua b a=true∧ZC (Z5 (Zr (WK a b (YS a b))))=ZC (Z5 (a.getD 0 Zl))∧0<a.length:=by
 have h0:=h
 unfold Ua at h
 simp only[Bool.and_eq_true,Bool.not_eq_true',beq_iff_eq]at h
 obtain⟨ha,hb,hz,hp,hq'⟩:=h
 have hn:=Z0a hp hq'
 obtain⟨ma,mb⟩:=Qz a b hn
 obtain⟨m1,m2⟩:=Qy a b hn
 have ca:=Z0D a ha
 have cb:=Z0D b hb
 obtain⟨fa,sa⟩:=Z0E a ha
 obtain⟨fb,sb⟩:=Z0E b hb
 refine⟨by unfold WX;rw[h0,cond_t],?_,?_,?_,by omega⟩
 ·have hd:=m2 ma mb
  unfold hq at hd
  unfold W3 WK
  rw[(WM _ _ _).1,(WM _ _ _).2.1,(WM _ _ _).2.2,at_n ma,at_n mb,hd]
  by_cases hm:(YS a b:Int)>(0:Int)
  ·have e:(IntKind.i64.wrap ((YS a b:Int)-(1:Int))).toNat=YS a b-1:=by rw[w64 (by omega) (by have:=(UF a ha).2;omega)];omega
   have hj:YS a b-1+1=YS a b:=by omega
   rw[decide_eq_true hm,cond_t,e,at_n (show YS a b-1<a.length by omega)]
   have k1:=sa (YS a b-1) (by omega)
   have k2:=sb (YS a b-1) (by omega)
   have k3:=QR (m1 (YS a b-1) (by omega) (by omega) (by omega))
   rw[←k3]at k2
   simp only[hj]at k1 k2
   rw[k1,k2]
   have hb1:Xy a[YS a b-1] Zl=false:=by
    cases he:Xy a[YS a b-1] Zl with
    |false=>rfl
    |true=>
     unfold Xy at he
     simp only[Bool.and_eq_true]at he
     have e1:=QR he.1
     have e2:=Z18 _ (Z2l a ha (YS a b-1) (by omega))
     rw[e1]at e2
     exact absurd e2 (by show¬((0:Int)=1∨(0:Int)=2∨(0:Int)=3);decide)
   rw[hb1]
   rfl
  ·have hm0:YS a b=0:=by omega
   rw[decide_eq_false hm,cond_f]
   have e1:Xy Zl Zl=true:=by unfold Xy;rw[UR,decide_eq_true rfl];rfl
   rw[e1,cond_t]
   simp only[hm0]
   rw[fa (by omega),fb (by omega)]
   rw[at_n (show 0<a.length by omega),at_n (show 0<b.length by omega)]at hz
   rw[hz,beq_self_eq_true]
   rfl
 ·unfold Ua
  rw[ha,hb,hz,hp,hq',beq_self_eq_true]
  rfl
 ·unfold WK
  rw[(WM _ _ _).2.1,at_n ma]
  exact(ca _ ma).2
theorem Z1s {p:Z4}{s:Z0}(h:Ww p s=true)(hk:Yw (Z5 s)=1):Wx s (Zd p)=true:=by
 unfold Ww at h
 rw[beq_iff_eq]at h
 unfold WZ at h
 cases h1:(Xo p&&Xo (Z5 s))with
 |false=>rw[h1]at h;have h':(2:Int)=1:=h;omega
 |true=>
  rw[h1,Bool.not_true,cond_f]at h
  cases h2:Uh p (Z5 s)with
  |false=>rw[h2]at h;have h':(3:Int)=1:=h;omega
  |true=>
   rw[h2,Bool.not_true,cond_f]at h
   unfold Q1 at h
   rw[hk,show((1:Int)==2)=false from rfl,cond_f,show((1:Int)==3)=false from rfl,cond_f]at h
   unfold U5 at h
   cases hs:Wx s (Zd p)with
   |true=>rfl
   |false=>
    rw[hs]at h
    cases hc:(UM p (Z5 s)==(1:Int))with
    |true=>rw[hc]at h;have h':(7:Int)=1:=h;omega
    |false=>
     rw[hc,cond_f]at h
     rw[h]at hc
     exact absurd hc (by decide)
theorem Z33 (k:Z8)(hx:k.1.length≤1050000)(h:W4 k=true):k.1.Pairwise (· < ·)∧k.1.length≤4∧1≤k.2∧k.2≤(k.1.length:Int):=by
 obtain⟨s,hs,hS⟩:=Z0g k hx 0 KK (Nat.zero_le _) (KK_gt (by omega))
 have e:ZJ k=some s:=hs
 rw[UN k hx,h]at e
 injection e with e
 obtain⟨h1,h2,h3⟩:=hS.mp e.symm
 have ha:Qs k 0:=fun j hj hi h0=>(h1 j hj hi).2 h0
 refine⟨List.pairwise_iff_getElem.2 fun i j hi hj hij=> ?_,by omega,h3⟩
 have g1:=QN k ha i (j-1) (by omega) (by omega)
 have g2:=ha j hj (Nat.zero_le _) (by omega)
 unfold gk at g1 g2
 rw[at_n hi,at_n (show j-1<k.1.length by omega)]at g1
 rw[at_n hj,at_n (show j-1<k.1.length by omega)]at g2
 show k.1[i]<k.1[j]
 omega
theorem Z0G (p:Int→Bool):∀(ks:List Int) (c:Int),WW p ks c=c+((ks.filter p).length:Int)
 |[],c=>(Int.add_zero c).symm
 |k::ks,c=>by
  show WW p ks (bif p k then c+1 else c)=_
  rw[Z0G p ks,List.filter_cons]
  cases p k with
  |true=>rw[cond_t,if_pos rfl,List.length_cons];omega
  |false=>rw[cond_f,if_neg (by simp)]
theorem Z1T (p q:Int→Bool):∀ks:List Int,(ks.filter p).length+(ks.filter q).length≤ks.length+(ks.filter fun k=>p k&&q k).length
 |[]=>Nat.le_refl _
 |k::ks=>by
  have ih:=Z1T p q ks
  simp only[List.filter_cons]
  cases p k<;>cases q k<;>simp<;>omega
theorem QO :∀{xs ys:List Int},xs.Pairwise (· < ·)→ys.Pairwise (· < ·)→(∀a∈xs,a∈ys)→xs.length≤ys.length
 |[],ys,_,_,_=>Nat.zero_le _
 |x::xs,[],_,_,h=>absurd (h x (List.mem_cons_self ..)) (by simp)
 |x::xs,y::ys,hx,hy,h=>by
  obtain⟨hx1,hx2⟩:=List.pairwise_cons.1 hx
  obtain⟨hy1,hy2⟩:=List.pairwise_cons.1 hy
  by_cases e:x=y
  ·subst e
   refine Nat.succ_le_succ (QO hx2 hy2 fun a ha=> ?_)
   have:=hx1 a ha
   rcases List.mem_cons.1 (h a (List.mem_cons_of_mem _ ha))with g|g
   ·omega
   ·exact g
  ·refine Nat.le_succ_of_le (QO hx hy2 fun a ha=> ?_)
   have h1:x∈ys:=(List.mem_cons.1 (h x (List.mem_cons_self ..))).resolve_left e
   have h2:=hy1 x h1
   rcases List.mem_cons.1 (h a ha)with g|g
   ·rcases List.mem_cons.1 ha with g'|g'
    ·omega
    ·have:=hx1 a g'
     omega
   ·exact g
theorem Z2i {f:Zi}(hf:fB f)(h:W3 f=true)(ha:Yw (Z5 (Zr f))=1)(hb:Yw (Z5 (Zy f))=1)(hk:0<(Zd (Z5 (ZL f))).1.length):
 (Zd (Z5 (ZL f))).1.length≤4∧0≤(Zd (Z5 (ZL f))).2∧(Zd (Z5 (ZL f))).2≤4∧2*(Zd (Z5 (ZL f))).2-((Zd (Z5 (ZL f))).1.length:Int)≤((XF f).length:Int):=by
 have h0:=h
 unfold W3 at h
 simp only[Bool.and_eq_true]at h
 have h2:=h.2
 have hne:Xy (ZL f) Zl=false:=by
  cases he:Xy (ZL f) Zl with
  |false=>rfl
  |true=>
   unfold Xy at he
   simp only[Bool.and_eq_true]at he
   rw[QR he.1]at hk
   exact absurd hk (by show¬0<0;omega)
 rw[hne,cond_f,Bool.and_eq_true]at h2
 have k1:=Z1s h2.1 ha
 have k2:=Z1s h2.2 hb
 have hl:(Zd (Z5 (ZL f))).1.length≤4:=hf.1.1.1
 revert k1 k2 hl hk
 generalize Zd (Z5 (ZL f))=K
 intro hk k1 k2 hl
 unfold Wx UG at k1 k2
 simp only[Bool.and_eq_true,decide_eq_true_eq]at k1 k2
 obtain⟨kb,c1⟩:=k1
 obtain⟨_,c2⟩:=k2
 obtain⟨ka,_,kn,km⟩:=Z33 K (by omega) kb
 rw[Z0G,Int.zero_add]at c1 c2
 have g1:=Z1T (XB (ZD (Zr f)) (YD (Z5 (Zr f)))) (XB (ZD (Zy f)) (YD (Z5 (Zy f)))) K.1
 have g2:(K.1.filter fun k=>XB (ZD (Zr f)) (YD (Z5 (Zr f))) k&&XB (ZD (Zy f)) (YD (Z5 (Zy f))) k).length≤(XF f).length:=by
  refine QO (ka.filter _) ?_ fun a ha=> ?_
  ·unfold XF
   rw[h0,cond_t]
   exact(Z1P _ _).filter _
  ·obtain⟨_,hp⟩:=List.mem_filter.1 ha
   rw[Bool.and_eq_true]at hp
   unfold XF
   rw[h0,cond_t]
   exact List.mem_filter.2 ⟨(Z0k _ _ _).2 hp.1,(Z0Y _ _).2 ((Z0k _ _ _).2 hp.2)⟩
 omega
theorem Z0V {code:List Int}(hc:code.length≤1050000):Za.l45 code=some true:=by
 obtain⟨x,hd,hx⟩:=Z2t hc
 have hz:=Z0O hx
 have hb:=Z0B x
 unfold Za.l45 Za.g45
 refine Zc hd (Zc (UX x (by omega)) (Zc (Z0f x (by omega)) (cT (beq_self_eq_true _) (Zc (Z10 x (by omega)) (Zc (Z3y x (by omega)) (Zc (Z46 _ (by omega)) (cT rfl (Zc (Z13 x (by omega)) (Zc (Z3L x (by omega)) (cT (beq_self_eq_true _) (Zc (Z02 x (by omega)) (Zc (Z02 (Ux x) (by rw[QJ];omega)) (Zc (Z11 _ _ (by rw[QJ,QJ];omega) (by omega)) ?_)))))))))))))
 unfold UQ Ux Xy
 simp only[(WM _ _ _).1,(WM _ _ _).2.1,(WM _ _ _).2.2,UR,Bool.true_and,decide_true]
theorem Z2w (x:Zi):UQ x x=true:=by
 unfold UQ Xy
 rw[UR,UR,UR,decide_eq_true rfl,decide_eq_true rfl,decide_eq_true rfl]
 rfl
theorem pure_FnForks (x0:List Int):Za x0=some true:=by
 unfold Za Za.b
 refine Zc rfl ?_
 by_cases hb:(x0.length:Int)>1048576
 ·exact cT (decide_eq_true hb) rfl
 refine cF (decide_eq_false hb) ?_
 have hc:x0.length≤1050000:=by omega
 obtain⟨y,hd,⟨h1,h2⟩,h3,h4⟩:=Z2s hc
 have hx:=Qw h1 (by omega)
 have hy:=Qw h3 (by omega)
 have hf:=Z0U h1 h3
 have hz:=Z0O hf
 refine Zc hd (Zc (Z12 _ _ hx hy) (Zc (Z1A _ _ hx hy) (cF (Z3q _) (Zc (Z11 _ _ (by omega) (by omega)) (cF (by rw[Z2w];rfl) ?_)))))
 unfold Za.l17 Za.g17
 cases hr:Ua y.1 y.2 with
 |false=>
  have e:WX y.1 y.2=UB:=by unfold WX;rw[hr,cond_f]
  rw[e]
  exact cF rfl (Z0V hc)
 |true=>
  obtain⟨e,q1,q2,q3,q4⟩:=Z2C hr
  rw[e]at hf hz⊢
  rw[(WV _ _).1]at hf hz
  revert hf hz q1 q3
  generalize WK y.1 y.2 (YS y.1 y.2)=f
  intro hf hz q1 q3
  have hbl:=Z0B f
  refine cT (WV _ _).2 (Zc (by rw[(WV _ _).1];exact Z10 f (by omega)) ?_)
  obtain⟨⟨a1,a2⟩,b1,b2⟩:=QW (x:=f) (by omega)
  have ea:(YD (Z5 (Zr f))).length≤8388608:=by rw[WL];omega
  have eb:(YD (Z5 (Zy f))).length≤8388608:=by rw[WL];omega
  have la:=Um (YD (Z5 (Zr f))) (ZD (Zr f))
  have lb:=Um (YD (Z5 (Zy f))) (ZD (Zy f))
  have l39:Za.l39 x0 y (Xw f true)=some true:=by
   unfold Za.l39 Za.g39
   have hzf:=Z30 f
   refine Zc (Z12 _ _ hy hx) (Zc (by rw[(WV _ _).1];exact UX f (by omega)) (cF (by rw[q1];rfl) (Zc (by rw[(WV _ _).1];exact Z02 f (by omega)) (Zc (UX _ (by rw[QJ];omega)) (cF (by rw[hzf,q1];rfl) (cF ?_ (Zc (by rw[(WV _ _).1];exact Z13 f (by omega)) (cT (by decide) (cT (decide_eq_true (by omega)) (cF ?_ (Z0V hc)))))))))))
   ·unfold WX
    rw[q2,cond_t,(WV _ _).2]
    rfl
   ·unfold US
    rw[q1,cond_t,q3]
    exact bne_self _
  have l35:∀v:Bool,(v=true→Yw (Z5 (Zr f))=1∧Yw (Z5 (Zy f))=1∧0<(Zd (Z5 (ZL f))).1.length)→Za.l35 x0 y (Xw f true) (XF f) v=some true:=by
   intro v hv
   unfold Za.l35 Za.g35
   cases v with
   |false=>exact cF rfl l39
   |true=>
    obtain⟨v1,v2,v3⟩:=hv rfl
    obtain⟨g1,g2,g3,g4⟩:=Z2i hf q1 v1 v2 v3
    refine cT rfl (cF (decide_eq_false ?_) l39)
    rw[(WV _ _).1,w64 (n:=2*(Zd (Z5 (ZL f))).2) (by omega) (by omega),w64 (by omega) (by omega)]
    omega
  have l22:∀i n,i≤(XF f).length→(XF f).length-i<n→Za.l22 x0 y (Xw f true) (XF f) n (i:Int)=some true:=by
   refine idx_ind ?_ ?_
   ·intro n
    rw[Za.u22]
    simp only[Za.g22,lt_f (Nat.le_refl _),cond_f]
    rw[(WV _ _).1]
    by_cases e1:Yw (Z5 (Zr f))=1
    ·rw[e1]
     by_cases e2:Yw (Z5 (Zy f))=1
     ·rw[e2]
      exact cT rfl (cT rfl (l35 _ fun hv=>⟨e1,e2,by have:=of_decide_eq_true hv;omega⟩))
     ·exact cT rfl (cF (beq_eq_false_iff_ne.2 e2) (l35 false fun hv=>by cases hv))
    ·exact cF (beq_eq_false_iff_ne.2 e1) (l35 false fun hv=>by cases hv)
   ·intro i n hi ih
    rw[Za.u22]
    have hm:(XF f)[i]∈XF f:=List.getElem_mem _
    have hm2:Xl (U1 (YD (Z5 (Zr f))) (ZD (Zr f))) (XF f)[i]=true∧Xl (U1 (YD (Z5 (Zy f))) (ZD (Zy f))) (XF f)[i]=true:=by
     revert hm
     generalize (XF f)[i]=k
     intro hm
     unfold XF at hm
     rw[q1,cond_t]at hm
     obtain⟨m1,m2⟩:=List.mem_filter.1 hm
     exact⟨(Z0Y _ _).2 m1,m2⟩
    simp only[Za.g22,(WV _ _).1,lt_t hi,ge_t,cond_t,Int.toNat_natCast,at_n hi,w64_succ (i:=i) (by omega)]
    refine Zc (U0 _ a1) (Zc (Qo _ _ a2 ea) (Zc (Z0X _ _ (by omega)) (cF (by rw[hm2.1];rfl) (Zc (U0 _ b1) (Zc (Qo _ _ b2 eb) (Zc (Z0X _ _ (by omega)) (cF (by rw[hm2.2];rfl) ih)))))))
  exact l22 0 KK (Nat.zero_le _) (KK_gt (by omega))

end Go.Proofs.YtcbeaoigenjoeadGreat
