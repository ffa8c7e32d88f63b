/- That the functions compute it, part 1. -/
import Derived.Test.YtcbeaoigenjoeabGreatFnActsWalk0
namespace Go.Proofs.YtcbeaoigenjoeabGreat
set_option linter.unusedVariables false
set_option maxRecDepth 100000
noncomputable abbrev Yw.con :V.Con:=⟨(.cons (.sl (V.ci .nil)) .nil),(.cons (.sl (V.ci .nil)) .nil),fun(x:List Int)=>Yw x,[],[(false,1)],[(false,1)],[true],[]⟩
noncomputable abbrev Yw.E :V.Env:=V.mkE V.tys [(139,Ws.con)] [(6,[0,3,4],[(64000038400192,(V.ci .nil),true)])] [(6,12)] [] [] []
noncomputable abbrev Yw.kt (x0:List Int):V.Kt (List Int):=V.ktOf Yw.E Yw.con Tryz.f105 ((x0):List Int)
noncomputable abbrev Yw.s6 (x0:List Int)(v6_1:Int)(v6_2:List Int):V.St:=⟨[(0, .v false [.val (.sl (V.ci .nil) x0)]),(3, .v false [.ref 64000038400192]),(4, .v false [.vi (v6_1)])],[(64000038400192, .row (V.ci .nil) true v6_2)]⟩
theorem Yw.r6 (x0:List Int)(R:V.St→Option (List Int))(v6_1:Int)(v6_2:List Int):V.loopF Yw.E Tryz.f105.ntmps [1,1,0,1,0] [] (V.codeOf Tryz.f105) (Yw.kt x0) R (Yw.s6 x0 v6_1 v6_2)=Yw.g6 x0 (fun v6_1 v6_2=>R (Yw.s6 x0 v6_1 v6_2)) v6_1 v6_2:=by kernel_rfl
theorem Yw.e6 (x0:List Int):∀(n:Nat) (v6_1:Int) (v6_2:List Int),V.loopN (V.loopF Yw.E Tryz.f105.ntmps [1,1,0,1,0] [] (V.codeOf Tryz.f105) (Yw.kt x0)) n (Yw.s6 x0 v6_1 v6_2)=Yw.l6 x0 n v6_1 v6_2:=by
 intro n
 induction n with
 |zero=>intros;rw[V.loopN_z];rfl
 |succ n ih=>
  intro v6_1 v6_2
  rw[V.loopN_s,Yw.r6]
  simp only[ih]
  first|exact(Yw.u6 ..).symm|rfl
theorem Yw.v (x0:List Int):V.evBody Yw.E Yw.con Tryz.f105 ((x0):List Int)=Yw.b x0 (fun v6_1 v6_2=>V.loopN (V.loopF Yw.E Tryz.f105.ntmps [1,1,0,1,0] [] (V.codeOf Tryz.f105) (Yw.kt x0)) V.KK (Yw.s6 x0 v6_1 v6_2)):=by kernel_rfl
theorem Yw.eq (x0:List Int):V.evBody Yw.E Yw.con Tryz.f105 ((x0):List Int)=Yw x0:=by
 rw[Yw.v]
 simp only[Yw.e6]
 rfl
theorem Yw.ok :V.Valid Tryz.prog 105 Yw.con:=
 V.fo (V.tab_cons Ws.ok V.tab_nil) Tryz.func105 (by kernel_rfl) (fun x y h=>(show V.evBody Yw.E Yw.con Tryz.f105 x=_ from Yw.eq x).trans (V.cfl (by kernel_rfl) h))
noncomputable abbrev Yv.con :V.Con:=⟨(.cons (.sl (V.ci .nil)) .nil),(V.ci .nil),fun(x:List Int)=>Yv x,[],[(false,1)],[(false,1)],[false],[]⟩
noncomputable abbrev Yv.E :V.Env:=V.mkE V.tys [(104,XR.con),(105,Yw.con)] [(6,[0],[(0,(V.ci .nil),false)])] [] [] [] []
noncomputable abbrev Yv.kt (x0:List Int):V.Kt Int:=V.ktOf Yv.E Yv.con Tryz.f66 ((x0):List Int)
noncomputable abbrev Yv.s6 (v6_0:List Int):V.St:=⟨[(0, .v false [.val (.sl (V.ci .nil) v6_0)])],[]⟩
theorem Yv.r6 (x0:List Int)(R:V.St→Option Int)(v6_0:List Int):V.loopF Yv.E Tryz.f66.ntmps [1,1,0,0] [] (V.codeOf Tryz.f66) (Yv.kt x0) R (Yv.s6 v6_0)=Yv.g6 (fun v6_0=>R (Yv.s6 v6_0)) v6_0:=by kernel_rfl
theorem Yv.e6 (x0:List Int):∀(n:Nat) (v6_0:List Int),V.loopN (V.loopF Yv.E Tryz.f66.ntmps [1,1,0,0] [] (V.codeOf Tryz.f66) (Yv.kt x0)) n (Yv.s6 v6_0)=Yv.l6 n v6_0:=by
 intro n
 induction n with
 |zero=>intros;rw[V.loopN_z];rfl
 |succ n ih=>
  intro v6_0
  rw[V.loopN_s,Yv.r6]
  simp only[ih]
  first|exact(Yv.u6 ..).symm|rfl
theorem Yv.v (x0:List Int):V.evBody Yv.E Yv.con Tryz.f66 ((x0):List Int)=Yv.b x0 (fun v6_0=>V.loopN (V.loopF Yv.E Tryz.f66.ntmps [1,1,0,0] [] (V.codeOf Tryz.f66) (Yv.kt x0)) V.KK (Yv.s6 v6_0)):=by kernel_rfl
theorem Yv.eq (x0:List Int):V.evBody Yv.E Yv.con Tryz.f66 ((x0):List Int)=Yv x0:=by
 rw[Yv.v]
 simp only[Yv.e6]
 rfl
theorem Yv.ok :V.Valid Tryz.prog 66 Yv.con:=
 V.fo (V.tab_cons XR.ok (V.tab_cons Yw.ok V.tab_nil)) Tryz.func66 (by kernel_rfl) (fun x y h=>(show V.evBody Yv.E Yv.con Tryz.f66 x=_ from Yv.eq x).trans (V.cfl (by kernel_rfl) h))
noncomputable abbrev WW.con :V.Con:=⟨(V.ci (V.ci .nil)),(V.ci .nil),fun(x:Int×Int)=>WW x.1 x.2,[],[(false,1),(false,1)],[(false,1)],[false],[]⟩
noncomputable abbrev WW.E :V.Env:=V.mkE V.tys [(104,XR.con)] [] [] [] [] []
theorem WW.eq (x0:Int)(x1:Int):V.evBody WW.E WW.con Tryz.f65 ((x0,x1):Int×Int)=WW x0 x1:=by kernel_rfl
theorem WW.ok :V.Valid Tryz.prog 65 WW.con:=
 V.fo (V.tab_cons XR.ok V.tab_nil) Tryz.func65 (by kernel_rfl) (fun x y h=>(show V.evBody WW.E WW.con Tryz.f65 x=_ from WW.eq x.1 x.2).trans (V.cfl (by kernel_rfl) h))
noncomputable abbrev Wt.con :V.Con:=⟨(.cons (.sl V.eEntry) .nil),(V.ci .nil),fun(x:List Z4)=>Wt x,[],[(false,1)],[(false,1)],[false],[]⟩
noncomputable abbrev Wt.E :V.Env:=V.mkE V.tys [(65,WW.con),(66,Yv.con),(67,YD.con)] [] [] [] [] []
theorem Wt.eq (x0:List Z4):V.evBody Wt.E Wt.con Tryz.f30 ((x0):List Z4)=Wt x0:=by kernel_rfl
theorem Wt.ok :V.Valid Tryz.prog 30 Wt.con:=
 V.fo (V.tab_cons WW.ok (V.tab_cons Yv.ok (V.tab_cons YD.ok V.tab_nil))) Tryz.func30 (by kernel_rfl) (fun x y h=>(show V.evBody Wt.E Wt.con Tryz.f30 x=_ from Wt.eq x).trans (V.cfl (by kernel_rfl) h))
noncomputable abbrev Wk.con :V.Con:=⟨(.cons (.ptr V.eHead) (.cons (.ptr (.cons (.sl V.eEntry) .nil)) .nil)),(.cons (.ptr V.eHead) .nil),fun(x:(Z0)×List Z4)=>Wk x.1 x.2,[(0,true)],[(false,1),(false,1)],[],[],[]⟩
noncomputable abbrev Wk.E :V.Env:=V.mkE V.tys [(30,Wt.con)] [] [(0,6)] [] [(0,[1])] []
theorem Wk.eq (x0:(Z0))(x1:List Z4):V.evBody Wk.E Wk.con Tryz.f29 ((x0,x1):(Z0)×List Z4)=Wk x0 x1:=by kernel_rfl
theorem Wk.ok :V.Valid Tryz.prog 29 Wk.con:=
 V.fo (V.tab_cons Wt.ok V.tab_nil) Tryz.func29 (by kernel_rfl) (fun x y h=>(show V.evBody Wk.E Wk.con Tryz.f29 x=_ from Wk.eq x.1 x.2).trans (V.cfl (by kernel_rfl) h))
noncomputable abbrev ZQ.con :V.Con:=⟨(V.ci (V.ci (V.ci (V.ci (V.ci (V.ci (V.ci (V.ci (.cons (.sl (V.ci .nil)) (V.ci (.cons (.sl (V.ci .nil)) (V.ci (V.ci (.cons (.sl (V.ci .nil)) (V.ci (.cons .bool (V.ci (V.ci (V.ci (.cons (.fn 29 false .nil (.cons (.ptr (.cons (.sl V.eEntry) .nil)) .nil)) .nil)))))))))))))))))))),V.eRHeadBool,fun(x:Int×Int×Int×Int×Int×Int×Int×Int×List Int×Int×List Int×Int×Int×List Int×Int×Bool×Int×Int×Int×(Unit)×(List Z4))=>ZQ (x.1,x.2.1,x.2.2.1,x.2.2.2.1,x.2.2.2.2.1,x.2.2.2.2.2.1,x.2.2.2.2.2.2.1,x.2.2.2.2.2.2.2.1,x.2.2.2.2.2.2.2.2.1,x.2.2.2.2.2.2.2.2.2.1,x.2.2.2.2.2.2.2.2.2.2.1,x.2.2.2.2.2.2.2.2.2.2.2.1,x.2.2.2.2.2.2.2.2.2.2.2.2.1,x.2.2.2.2.2.2.2.2.2.2.2.2.2.1,x.2.2.2.2.2.2.2.2.2.2.2.2.2.2.1,x.2.2.2.2.2.2.2.2.2.2.2.2.2.2.2.1) x.2.2.2.2.2.2.2.2.2.2.2.2.2.2.2.2.1 x.2.2.2.2.2.2.2.2.2.2.2.2.2.2.2.2.2.1 x.2.2.2.2.2.2.2.2.2.2.2.2.2.2.2.2.2.2.1 x.2.2.2.2.2.2.2.2.2.2.2.2.2.2.2.2.2.2.2,[],[(true,16),(false,1),(false,1),(false,1),(false,1)],[(true,16),(false,1)],[false,false,false,false,false,false,false,false,true,false,true,false,false,true,false,false,false],[]⟩
noncomputable abbrev ZQ.E :V.Env:=V.mkE V.tys [(29,Wk.con),(60,ZX.con),(61,ZZ.con),(62,Yr.con),(63,Y0.con),(64,YM.con)] [(5,[1,2,3,4,5,10,27],[]),(17,[10,12,57],[])] [(4,10)] [] [(4,[3,4])] []
noncomputable abbrev ZQ.kt (x0:Z0)(x1:Int)(x2:Int)(x3:Int)(x4:(Unit)×(List Z4)):V.Kt Z7:=V.ktOf ZQ.E ZQ.con Tryz.f28 ((x0.1,x0.2.1,x0.2.2.1,x0.2.2.2.1,x0.2.2.2.2.1,x0.2.2.2.2.2.1,x0.2.2.2.2.2.2.1,x0.2.2.2.2.2.2.2.1,x0.2.2.2.2.2.2.2.2.1,x0.2.2.2.2.2.2.2.2.2.1,x0.2.2.2.2.2.2.2.2.2.2.1,x0.2.2.2.2.2.2.2.2.2.2.2.1,x0.2.2.2.2.2.2.2.2.2.2.2.2.1,x0.2.2.2.2.2.2.2.2.2.2.2.2.2.1,x0.2.2.2.2.2.2.2.2.2.2.2.2.2.2.1,x0.2.2.2.2.2.2.2.2.2.2.2.2.2.2.2,x1,x2,x3,x4):Int×Int×Int×Int×Int×Int×Int×Int×List Int×Int×List Int×Int×Int×List Int×Int×Bool×Int×Int×Int×(Unit)×(List Z4))
noncomputable abbrev ZQ.s17 (y6:(Z0))(v17_0:Bool):V.St:=⟨[(10, .v false [.ptr 64064 0]),(12, .v false [.ptr 256128 0]),(57, .v false [.val (.bool v17_0)])],[(64064, .box [.vi ((0:Int)), .vi ((0:Int)), .vi ((0:Int)), .vi ((0:Int)), .vi ((0:Int)), .vi ((0:Int)), .vi ((0:Int)), .vi ((0:Int)), .nil0, .vi ((0:Int)), .nil0, .vi ((0:Int)), .vi ((0:Int)), .nil0, .vi ((0:Int)), .val (.bool false)]),(256128, .box [.vi (y6.1), .vi (y6.2.1), .vi (y6.2.2.1), .vi (y6.2.2.2.1), .vi (y6.2.2.2.2.1), .vi (y6.2.2.2.2.2.1), .vi (y6.2.2.2.2.2.2.1), .vi (y6.2.2.2.2.2.2.2.1), .ref 64000000000016392200, .vi (y6.2.2.2.2.2.2.2.2.2.1), .ref 64000000000016392202, .vi (y6.2.2.2.2.2.2.2.2.2.2.2.1), .vi (y6.2.2.2.2.2.2.2.2.2.2.2.2.1), .ref 64000000000016392205, .vi (y6.2.2.2.2.2.2.2.2.2.2.2.2.2.2.1), .val (.bool y6.2.2.2.2.2.2.2.2.2.2.2.2.2.2.2)]),(64000000000016392200, .row (V.ci .nil) true y6.2.2.2.2.2.2.2.2.1),(64000000000016392202, .row (V.ci .nil) true y6.2.2.2.2.2.2.2.2.2.2.1),(64000000000016392205, .row (V.ci .nil) true y6.2.2.2.2.2.2.2.2.2.2.2.2.2.1)]⟩
noncomputable abbrev ZQ.s5 (x0:Z0)(x1:Int)(x2:Int)(x3:Int)(x4:(Unit)×(List Z4))(v5_4:Bool):V.St:=⟨[(1, .v false [.vi (x1)]),(2, .v false [.vi (x2)]),(3, .v false [.vi (x3)]),(4, .v false [.val (.fn 29 false .nil (.cons (.ptr (.cons (.sl V.eEntry) .nil)) .nil) () x4.2)]),(5, .v false [.ptr 64000 0]),(10, .v false [.ptr 64064 0]),(27, .v false [.val (.bool v5_4)])],[(64000, .box (V.lsHead x0)),(64064, .box [.vi ((0:Int)), .vi ((0:Int)), .vi ((0:Int)), .vi ((0:Int)), .vi ((0:Int)), .vi ((0:Int)), .vi ((0:Int)), .vi ((0:Int)), .nil0, .vi ((0:Int)), .nil0, .vi ((0:Int)), .vi ((0:Int)), .nil0, .vi ((0:Int)), .val (.bool false)])]⟩
theorem ZQ.r17 (x0:Z0)(x1:Int)(x2:Int)(x3:Int)(x4:(Unit)×(List Z4))(y6:(Z0))(v17_0:Bool):V.joinF ZQ.E Tryz.f28.ntmps [1,1,1,1,1,1,0] [] (V.codeOf Tryz.f28) (ZQ.kt x0 x1 x2 x3 x4) (ZQ.s17 y6 v17_0)=ZQ.g17 y6 v17_0:=by kernel_rfl
theorem ZQ.e17 (x0:Z0)(x1:Int)(x2:Int)(x3:Int)(x4:(Unit)×(List Z4))(y6:(Z0))(v17_0:Bool):V.jn (V.joinF ZQ.E Tryz.f28.ntmps [1,1,1,1,1,1,0] [] (V.codeOf Tryz.f28) (ZQ.kt x0 x1 x2 x3 x4)) (ZQ.s17 y6 v17_0)=ZQ.l17 y6 v17_0:=by
 rw[V.jn_eq,ZQ.r17]
 rfl
theorem ZQ.r5 (x0:Z0)(x1:Int)(x2:Int)(x3:Int)(x4:(Unit)×(List Z4))(v5_4:Bool):V.joinF ZQ.E Tryz.f28.ntmps [1,0] [] (V.codeOf Tryz.f28) (ZQ.kt x0 x1 x2 x3 x4) (ZQ.s5 x0 x1 x2 x3 x4 v5_4)=ZQ.g5 x0 x1 x2 x3 x4 (fun y6 v17_0=>V.jn (V.joinF ZQ.E Tryz.f28.ntmps [1,1,1,1,1,1,0] [] (V.codeOf Tryz.f28) (ZQ.kt x0 x1 x2 x3 x4)) (ZQ.s17 y6 v17_0)) v5_4:=by kernel_rfl
theorem ZQ.e5 (x0:Z0)(x1:Int)(x2:Int)(x3:Int)(x4:(Unit)×(List Z4))(v5_4:Bool):V.jn (V.joinF ZQ.E Tryz.f28.ntmps [1,0] [] (V.codeOf Tryz.f28) (ZQ.kt x0 x1 x2 x3 x4)) (ZQ.s5 x0 x1 x2 x3 x4 v5_4)=ZQ.l5 x0 x1 x2 x3 x4 v5_4:=by
 rw[V.jn_eq,ZQ.r5]
 simp only[ZQ.e17]
 rfl
theorem ZQ.v (x0:Z0)(x1:Int)(x2:Int)(x3:Int)(x4:(Unit)×(List Z4)):V.evBody ZQ.E ZQ.con Tryz.f28 ((x0.1,x0.2.1,x0.2.2.1,x0.2.2.2.1,x0.2.2.2.2.1,x0.2.2.2.2.2.1,x0.2.2.2.2.2.2.1,x0.2.2.2.2.2.2.2.1,x0.2.2.2.2.2.2.2.2.1,x0.2.2.2.2.2.2.2.2.2.1,x0.2.2.2.2.2.2.2.2.2.2.1,x0.2.2.2.2.2.2.2.2.2.2.2.1,x0.2.2.2.2.2.2.2.2.2.2.2.2.1,x0.2.2.2.2.2.2.2.2.2.2.2.2.2.1,x0.2.2.2.2.2.2.2.2.2.2.2.2.2.2.1,x0.2.2.2.2.2.2.2.2.2.2.2.2.2.2.2,x1,x2,x3,x4):Int×Int×Int×Int×Int×Int×Int×Int×List Int×Int×List Int×Int×Int×List Int×Int×Bool×Int×Int×Int×(Unit)×(List Z4))=ZQ.b x0 x1 x2 x3 x4 (fun v5_4=>V.jn (V.joinF ZQ.E Tryz.f28.ntmps [1,0] [] (V.codeOf Tryz.f28) (ZQ.kt x0 x1 x2 x3 x4)) (ZQ.s5 x0 x1 x2 x3 x4 v5_4)):=by kernel_rfl
theorem ZQ.eq (x0:Z0)(x1:Int)(x2:Int)(x3:Int)(x4:(Unit)×(List Z4)):V.evBody ZQ.E ZQ.con Tryz.f28 ((x0.1,x0.2.1,x0.2.2.1,x0.2.2.2.1,x0.2.2.2.2.1,x0.2.2.2.2.2.1,x0.2.2.2.2.2.2.1,x0.2.2.2.2.2.2.2.1,x0.2.2.2.2.2.2.2.2.1,x0.2.2.2.2.2.2.2.2.2.1,x0.2.2.2.2.2.2.2.2.2.2.1,x0.2.2.2.2.2.2.2.2.2.2.2.1,x0.2.2.2.2.2.2.2.2.2.2.2.2.1,x0.2.2.2.2.2.2.2.2.2.2.2.2.2.1,x0.2.2.2.2.2.2.2.2.2.2.2.2.2.2.1,x0.2.2.2.2.2.2.2.2.2.2.2.2.2.2.2,x1,x2,x3,x4):Int×Int×Int×Int×Int×Int×Int×Int×List Int×Int×List Int×Int×Int×List Int×Int×Bool×Int×Int×Int×(Unit)×(List Z4))=ZQ x0 x1 x2 x3 x4:=by
 rw[ZQ.v]
 simp only[ZQ.e5]
 rfl
theorem ZQ.ok :V.Valid Tryz.prog 28 ZQ.con:=
 V.fo (V.tab_cons Wk.ok (V.tab_cons ZX.ok (V.tab_cons ZZ.ok (V.tab_cons Yr.ok (V.tab_cons Y0.ok (V.tab_cons YM.ok V.tab_nil)))))) Tryz.func28 (by kernel_rfl) (fun x y h=>(show V.evBody ZQ.E ZQ.con Tryz.f28 x=_ from ZQ.eq (x.1,x.2.1,x.2.2.1,x.2.2.2.1,x.2.2.2.2.1,x.2.2.2.2.2.1,x.2.2.2.2.2.2.1,x.2.2.2.2.2.2.2.1,x.2.2.2.2.2.2.2.2.1,x.2.2.2.2.2.2.2.2.2.1,x.2.2.2.2.2.2.2.2.2.2.1,x.2.2.2.2.2.2.2.2.2.2.2.1,x.2.2.2.2.2.2.2.2.2.2.2.2.1,x.2.2.2.2.2.2.2.2.2.2.2.2.2.1,x.2.2.2.2.2.2.2.2.2.2.2.2.2.2.1,x.2.2.2.2.2.2.2.2.2.2.2.2.2.2.2.1) x.2.2.2.2.2.2.2.2.2.2.2.2.2.2.2.2.1 x.2.2.2.2.2.2.2.2.2.2.2.2.2.2.2.2.2.1 x.2.2.2.2.2.2.2.2.2.2.2.2.2.2.2.2.2.2.1 x.2.2.2.2.2.2.2.2.2.2.2.2.2.2.2.2.2.2.2).trans (V.cfl (by kernel_rfl) h))
noncomputable abbrev Xd.con :V.Con:=⟨V.A7,V.eRHeadBool,fun(x:V.D7)=>Xd (V.p7_0 x) (V.p7_1 x) (V.p7_2 x) (V.p7_3 x),[],[(true,16),(false,1),(false,1),(false,1)],[(true,16),(false,1)],[false,false,false,false,false,false,false,false,true,false,true,false,false,true,false,false,false],[]⟩
noncomputable abbrev Xd.E :V.Env:=V.mkE V.tys [(27,Yi.con),(28,ZQ.con)] [] [] [] [] []
noncomputable abbrev Xd.kt (x0:Z0)(x1:List Z4)(x2:Int)(x3:Int):V.Kt Z7:=V.ktOf Xd.E Xd.con Tryz.f7 (V.fl7 x0 x1 x2 x3)
noncomputable abbrev Xd.s (x0:Z0)(x1:List Z4)(x2:Int)(x3:Int):V.St:=⟨[(0, .v true (V.lsHead x0)),(1, .v false [.val (.sl V.eEntry x1)]),(2, .v false [.vi (x2)]),(3, .v false [.vi (x3)])],[]⟩
theorem Xd.v0 (x0:Z0)(x1:List Z4)(x2:Int)(x3:Int):V.evBody Xd.E Xd.con Tryz.f7 (V.fl7 x0 x1 x2 x3)=V.evC Xd.E Tryz.f7.ntmps (V.codeOf Tryz.f7) (Xd.kt x0 x1 x2 x3) (Xd.s x0 x1 x2 x3):=by kernel_rfl
theorem Xd.v (x0:Z0)(x1:List Z4)(x2:Int)(x3:Int):V.evC Xd.E Tryz.f7.ntmps (V.codeOf Tryz.f7) (Xd.kt x0 x1 x2 x3) (Xd.s x0 x1 x2 x3)=Xd x0 x1 x2 x3:=by kernel_rfl
theorem Xd.eq (x0:Z0)(x1:List Z4)(x2:Int)(x3:Int):V.evBody Xd.E Xd.con Tryz.f7 (V.fl7 x0 x1 x2 x3)=Xd x0 x1 x2 x3:=(Xd.v0 x0 x1 x2 x3).trans (Xd.v x0 x1 x2 x3)
theorem Xd.ok :V.Valid Tryz.prog 7 Xd.con:=
 V.fo (V.tab_cons Yi.ok (V.tab_cons ZQ.ok V.tab_nil)) Tryz.func7 (by kernel_rfl) (fun x y h=>(show V.evBody Xd.E Xd.con Tryz.f7 x=_ from Xd.eq (V.p7_0 x) (V.p7_1 x) (V.p7_2 x) (V.p7_3 x)).trans (V.cfl (by kernel_rfl) h))
noncomputable abbrev Ym.con :V.Con:=⟨(.cons (.sl (V.ci .nil)) (V.ci .nil)),(V.ci .nil),fun(x:List Int×Int)=>Ym x.1 x.2,[],[(false,1),(false,1)],[(false,1)],[false],[]⟩
noncomputable abbrev Ym.E :V.Env:=V.mkE V.tys [] [(4,[0,1,7,8],[])] [] [] [] []
noncomputable abbrev Ym.kt (x0:List Int)(x1:Int):V.Kt Int:=V.ktOf Ym.E Ym.con Tryz.f142 ((x0,x1):List Int×Int)
noncomputable abbrev Ym.s4 (x0:List Int)(x1:Int)(v4_2:Int)(v4_3:Int):V.St:=⟨[(0, .v false [.val (.sl (V.ci .nil) x0)]),(1, .v false [.vi (x1)]),(7, .v false [.vi (v4_2)]),(8, .v false [.vi (v4_3)])],[]⟩
theorem Ym.r4 (x0:List Int)(x1:Int)(R:V.St→Option Int)(v4_2:Int)(v4_3:Int):V.loopF Ym.E Tryz.f142.ntmps [1,0,1,0] [] (V.codeOf Tryz.f142) (Ym.kt x0 x1) R (Ym.s4 x0 x1 v4_2 v4_3)=Ym.g4 x0 x1 (fun v4_2 v4_3=>R (Ym.s4 x0 x1 v4_2 v4_3)) v4_2 v4_3:=by kernel_rfl
theorem Ym.e4 (x0:List Int)(x1:Int):∀(n:Nat) (v4_2:Int) (v4_3:Int),V.loopN (V.loopF Ym.E Tryz.f142.ntmps [1,0,1,0] [] (V.codeOf Tryz.f142) (Ym.kt x0 x1)) n (Ym.s4 x0 x1 v4_2 v4_3)=Ym.l4 x0 x1 n v4_2 v4_3:=by
 intro n
 induction n with
 |zero=>intros;rw[V.loopN_z];rfl
 |succ n ih=>
  intro v4_2 v4_3
  rw[V.loopN_s,Ym.r4]
  simp only[ih]
  first|exact(Ym.u4 ..).symm|rfl
theorem Ym.v (x0:List Int)(x1:Int):V.evBody Ym.E Ym.con Tryz.f142 ((x0,x1):List Int×Int)=Ym.b x0 x1 (fun v4_2 v4_3=>V.loopN (V.loopF Ym.E Tryz.f142.ntmps [1,0,1,0] [] (V.codeOf Tryz.f142) (Ym.kt x0 x1)) V.KK (Ym.s4 x0 x1 v4_2 v4_3)):=by kernel_rfl
theorem Ym.eq (x0:List Int)(x1:Int):V.evBody Ym.E Ym.con Tryz.f142 ((x0,x1):List Int×Int)=Ym x0 x1:=by
 rw[Ym.v]
 simp only[Ym.e4]
 rfl
theorem Ym.ok :V.Valid Tryz.prog 142 Ym.con:=
 V.fo V.tab_nil Tryz.func142 (by kernel_rfl) (fun x y h=>(show V.evBody Ym.E Ym.con Tryz.f142 x=_ from Ym.eq x.1 x.2).trans (V.cfl (by kernel_rfl) h))
noncomputable abbrev WA.con :V.Con:=⟨(.cons (.sl (V.ci .nil)) (V.ci .nil)),(.cons .bool .nil),fun(x:List Int×Int)=>WA x.1 x.2,[],[(false,1),(false,1)],[(false,1)],[false],[]⟩
noncomputable abbrev WA.E :V.Env:=V.mkE V.tys [(142,Ym.con)] [] [] [] [] []
theorem WA.eq (x0:List Int)(x1:Int):V.evBody WA.E WA.con Tryz.f109 ((x0,x1):List Int×Int)=WA x0 x1:=by kernel_rfl
theorem WA.ok :V.Valid Tryz.prog 109 WA.con:=
 V.fo (V.tab_cons Ym.ok V.tab_nil) Tryz.func109 (by kernel_rfl) (fun x y h=>(show V.evBody WA.E WA.con Tryz.f109 x=_ from WA.eq x.1 x.2).trans (V.cfl (by kernel_rfl) h))
noncomputable abbrev Wq.con :V.Con:=⟨(V.ci (.cons (.sl (V.ci .nil)) .nil)),(V.ci .nil),fun(x:Int×List Int)=>Wq x.1 x.2,[],[(false,1),(false,1)],[(false,1)],[false],[]⟩
noncomputable abbrev Wq.E :V.Env:=V.mkE V.tys [(103,ZW.con),(111,Zw.con)] [] [] [128320] [] []
theorem Wq.eq (x0:Int)(x1:List Int):V.evBody Wq.E Wq.con Tryz.f143 ((x0,x1):Int×List Int)=Wq x0 x1:=by kernel_rfl
theorem Wq.ok :V.Valid Tryz.prog 143 Wq.con:=
 V.fo (V.tab_cons ZW.ok (V.tab_cons Zw.ok V.tab_nil)) Tryz.func143 (by kernel_rfl) (fun x y h=>(show V.evBody Wq.E Wq.con Tryz.f143 x=_ from Wq.eq x.1 x.2).trans (V.cfl (by kernel_rfl) h))
noncomputable abbrev XZ.con :V.Con:=⟨(V.ci (.cons (.sl (V.ci .nil)) .nil)),(V.ci .nil),fun(x:Int×List Int)=>XZ x.1 x.2,[],[(false,1),(false,1)],[(false,1)],[false],[]⟩
noncomputable abbrev XZ.E :V.Env:=V.mkE V.tys [(143,Wq.con)] [] [] [] [] []
theorem XZ.eq (x0:Int)(x1:List Int):V.evBody XZ.E XZ.con Tryz.f110 ((x0,x1):Int×List Int)=XZ x0 x1:=by kernel_rfl
theorem XZ.ok :V.Valid Tryz.prog 110 XZ.con:=
 V.fo (V.tab_cons Wq.ok V.tab_nil) Tryz.func110 (by kernel_rfl) (fun x y h=>(show V.evBody XZ.E XZ.con Tryz.f110 x=_ from XZ.eq x.1 x.2).trans (V.cfl (by kernel_rfl) h))
noncomputable abbrev Yk.con :V.Con:=⟨(.cons (.sl (V.ci .nil)) (.cons (.sl (V.ci .nil)) (V.ci (.cons (.sl (V.ci .nil)) .nil)))),(.cons (.sl (V.ci (V.ci .nil))) .nil),fun(x:List Int×List Int×Int×List Int)=>Yk x.1 (x.2.1,x.2.2.1) x.2.2.2,[],[(false,1),(true,2),(false,1)],[(false,1)],[true],[]⟩
noncomputable abbrev Yk.E :V.Env:=V.mkE V.tys [(109,WA.con),(110,XZ.con)] [(6,[0,2,7,12,13,14],[(64000038400448,(V.ci (V.ci .nil)),true)])] [] [] [] []
noncomputable abbrev Yk.kt (x0:List Int)(x1:Z5)(x2:List Int):V.Kt (List Zb):=V.ktOf Yk.E Yk.con Tryz.f72 ((x0,x1.1,x1.2,x2):List Int×List Int×Int×List Int)
noncomputable abbrev Yk.s6 (x0:List Int)(x1:Z5)(x2:List Int)(v6_3:Int)(v6_4:Int)(v6_5:List Zb):V.St:=⟨[(0, .v false [.val (.sl (V.ci .nil) x0)]),(2, .v false [.val (.sl (V.ci .nil) x2)]),(7, .v false [.ref 64000038400448]),(12, .v false [.val (.sl (V.ci .nil) x1.1)]),(13, .v false [.vi (v6_3)]),(14, .v false [.vi (v6_4)])],[(64000038400448, .row (V.ci (V.ci .nil)) true v6_5)]⟩
theorem Yk.r6 (x0:List Int)(x1:Z5)(x2:List Int)(R:V.St→Option (List Zb))(v6_3:Int)(v6_4:Int)(v6_5:List Zb):V.loopF Yk.E Tryz.f72.ntmps [1,1,0,1,0] [] (V.codeOf Tryz.f72) (Yk.kt x0 x1 x2) R (Yk.s6 x0 x1 x2 v6_3 v6_4 v6_5)=Yk.g6 x0 x1 x2 (fun v6_3 v6_4 v6_5=>R (Yk.s6 x0 x1 x2 v6_3 v6_4 v6_5)) v6_3 v6_4 v6_5:=by kernel_rfl
theorem Yk.e6 (x0:List Int)(x1:Z5)(x2:List Int):∀(n:Nat) (v6_3:Int) (v6_4:Int) (v6_5:List Zb),V.loopN (V.loopF Yk.E Tryz.f72.ntmps [1,1,0,1,0] [] (V.codeOf Tryz.f72) (Yk.kt x0 x1 x2)) n (Yk.s6 x0 x1 x2 v6_3 v6_4 v6_5)=Yk.l6 x0 x1 x2 n v6_3 v6_4 v6_5:=by
 intro n
 induction n with
 |zero=>intros;rw[V.loopN_z];rfl
 |succ n ih=>
  intro v6_3 v6_4 v6_5
  rw[V.loopN_s,Yk.r6]
  simp only[ih]
  first|exact(Yk.u6 ..).symm|rfl
theorem Yk.v (x0:List Int)(x1:Z5)(x2:List Int):V.evBody Yk.E Yk.con Tryz.f72 ((x0,x1.1,x1.2,x2):List Int×List Int×Int×List Int)=Yk.b x0 x1 x2 (fun v6_3 v6_4 v6_5=>V.loopN (V.loopF Yk.E Tryz.f72.ntmps [1,1,0,1,0] [] (V.codeOf Tryz.f72) (Yk.kt x0 x1 x2)) V.KK (Yk.s6 x0 x1 x2 v6_3 v6_4 v6_5)):=by kernel_rfl
theorem Yk.eq (x0:List Int)(x1:Z5)(x2:List Int):V.evBody Yk.E Yk.con Tryz.f72 ((x0,x1.1,x1.2,x2):List Int×List Int×Int×List Int)=Yk x0 x1 x2:=by
 rw[Yk.v]
 simp only[Yk.e6]
 rfl
theorem Yk.ok :V.Valid Tryz.prog 72 Yk.con:=
 V.fo (V.tab_cons WA.ok (V.tab_cons XZ.ok V.tab_nil)) Tryz.func72 (by kernel_rfl) (fun x y h=>(show V.evBody Yk.E Yk.con Tryz.f72 x=_ from Yk.eq x.1 (x.2.1,x.2.2.1) x.2.2.2).trans (V.cfl (by kernel_rfl) h))
noncomputable abbrev Xi.con :V.Con:=⟨V.A1,V.eSigned,fun(x:V.D1)=>Xi (V.p1_0 x) (V.p1_1 x) (V.p1_2 x),[],[(false,1),(true,2),(true,16)],[(true,17)],[false,false,false,false,false,false,false,false,true,false,true,false,false,true,false,false,true],[]⟩
noncomputable abbrev Xi.E :V.Env:=V.mkE V.tys [(62,Yr.con),(72,Yk.con),(73,X1.con)] [] [(1,6)] [] [] []
noncomputable abbrev Xi.kt (x0:List Int)(x1:Z5)(x2:Z0):V.Kt Z6:=V.ktOf Xi.E Xi.con Tryz.f32 (V.fl1 x0 x1 x2)
noncomputable abbrev Xi.s (x0:List Int)(x1:Z5)(x2:Z0):V.St:=⟨[(0, .v false [.val (.sl (V.ci .nil) x0)]),(1, .v true [.val (.sl (V.ci .nil) x1.1), .vi (x1.2)]),(2, .v true (V.lsHead x2))],[]⟩
theorem Xi.v0 (x0:List Int)(x1:Z5)(x2:Z0):V.evBody Xi.E Xi.con Tryz.f32 (V.fl1 x0 x1 x2)=V.evC Xi.E Tryz.f32.ntmps (V.codeOf Tryz.f32) (Xi.kt x0 x1 x2) (Xi.s x0 x1 x2):=by kernel_rfl
theorem Xi.v (x0:List Int)(x1:Z5)(x2:Z0):V.evC Xi.E Tryz.f32.ntmps (V.codeOf Tryz.f32) (Xi.kt x0 x1 x2) (Xi.s x0 x1 x2)=Xi x0 x1 x2:=by kernel_rfl
theorem Xi.eq (x0:List Int)(x1:Z5)(x2:Z0):V.evBody Xi.E Xi.con Tryz.f32 (V.fl1 x0 x1 x2)=Xi x0 x1 x2:=(Xi.v0 x0 x1 x2).trans (Xi.v x0 x1 x2)
theorem Xi.ok :V.Valid Tryz.prog 32 Xi.con:=
 V.fo (V.tab_cons Yr.ok (V.tab_cons Yk.ok (V.tab_cons X1.ok V.tab_nil))) Tryz.func32 (by kernel_rfl) (fun x y h=>(show V.evBody Xi.E Xi.con Tryz.f32 x=_ from Xi.eq (V.p1_0 x) (V.p1_1 x) (V.p1_2 x)).trans (V.cfl (by kernel_rfl) h))
noncomputable abbrev Y4.con :V.Con:=⟨V.A8,V.eSigned,fun(x:V.D8)=>Y4 (V.p8_0 x) (V.p8_1 x) (V.p8_2 x),[],[(true,16),(true,16),(false,1)],[(true,17)],[false,false,false,false,false,false,false,false,true,false,true,false,false,true,false,false,true],[]⟩
noncomputable abbrev Y4.E :V.Env:=V.mkE V.tys [(32,Xi.con)] [(15,[2,4,6,7],[])] [] [] [] []
noncomputable abbrev Y4.kt (x0:Z0)(x1:Z0)(x2:List Int):V.Kt Z6:=V.ktOf Y4.E Y4.con Tryz.f9 (V.fl8 x0 x1 x2)
noncomputable abbrev Y4.s15 (x1:Z0)(x2:List Int)(v15_30:List Int)(v15_31:Int):V.St:=⟨[(2, .v false [.val (.sl (V.ci .nil) x2)]),(4, .v false [.ptr 64064 0]),(6, .v false [.ptr 64128 0]),(7, .v false [.ptr 128128 0])],[(64064, .box (V.lsHead x1)),(64128, .box [.vi ((0:Int)), .vi ((0:Int)), .vi ((0:Int)), .vi ((0:Int)), .vi ((0:Int)), .vi ((0:Int)), .vi ((0:Int)), .vi ((0:Int)), .nil0, .vi ((0:Int)), .nil0, .vi ((0:Int)), .vi ((0:Int)), .nil0, .vi ((0:Int)), .val (.bool false), .nil0]),(128128, .box [.val (.sl (V.ci .nil) v15_30), .vi (v15_31)])]⟩
theorem Y4.r15 (x0:Z0)(x1:Z0)(x2:List Int)(v15_30:List Int)(v15_31:Int):V.joinF Y4.E Tryz.f9.ntmps [1,1] [] (V.codeOf Tryz.f9) (Y4.kt x0 x1 x2) (Y4.s15 x1 x2 v15_30 v15_31)=Y4.g15 x1 x2 v15_30 v15_31:=by kernel_rfl
theorem Y4.e15 (x0:Z0)(x1:Z0)(x2:List Int)(v15_30:List Int)(v15_31:Int):V.jn (V.joinF Y4.E Tryz.f9.ntmps [1,1] [] (V.codeOf Tryz.f9) (Y4.kt x0 x1 x2)) (Y4.s15 x1 x2 v15_30 v15_31)=Y4.l15 x1 x2 v15_30 v15_31:=by
 rw[V.jn_eq,Y4.r15]
 rfl
noncomputable abbrev Y4.s (x0:Z0)(x1:Z0)(x2:List Int):V.St:=⟨[(0, .v true (V.lsHead x0)),(1, .v true (V.lsHead x1)),(2, .v false [.val (.sl (V.ci .nil) x2)])],[]⟩
theorem Y4.v0 (x0:Z0)(x1:Z0)(x2:List Int):V.evBody Y4.E Y4.con Tryz.f9 (V.fl8 x0 x1 x2)=V.evC Y4.E Tryz.f9.ntmps (V.codeOf Tryz.f9) (Y4.kt x0 x1 x2) (Y4.s x0 x1 x2):=by kernel_rfl
theorem Y4.v (x0:Z0)(x1:Z0)(x2:List Int):V.evC Y4.E Tryz.f9.ntmps (V.codeOf Tryz.f9) (Y4.kt x0 x1 x2) (Y4.s x0 x1 x2)=Y4.b x0 x1 x2 (fun v15_30 v15_31=>V.jn (V.joinF Y4.E Tryz.f9.ntmps [1,1] [] (V.codeOf Tryz.f9) (Y4.kt x0 x1 x2)) (Y4.s15 x1 x2 v15_30 v15_31)):=by kernel_rfl
theorem Y4.eq (x0:Z0)(x1:Z0)(x2:List Int):V.evBody Y4.E Y4.con Tryz.f9 (V.fl8 x0 x1 x2)=Y4 x0 x1 x2:=by
 rw[Y4.v0,Y4.v]
 simp only[Y4.e15]
 rfl
theorem Y4.ok :V.Valid Tryz.prog 9 Y4.con:=
 V.fo (V.tab_cons Xi.ok V.tab_nil) Tryz.func9 (by kernel_rfl) (fun x y h=>(show V.evBody Y4.E Y4.con Tryz.f9 x=_ from Y4.eq (V.p8_0 x) (V.p8_1 x) (V.p8_2 x)).trans (V.cfl (by kernel_rfl) h))
noncomputable abbrev Xj.con :V.Con:=⟨V.A4,(.cons .bool .nil),fun(x:V.D4)=>Xj (V.p4_0 x) (V.p4_1 x),[],[(true,16),(true,16)],[(false,1)],[false],[]⟩
noncomputable abbrev Xj.E :V.Env:=V.mkE V.tys [(64,YM.con)] [] [(1,25)] [] [] []
noncomputable abbrev Xj.kt (x0:Z0)(x1:Z0):V.Kt Bool:=V.ktOf Xj.E Xj.con Tryz.f68 (V.fl4 x0 x1)
noncomputable abbrev Xj.s (x0:Z0)(x1:Z0):V.St:=⟨[(0, .v true (V.lsHead x0)),(1, .v true (V.lsHead x1))],[]⟩
theorem Xj.v0 (x0:Z0)(x1:Z0):V.evBody Xj.E Xj.con Tryz.f68 (V.fl4 x0 x1)=V.evC Xj.E Tryz.f68.ntmps (V.codeOf Tryz.f68) (Xj.kt x0 x1) (Xj.s x0 x1):=by kernel_rfl
theorem Xj.v (x0:Z0)(x1:Z0):V.evC Xj.E Tryz.f68.ntmps (V.codeOf Tryz.f68) (Xj.kt x0 x1) (Xj.s x0 x1)=Xj x0 x1:=by kernel_rfl
theorem Xj.eq (x0:Z0)(x1:Z0):V.evBody Xj.E Xj.con Tryz.f68 (V.fl4 x0 x1)=Xj x0 x1:=(Xj.v0 x0 x1).trans (Xj.v x0 x1)
theorem Xj.ok :V.Valid Tryz.prog 68 Xj.con:=
 V.fo (V.tab_cons YM.ok V.tab_nil) Tryz.func68 (by kernel_rfl) (fun x y h=>(show V.evBody Xj.E Xj.con Tryz.f68 x=_ from Xj.eq (V.p4_0 x) (V.p4_1 x)).trans (V.cfl (by kernel_rfl) h))
noncomputable abbrev Wo.con :V.Con:=⟨(V.ci (V.ci (.cons (.sl (V.ci .nil)) .nil))),(.cons .bool .nil),fun(x:Int×Int×List Int)=>Wo (x.1,x.2.1) x.2.2,[],[(true,2),(false,1)],[(false,1)],[false],[]⟩
noncomputable abbrev Wo.E :V.Env:=V.mkE V.tys [(110,XZ.con),(137,XU.con)] [] [(1,10)] [] [] []
theorem Wo.eq (x0:Zb)(x1:List Int):V.evBody Wo.E Wo.con Tryz.f170 ((x0.1,x0.2,x1):Int×Int×List Int)=Wo x0 x1:=by kernel_rfl
theorem Wo.ok :V.Valid Tryz.prog 170 Wo.con:=
 V.fo (V.tab_cons XZ.ok (V.tab_cons XU.ok V.tab_nil)) Tryz.func170 (by kernel_rfl) (fun x y h=>(show V.evBody Wo.E Wo.con Tryz.f170 x=_ from Wo.eq (x.1,x.2.1) x.2.2).trans (V.cfl (by kernel_rfl) h))
noncomputable abbrev WT.con :V.Con:=⟨(V.ci (V.ci (.cons (.ptr (V.ci .nil)) (.cons (.ptr (.cons (.sl (V.ci .nil)) .nil)) .nil)))),(.cons .bool .nil),fun(x:Int×Int×Int×List Int)=>WT (x.1,x.2.1) x.2.2.1 x.2.2.2,[],[(true,2),(false,1),(false,1)],[(false,1)],[false],[]⟩
noncomputable abbrev WT.E :V.Env:=V.mkE V.tys [(170,Wo.con)] [] [] [] [] []
theorem WT.eq (x0:Zb)(x1:Int)(x2:List Int):V.evBody WT.E WT.con Tryz.f169 ((x0.1,x0.2,x1,x2):Int×Int×Int×List Int)=WT x0 x1 x2:=by kernel_rfl
theorem WT.ok :V.Valid Tryz.prog 169 WT.con:=
 V.fo (V.tab_cons Wo.ok V.tab_nil) Tryz.func169 (by kernel_rfl) (fun x y h=>(show V.evBody WT.E WT.con Tryz.f169 x=_ from WT.eq (x.1,x.2.1) x.2.2.1 x.2.2.2).trans (V.cfl (by kernel_rfl) h))
noncomputable abbrev Ya.con :V.Con:=⟨(.cons (.sl (V.ci (V.ci .nil))) (.cons (.fn 169 false .nil (.cons (.ptr (V.ci .nil)) (.cons (.ptr (.cons (.sl (V.ci .nil)) .nil)) .nil))) .nil)),(V.ci .nil),fun(x:List Zb×(Unit)×(Int×List Int))=>Ya x.1 x.2,[],[(false,1),(false,1)],[(false,1)],[false],[]⟩
noncomputable abbrev Ya.E :V.Env:=V.mkE V.tys [(169,WT.con)] [(4,[0,1,7,8],[])] [] [] [] []
noncomputable abbrev Ya.kt (x0:List Zb)(x1:(Unit)×(Int×List Int)):V.Kt Int:=V.ktOf Ya.E Ya.con Tryz.f177 ((x0,x1):List Zb×(Unit)×(Int×List Int))
noncomputable abbrev Ya.s4 (x0:List Zb)(x1:(Unit)×(Int×List Int))(v4_2:Int)(v4_3:Int):V.St:=⟨[(0, .v false [.val (.sl (V.ci (V.ci .nil)) x0)]),(1, .v false [.val (.fn 169 false .nil (.cons (.ptr (V.ci .nil)) (.cons (.ptr (.cons (.sl (V.ci .nil)) .nil)) .nil)) () x1.2)]),(7, .v false [.vi (v4_2)]),(8, .v false [.vi (v4_3)])],[]⟩
theorem Ya.r4 (x0:List Zb)(x1:(Unit)×(Int×List Int))(R:V.St→Option Int)(v4_2:Int)(v4_3:Int):V.loopF Ya.E Tryz.f177.ntmps [1,0,1,0] [] (V.codeOf Tryz.f177) (Ya.kt x0 x1) R (Ya.s4 x0 x1 v4_2 v4_3)=Ya.g4 x0 x1 (fun v4_2 v4_3=>R (Ya.s4 x0 x1 v4_2 v4_3)) v4_2 v4_3:=by kernel_rfl
theorem Ya.e4 (x0:List Zb)(x1:(Unit)×(Int×List Int)):∀(n:Nat) (v4_2:Int) (v4_3:Int),V.loopN (V.loopF Ya.E Tryz.f177.ntmps [1,0,1,0] [] (V.codeOf Tryz.f177) (Ya.kt x0 x1)) n (Ya.s4 x0 x1 v4_2 v4_3)=Ya.l4 x0 x1 n v4_2 v4_3:=by
 intro n
 induction n with
 |zero=>intros;rw[V.loopN_z];rfl
 |succ n ih=>
  intro v4_2 v4_3
  rw[V.loopN_s,Ya.r4]
  simp only[ih]
  first|exact(Ya.u4 ..).symm|rfl
theorem Ya.v (x0:List Zb)(x1:(Unit)×(Int×List Int)):V.evBody Ya.E Ya.con Tryz.f177 ((x0,x1):List Zb×(Unit)×(Int×List Int))=Ya.b x0 x1 (fun v4_2 v4_3=>V.loopN (V.loopF Ya.E Tryz.f177.ntmps [1,0,1,0] [] (V.codeOf Tryz.f177) (Ya.kt x0 x1)) V.KK (Ya.s4 x0 x1 v4_2 v4_3)):=by kernel_rfl
theorem Ya.eq (x0:List Zb)(x1:(Unit)×(Int×List Int)):V.evBody Ya.E Ya.con Tryz.f177 ((x0,x1):List Zb×(Unit)×(Int×List Int))=Ya x0 x1:=by
 rw[Ya.v]
 simp only[Ya.e4]
 rfl
theorem Ya.ok :V.Valid Tryz.prog 177 Ya.con:=
 V.fo (V.tab_cons WT.ok V.tab_nil) Tryz.func177 (by kernel_rfl) (fun x y h=>(show V.evBody Ya.E Ya.con Tryz.f177 x=_ from Ya.eq x.1 x.2).trans (V.cfl (by kernel_rfl) h))
noncomputable abbrev Wy.con :V.Con:=⟨(.cons (.sl (V.ci (V.ci .nil))) (.cons (.fn 169 false .nil (.cons (.ptr (V.ci .nil)) (.cons (.ptr (.cons (.sl (V.ci .nil)) .nil)) .nil))) .nil)),(.cons .bool .nil),fun(x:List Zb×(Unit)×(Int×List Int))=>Wy x.1 x.2,[],[(false,1),(false,1)],[(false,1)],[false],[]⟩
noncomputable abbrev Wy.E :V.Env:=V.mkE V.tys [(177,Ya.con)] [] [] [] [] []
theorem Wy.eq (x0:List Zb)(x1:(Unit)×(Int×List Int)):V.evBody Wy.E Wy.con Tryz.f168 ((x0,x1):List Zb×(Unit)×(Int×List Int))=Wy x0 x1:=by kernel_rfl
theorem Wy.ok :V.Valid Tryz.prog 168 Wy.con:=
 V.fo (V.tab_cons Ya.ok V.tab_nil) Tryz.func168 (by kernel_rfl) (fun x y h=>(show V.evBody Wy.E Wy.con Tryz.f168 x=_ from Wy.eq x.1 x.2).trans (V.cfl (by kernel_rfl) h))
noncomputable abbrev Yj.con :V.Con:=⟨(.cons (.sl (V.ci .nil)) (V.ci (.cons (.sl (V.ci .nil)) (.cons (.sl (V.ci (V.ci .nil))) .nil)))),(V.ci .nil),fun(x:List Int×Int×List Int×List Zb)=>Yj (x.1,x.2.1) x.2.2.1 x.2.2.2,[],[(true,2),(false,1),(false,1)],[(false,1)],[false],[]⟩
noncomputable abbrev Yj.E :V.Env:=V.mkE V.tys [(168,Wy.con)] [(6,[2,4,7,11,12,13],[])] [] [] [] []
noncomputable abbrev Yj.kt (x0:Z5)(x1:List Int)(x2:List Zb):V.Kt Int:=V.ktOf Yj.E Yj.con Tryz.f159 ((x0.1,x0.2,x1,x2):List Int×Int×List Int×List Zb)
noncomputable abbrev Yj.s6 (x0:Z5)(x1:List Int)(x2:List Zb)(v6_1:Int)(v6_3:Int)(v6_4:Int):V.St:=⟨[(2, .v false [.val (.sl (V.ci (V.ci .nil)) x2)]),(4, .v false [.ptr 64064 0]),(7, .v false [.vi (v6_1)]),(11, .v false [.val (.sl (V.ci .nil) x0.1)]),(12, .v false [.vi (v6_3)]),(13, .v false [.vi (v6_4)])],[(64064, .box [.val (.sl (V.ci .nil) x1)])]⟩
theorem Yj.r6 (x0:Z5)(x1:List Int)(x2:List Zb)(R:V.St→Option Int)(v6_1:Int)(v6_3:Int)(v6_4:Int):V.loopF Yj.E Tryz.f159.ntmps [1,1,0,1,0] [] (V.codeOf Tryz.f159) (Yj.kt x0 x1 x2) R (Yj.s6 x0 x1 x2 v6_1 v6_3 v6_4)=Yj.g6 x0 x1 x2 (fun v6_1 v6_3 v6_4=>R (Yj.s6 x0 x1 x2 v6_1 v6_3 v6_4)) v6_1 v6_3 v6_4:=by kernel_rfl
theorem Yj.e6 (x0:Z5)(x1:List Int)(x2:List Zb):∀(n:Nat) (v6_1:Int) (v6_3:Int) (v6_4:Int),V.loopN (V.loopF Yj.E Tryz.f159.ntmps [1,1,0,1,0] [] (V.codeOf Tryz.f159) (Yj.kt x0 x1 x2)) n (Yj.s6 x0 x1 x2 v6_1 v6_3 v6_4)=Yj.l6 x0 x1 x2 n v6_1 v6_3 v6_4:=by
 intro n
 induction n with
 |zero=>intros;rw[V.loopN_z];rfl
 |succ n ih=>
  intro v6_1 v6_3 v6_4
  rw[V.loopN_s,Yj.r6]
  simp only[ih]
  first|exact(Yj.u6 ..).symm|rfl
theorem Yj.v (x0:Z5)(x1:List Int)(x2:List Zb):V.evBody Yj.E Yj.con Tryz.f159 ((x0.1,x0.2,x1,x2):List Int×Int×List Int×List Zb)=Yj.b x0 x1 x2 (fun v6_1 v6_3 v6_4=>V.loopN (V.loopF Yj.E Tryz.f159.ntmps [1,1,0,1,0] [] (V.codeOf Tryz.f159) (Yj.kt x0 x1 x2)) V.KK (Yj.s6 x0 x1 x2 v6_1 v6_3 v6_4)):=by kernel_rfl
theorem Yj.eq (x0:Z5)(x1:List Int)(x2:List Zb):V.evBody Yj.E Yj.con Tryz.f159 ((x0.1,x0.2,x1,x2):List Int×Int×List Int×List Zb)=Yj x0 x1 x2:=by
 rw[Yj.v]
 simp only[Yj.e6]
 rfl
theorem Yj.ok :V.Valid Tryz.prog 159 Yj.con:=
 V.fo (V.tab_cons Wy.ok V.tab_nil) Tryz.func159 (by kernel_rfl) (fun x y h=>(show V.evBody Yj.E Yj.con Tryz.f159 x=_ from Yj.eq (x.1,x.2.1) x.2.2.1 x.2.2.2).trans (V.cfl (by kernel_rfl) h))
noncomputable abbrev Wp.con :V.Con:=⟨(.cons (.sl (V.ci .nil)) (V.ci (.cons (.sl (V.ci .nil)) (.cons (.sl (V.ci (V.ci .nil))) .nil)))),(.cons .bool .nil),fun(x:List Int×Int×List Int×List Zb)=>Wp (x.1,x.2.1) x.2.2.1 x.2.2.2,[],[(true,2),(false,1),(false,1)],[(false,1)],[false],[]⟩
noncomputable abbrev Wp.E :V.Env:=V.mkE V.tys [(100,XJ.con),(159,Yj.con)] [] [(1,9)] [] [] []
theorem Wp.eq (x0:Z5)(x1:List Int)(x2:List Zb):V.evBody Wp.E Wp.con Tryz.f141 ((x0.1,x0.2,x1,x2):List Int×Int×List Int×List Zb)=Wp x0 x1 x2:=by kernel_rfl
theorem Wp.ok :V.Valid Tryz.prog 141 Wp.con:=
 V.fo (V.tab_cons XJ.ok (V.tab_cons Yj.ok V.tab_nil)) Tryz.func141 (by kernel_rfl) (fun x y h=>(show V.evBody Wp.E Wp.con Tryz.f141 x=_ from Wp.eq (x.1,x.2.1) x.2.2.1 x.2.2.2).trans (V.cfl (by kernel_rfl) h))
noncomputable abbrev X0.con :V.Con:=⟨V.A9,(.cons .bool .nil),fun(x:V.D9)=>X0 (V.p9_0 x) (V.p9_1 x),[],[(true,17),(true,2)],[(false,1)],[false],[]⟩
noncomputable abbrev X0.E :V.Env:=V.mkE V.tys [(73,X1.con),(141,Wp.con)] [] [(1,6)] [] [] []
noncomputable abbrev X0.kt (x0:Z6)(x1:Z5):V.Kt Bool:=V.ktOf X0.E X0.con Tryz.f107 (V.fl9 x0 x1)
noncomputable abbrev X0.s (x0:Z6)(x1:Z5):V.St:=⟨[(0, .v true (V.lsSigned x0)),(1, .v true [.val (.sl (V.ci .nil) x1.1), .vi (x1.2)])],[]⟩
theorem X0.v0 (x0:Z6)(x1:Z5):V.evBody X0.E X0.con Tryz.f107 (V.fl9 x0 x1)=V.evC X0.E Tryz.f107.ntmps (V.codeOf Tryz.f107) (X0.kt x0 x1) (X0.s x0 x1):=by kernel_rfl
theorem X0.v (x0:Z6)(x1:Z5):V.evC X0.E Tryz.f107.ntmps (V.codeOf Tryz.f107) (X0.kt x0 x1) (X0.s x0 x1)=X0 x0 x1:=by kernel_rfl
theorem X0.eq (x0:Z6)(x1:Z5):V.evBody X0.E X0.con Tryz.f107 (V.fl9 x0 x1)=X0 x0 x1:=(X0.v0 x0 x1).trans (X0.v x0 x1)
theorem X0.ok :V.Valid Tryz.prog 107 X0.con:=
 V.fo (V.tab_cons X1.ok (V.tab_cons Wp.ok V.tab_nil)) Tryz.func107 (by kernel_rfl) (fun x y h=>(show V.evBody X0.E X0.con Tryz.f107 x=_ from X0.eq (V.p9_0 x) (V.p9_1 x)).trans (V.cfl (by kernel_rfl) h))
noncomputable abbrev Xk.con :V.Con:=⟨V.A5,(V.ci .nil),fun(x:V.D5)=>Xk (V.p5_0 x) (V.p5_1 x),[],[(true,16),(true,17)],[(false,1)],[false],[]⟩
noncomputable abbrev Xk.E :V.Env:=V.mkE V.tys [(107,X0.con)] [] [] [] [] []
noncomputable abbrev Xk.kt (x0:Z0)(x1:Z6):V.Kt Int:=V.ktOf Xk.E Xk.con Tryz.f69 (V.fl5 x0 x1)
noncomputable abbrev Xk.s (x0:Z0)(x1:Z6):V.St:=⟨[(0, .v true (V.lsHead x0)),(1, .v true (V.lsSigned x1))],[]⟩
theorem Xk.v0 (x0:Z0)(x1:Z6):V.evBody Xk.E Xk.con Tryz.f69 (V.fl5 x0 x1)=V.evC Xk.E Tryz.f69.ntmps (V.codeOf Tryz.f69) (Xk.kt x0 x1) (Xk.s x0 x1):=by kernel_rfl
theorem Xk.v (x0:Z0)(x1:Z6):V.evC Xk.E Tryz.f69.ntmps (V.codeOf Tryz.f69) (Xk.kt x0 x1) (Xk.s x0 x1)=Xk x0 x1:=by kernel_rfl
theorem Xk.eq (x0:Z0)(x1:Z6):V.evBody Xk.E Xk.con Tryz.f69 (V.fl5 x0 x1)=Xk x0 x1:=(Xk.v0 x0 x1).trans (Xk.v x0 x1)
theorem Xk.ok :V.Valid Tryz.prog 69 Xk.con:=
 V.fo (V.tab_cons X0.ok V.tab_nil) Tryz.func69 (by kernel_rfl) (fun x y h=>(show V.evBody Xk.E Xk.con Tryz.f69 x=_ from Xk.eq (V.p5_0 x) (V.p5_1 x)).trans (V.cfl (by kernel_rfl) h))
noncomputable abbrev Y7.con :V.Con:=⟨(.cons (.sl (V.ci .nil)) (.cons (.sl (V.ci .nil)) .nil)),(.cons .bool .nil),fun(x:List Int×List Int)=>Y7 x.1 x.2,[],[(false,1),(false,1)],[(false,1)],[false],[]⟩
noncomputable abbrev Y7.E :V.Env:=V.mkE V.tys [] [(8,[0,1,12,13],[])] [(6,8)] [] [] []
noncomputable abbrev Y7.kt (x0:List Int)(x1:List Int):V.Kt Bool:=V.ktOf Y7.E Y7.con Tryz.f36 ((x0,x1):List Int×List Int)
noncomputable abbrev Y7.s8 (x0:List Int)(x1:List Int)(v8_2:Int)(v8_3:Int):V.St:=⟨[(0, .v false [.val (.sl (V.ci .nil) x0)]),(1, .v false [.val (.sl (V.ci .nil) x1)]),(12, .v false [.vi (v8_2)]),(13, .v false [.vi (v8_3)])],[]⟩
theorem Y7.r8 (x0:List Int)(x1:List Int)(R:V.St→Option Bool)(v8_2:Int)(v8_3:Int):V.loopF Y7.E Tryz.f36.ntmps [1,1,0,1,0] [] (V.codeOf Tryz.f36) (Y7.kt x0 x1) R (Y7.s8 x0 x1 v8_2 v8_3)=Y7.g8 x0 x1 (fun v8_2 v8_3=>R (Y7.s8 x0 x1 v8_2 v8_3)) v8_2 v8_3:=by kernel_rfl
theorem Y7.e8 (x0:List Int)(x1:List Int):∀(n:Nat) (v8_2:Int) (v8_3:Int),V.loopN (V.loopF Y7.E Tryz.f36.ntmps [1,1,0,1,0] [] (V.codeOf Tryz.f36) (Y7.kt x0 x1)) n (Y7.s8 x0 x1 v8_2 v8_3)=Y7.l8 x0 x1 n v8_2 v8_3:=by
 intro n
 induction n with
 |zero=>intros;rw[V.loopN_z];rfl
 |succ n ih=>
  intro v8_2 v8_3
  rw[V.loopN_s,Y7.r8]
  simp only[ih]
  first|exact(Y7.u8 ..).symm|rfl
theorem Y7.v (x0:List Int)(x1:List Int):V.evBody Y7.E Y7.con Tryz.f36 ((x0,x1):List Int×List Int)=Y7.b x0 x1 (fun v8_2 v8_3=>V.loopN (V.loopF Y7.E Tryz.f36.ntmps [1,1,0,1,0] [] (V.codeOf Tryz.f36) (Y7.kt x0 x1)) V.KK (Y7.s8 x0 x1 v8_2 v8_3)):=by kernel_rfl
theorem Y7.eq (x0:List Int)(x1:List Int):V.evBody Y7.E Y7.con Tryz.f36 ((x0,x1):List Int×List Int)=Y7 x0 x1:=by
 rw[Y7.v]
 simp only[Y7.e8]
 rfl
theorem Y7.ok :V.Valid Tryz.prog 36 Y7.con:=
 V.fo V.tab_nil Tryz.func36 (by kernel_rfl) (fun x y h=>(show V.evBody Y7.E Y7.con Tryz.f36 x=_ from Y7.eq x.1 x.2).trans (V.cfl (by kernel_rfl) h))
noncomputable abbrev XD.con :V.Con:=⟨(.cons (.sl (V.ci .nil)) (V.ci (.cons (.sl (V.ci .nil)) (V.ci .nil)))),(.cons .bool .nil),fun(x:List Int×Int×List Int×Int)=>XD (x.1,x.2.1) x.2.2,[],[(true,2),(true,2)],[(false,1)],[false],[]⟩
noncomputable abbrev XD.E :V.Env:=V.mkE V.tys [(36,Y7.con)] [] [] [] [] []
theorem XD.eq (x0:Z5)(x1:Z5):V.evBody XD.E XD.con Tryz.f12 ((x0.1,x0.2,x1.1,x1.2):List Int×Int×List Int×Int)=XD x0 x1:=by kernel_rfl
theorem XD.ok :V.Valid Tryz.prog 12 XD.con:=
 V.fo (V.tab_cons Y7.ok V.tab_nil) Tryz.func12 (by kernel_rfl) (fun x y h=>(show V.evBody XD.E XD.con Tryz.f12 x=_ from XD.eq (x.1,x.2.1) x.2.2).trans (V.cfl (by kernel_rfl) h))
noncomputable abbrev X8.con :V.Con:=⟨V.A4,(.cons .bool .nil),fun(x:V.D4)=>X8 (V.p4_0 x) (V.p4_1 x),[],[(true,16),(true,16)],[(false,1)],[false],[]⟩
noncomputable abbrev X8.E :V.Env:=V.mkE V.tys [] [] [] [] [] []
noncomputable abbrev X8.kt (x0:Z0)(x1:Z0):V.Kt Bool:=V.ktOf X8.E X8.con Tryz.f108 (V.fl4 x0 x1)
noncomputable abbrev X8.s (x0:Z0)(x1:Z0):V.St:=⟨[(0, .v true (V.lsHead x0)),(1, .v true (V.lsHead x1))],[]⟩
theorem X8.v0 (x0:Z0)(x1:Z0):V.evBody X8.E X8.con Tryz.f108 (V.fl4 x0 x1)=V.evC X8.E Tryz.f108.ntmps (V.codeOf Tryz.f108) (X8.kt x0 x1) (X8.s x0 x1):=by kernel_rfl
theorem X8.v (x0:Z0)(x1:Z0):V.evC X8.E Tryz.f108.ntmps (V.codeOf Tryz.f108) (X8.kt x0 x1) (X8.s x0 x1)=X8 x0 x1:=by kernel_rfl
theorem X8.eq (x0:Z0)(x1:Z0):V.evBody X8.E X8.con Tryz.f108 (V.fl4 x0 x1)=X8 x0 x1:=(X8.v0 x0 x1).trans (X8.v x0 x1)
theorem X8.ok :V.Valid Tryz.prog 108 X8.con:=
 V.fo V.tab_nil Tryz.func108 (by kernel_rfl) (fun x y h=>(show V.evBody X8.E X8.con Tryz.f108 x=_ from X8.eq (V.p4_0 x) (V.p4_1 x)).trans (V.cfl (by kernel_rfl) h))
noncomputable abbrev ZC.con :V.Con:=⟨V.A5,(V.ci .nil),fun(x:V.D5)=>ZC (V.p5_0 x) (V.p5_1 x),[],[(true,16),(true,17)],[(false,1)],[false],[]⟩
noncomputable abbrev ZC.E :V.Env:=V.mkE V.tys [(12,XD.con),(37,Xa.con),(107,X0.con),(108,X8.con)] [(11,[2,3,5,11],[]),(15,[2,3,25],[])] [] [] [] []
noncomputable abbrev ZC.kt (x0:Z0)(x1:Z6):V.Kt Int:=V.ktOf ZC.E ZC.con Tryz.f70 (V.fl5 x0 x1)
noncomputable abbrev ZC.s15 (x0:Z0)(x1:Z6)(v15_0:Bool):V.St:=⟨[(2, .v false [.ptr 64000 0]),(3, .v false [.ptr 64064 0]),(25, .v false [.val (.bool v15_0)])],[(64000, .box (V.lsHead x0)),(64064, .box (V.lsSigned x1))]⟩
noncomputable abbrev ZC.s11 (x0:Z0)(x1:Z6)(v11_0:Bool):V.St:=⟨[(2, .v false [.ptr 64000 0]),(3, .v false [.ptr 64064 0]),(5, .v false [.ptr 128128 0]),(11, .v false [.val (.bool v11_0)])],[(64000, .box (V.lsHead x0)),(64064, .box (V.lsSigned x1)),(128128, .box [.vi (x1.1), .vi (x1.2.1), .vi (x1.2.2.1), .vi (x1.2.2.2.1), .vi (x1.2.2.2.2.1), .vi (x1.2.2.2.2.2.1), .vi (x1.2.2.2.2.2.2.1), .vi (x1.2.2.2.2.2.2.2.1), .val (.sl (V.ci .nil) x1.2.2.2.2.2.2.2.2.1), .vi (x1.2.2.2.2.2.2.2.2.2.1), .val (.sl (V.ci .nil) x1.2.2.2.2.2.2.2.2.2.2.1), .vi (x1.2.2.2.2.2.2.2.2.2.2.2.1), .vi (x1.2.2.2.2.2.2.2.2.2.2.2.2.1), .val (.sl (V.ci .nil) x1.2.2.2.2.2.2.2.2.2.2.2.2.2.1), .vi (x1.2.2.2.2.2.2.2.2.2.2.2.2.2.2.1), .val (.bool x1.2.2.2.2.2.2.2.2.2.2.2.2.2.2.2.1)])]⟩
theorem ZC.r15 (x0:Z0)(x1:Z6)(v15_0:Bool):V.joinF ZC.E Tryz.f70.ntmps [1,1,0,0,1,1,1,1] [] (V.codeOf Tryz.f70) (ZC.kt x0 x1) (ZC.s15 x0 x1 v15_0)=ZC.g15 x0 x1 v15_0:=by kernel_rfl
theorem ZC.e15 (x0:Z0)(x1:Z6)(v15_0:Bool):V.jn (V.joinF ZC.E Tryz.f70.ntmps [1,1,0,0,1,1,1,1] [] (V.codeOf Tryz.f70) (ZC.kt x0 x1)) (ZC.s15 x0 x1 v15_0)=ZC.l15 x0 x1 v15_0:=by
 rw[V.jn_eq,ZC.r15]
 rfl
theorem ZC.r11 (x0:Z0)(x1:Z6)(v11_0:Bool):V.joinF ZC.E Tryz.f70.ntmps [1,1,0,0,1,1] [] (V.codeOf Tryz.f70) (ZC.kt x0 x1) (ZC.s11 x0 x1 v11_0)=ZC.g11 x0 x1 (fun v15_0=>V.jn (V.joinF ZC.E Tryz.f70.ntmps [1,1,0,0,1,1,1,1] [] (V.codeOf Tryz.f70) (ZC.kt x0 x1)) (ZC.s15 x0 x1 v15_0)) v11_0:=by kernel_rfl
theorem ZC.e11 (x0:Z0)(x1:Z6)(v11_0:Bool):V.jn (V.joinF ZC.E Tryz.f70.ntmps [1,1,0,0,1,1] [] (V.codeOf Tryz.f70) (ZC.kt x0 x1)) (ZC.s11 x0 x1 v11_0)=ZC.l11 x0 x1 v11_0:=by
 rw[V.jn_eq,ZC.r11]
 simp only[ZC.e15]
 rfl
noncomputable abbrev ZC.s (x0:Z0)(x1:Z6):V.St:=⟨[(0, .v true (V.lsHead x0)),(1, .v true (V.lsSigned x1))],[]⟩
theorem ZC.v0 (x0:Z0)(x1:Z6):V.evBody ZC.E ZC.con Tryz.f70 (V.fl5 x0 x1)=V.evC ZC.E Tryz.f70.ntmps (V.codeOf Tryz.f70) (ZC.kt x0 x1) (ZC.s x0 x1):=by kernel_rfl
theorem ZC.v (x0:Z0)(x1:Z6):V.evC ZC.E Tryz.f70.ntmps (V.codeOf Tryz.f70) (ZC.kt x0 x1) (ZC.s x0 x1)=ZC.b x0 x1 (fun v11_0=>V.jn (V.joinF ZC.E Tryz.f70.ntmps [1,1,0,0,1,1] [] (V.codeOf Tryz.f70) (ZC.kt x0 x1)) (ZC.s11 x0 x1 v11_0)):=by kernel_rfl
theorem ZC.eq (x0:Z0)(x1:Z6):V.evBody ZC.E ZC.con Tryz.f70 (V.fl5 x0 x1)=ZC x0 x1:=by
 rw[ZC.v0,ZC.v]
 simp only[ZC.e11]
 rfl
theorem ZC.ok :V.Valid Tryz.prog 70 ZC.con:=
 V.fo (V.tab_cons XD.ok (V.tab_cons Xa.ok (V.tab_cons X0.ok (V.tab_cons X8.ok V.tab_nil)))) Tryz.func70 (by kernel_rfl) (fun x y h=>(show V.evBody ZC.E ZC.con Tryz.f70 x=_ from ZC.eq (V.p5_0 x) (V.p5_1 x)).trans (V.cfl (by kernel_rfl) h))
noncomputable abbrev ZD.con :V.Con:=⟨V.A5,(V.ci .nil),fun(x:V.D5)=>ZD (V.p5_0 x) (V.p5_1 x),[],[(true,16),(true,17)],[(false,1)],[false],[]⟩
noncomputable abbrev ZD.E :V.Env:=V.mkE V.tys [(12,XD.con),(37,Xa.con),(107,X0.con),(108,X8.con)] [(7,[2,3,5,6],[]),(13,[2,3,37],[])] [] [] [] []
noncomputable abbrev ZD.kt (x0:Z0)(x1:Z6):V.Kt Int:=V.ktOf ZD.E ZD.con Tryz.f71 (V.fl5 x0 x1)
noncomputable abbrev ZD.s13 (x0:Z0)(x1:Z6)(v13_0:Bool):V.St:=⟨[(2, .v false [.ptr 64000 0]),(3, .v false [.ptr 64064 0]),(37, .v false [.val (.bool v13_0)])],[(64000, .box (V.lsHead x0)),(64064, .box (V.lsSigned x1))]⟩
noncomputable abbrev ZD.s7 (x0:Z0)(x1:Z6)(v7_0:Bool):V.St:=⟨[(2, .v false [.ptr 64000 0]),(3, .v false [.ptr 64064 0]),(5, .v false [.ptr 128128 0]),(6, .v false [.val (.bool v7_0)])],[(64000, .box (V.lsHead x0)),(64064, .box (V.lsSigned x1)),(128128, .box [.vi (x1.1), .vi (x1.2.1), .vi (x1.2.2.1), .vi (x1.2.2.2.1), .vi (x1.2.2.2.2.1), .vi (x1.2.2.2.2.2.1), .vi (x1.2.2.2.2.2.2.1), .vi (x1.2.2.2.2.2.2.2.1), .val (.sl (V.ci .nil) x1.2.2.2.2.2.2.2.2.1), .vi (x1.2.2.2.2.2.2.2.2.2.1), .val (.sl (V.ci .nil) x1.2.2.2.2.2.2.2.2.2.2.1), .vi (x1.2.2.2.2.2.2.2.2.2.2.2.1), .vi (x1.2.2.2.2.2.2.2.2.2.2.2.2.1), .val (.sl (V.ci .nil) x1.2.2.2.2.2.2.2.2.2.2.2.2.2.1), .vi (x1.2.2.2.2.2.2.2.2.2.2.2.2.2.2.1), .val (.bool x1.2.2.2.2.2.2.2.2.2.2.2.2.2.2.2.1)])]⟩
theorem ZD.r13 (x0:Z0)(x1:Z6)(v13_0:Bool):V.joinF ZD.E Tryz.f71.ntmps [1,1,1,0,0,1,1] [] (V.codeOf Tryz.f71) (ZD.kt x0 x1) (ZD.s13 x0 x1 v13_0)=ZD.g13 x0 x1 v13_0:=by kernel_rfl
theorem ZD.e13 (x0:Z0)(x1:Z6)(v13_0:Bool):V.jn (V.joinF ZD.E Tryz.f71.ntmps [1,1,1,0,0,1,1] [] (V.codeOf Tryz.f71) (ZD.kt x0 x1)) (ZD.s13 x0 x1 v13_0)=ZD.l13 x0 x1 v13_0:=by
 rw[V.jn_eq,ZD.r13]
 rfl
theorem ZD.r7 (x0:Z0)(x1:Z6)(v7_0:Bool):V.joinF ZD.E Tryz.f71.ntmps [1,1] [] (V.codeOf Tryz.f71) (ZD.kt x0 x1) (ZD.s7 x0 x1 v7_0)=ZD.g7 x0 x1 (fun v13_0=>V.jn (V.joinF ZD.E Tryz.f71.ntmps [1,1,1,0,0,1,1] [] (V.codeOf Tryz.f71) (ZD.kt x0 x1)) (ZD.s13 x0 x1 v13_0)) v7_0:=by kernel_rfl
theorem ZD.e7 (x0:Z0)(x1:Z6)(v7_0:Bool):V.jn (V.joinF ZD.E Tryz.f71.ntmps [1,1] [] (V.codeOf Tryz.f71) (ZD.kt x0 x1)) (ZD.s7 x0 x1 v7_0)=ZD.l7 x0 x1 v7_0:=by
 rw[V.jn_eq,ZD.r7]
 simp only[ZD.e13]
 rfl
noncomputable abbrev ZD.s (x0:Z0)(x1:Z6):V.St:=⟨[(0, .v true (V.lsHead x0)),(1, .v true (V.lsSigned x1))],[]⟩
theorem ZD.v0 (x0:Z0)(x1:Z6):V.evBody ZD.E ZD.con Tryz.f71 (V.fl5 x0 x1)=V.evC ZD.E Tryz.f71.ntmps (V.codeOf Tryz.f71) (ZD.kt x0 x1) (ZD.s x0 x1):=by kernel_rfl
theorem ZD.v (x0:Z0)(x1:Z6):V.evC ZD.E Tryz.f71.ntmps (V.codeOf Tryz.f71) (ZD.kt x0 x1) (ZD.s x0 x1)=ZD.b x0 x1 (fun v7_0=>V.jn (V.joinF ZD.E Tryz.f71.ntmps [1,1] [] (V.codeOf Tryz.f71) (ZD.kt x0 x1)) (ZD.s7 x0 x1 v7_0)):=by kernel_rfl
theorem ZD.eq (x0:Z0)(x1:Z6):V.evBody ZD.E ZD.con Tryz.f71 (V.fl5 x0 x1)=ZD x0 x1:=by
 rw[ZD.v0,ZD.v]
 simp only[ZD.e7]
 rfl
theorem ZD.ok :V.Valid Tryz.prog 71 ZD.con:=
 V.fo (V.tab_cons XD.ok (V.tab_cons Xa.ok (V.tab_cons X0.ok (V.tab_cons X8.ok V.tab_nil)))) Tryz.func71 (by kernel_rfl) (fun x y h=>(show V.evBody ZD.E ZD.con Tryz.f71 x=_ from ZD.eq (V.p5_0 x) (V.p5_1 x)).trans (V.cfl (by kernel_rfl) h))
noncomputable abbrev Y9.con :V.Con:=⟨V.A5,(V.ci .nil),fun(x:V.D5)=>Y9 (V.p5_0 x) (V.p5_1 x),[],[(true,16),(true,17)],[(false,1)],[false],[]⟩
noncomputable abbrev Y9.E :V.Env:=V.mkE V.tys [(60,ZX.con),(68,Xj.con),(69,Xk.con),(70,ZC.con),(71,ZD.con)] [(5,[2,3,5],[])] [] [] [] []
noncomputable abbrev Y9.kt (x0:Z0)(x1:Z6):V.Kt Int:=V.ktOf Y9.E Y9.con Tryz.f31 (V.fl5 x0 x1)
noncomputable abbrev Y9.s5 (x0:Z0)(x1:Z6)(v5_0:Bool):V.St:=⟨[(2, .v false [.ptr 64000 0]),(3, .v false [.ptr 64064 0]),(5, .v false [.val (.bool v5_0)])],[(64000, .box (V.lsHead x0)),(64064, .box (V.lsSigned x1))]⟩
theorem Y9.r5 (x0:Z0)(x1:Z6)(v5_0:Bool):V.joinF Y9.E Tryz.f31.ntmps [1,0,0] [] (V.codeOf Tryz.f31) (Y9.kt x0 x1) (Y9.s5 x0 x1 v5_0)=Y9.g5 x0 x1 v5_0:=by kernel_rfl
theorem Y9.e5 (x0:Z0)(x1:Z6)(v5_0:Bool):V.jn (V.joinF Y9.E Tryz.f31.ntmps [1,0,0] [] (V.codeOf Tryz.f31) (Y9.kt x0 x1)) (Y9.s5 x0 x1 v5_0)=Y9.l5 x0 x1 v5_0:=by
 rw[V.jn_eq,Y9.r5]
 rfl
noncomputable abbrev Y9.s (x0:Z0)(x1:Z6):V.St:=⟨[(0, .v true (V.lsHead x0)),(1, .v true (V.lsSigned x1))],[]⟩
theorem Y9.v0 (x0:Z0)(x1:Z6):V.evBody Y9.E Y9.con Tryz.f31 (V.fl5 x0 x1)=V.evC Y9.E Tryz.f31.ntmps (V.codeOf Tryz.f31) (Y9.kt x0 x1) (Y9.s x0 x1):=by kernel_rfl
theorem Y9.v (x0:Z0)(x1:Z6):V.evC Y9.E Tryz.f31.ntmps (V.codeOf Tryz.f31) (Y9.kt x0 x1) (Y9.s x0 x1)=Y9.b x0 x1 (fun v5_0=>V.jn (V.joinF Y9.E Tryz.f31.ntmps [1,0,0] [] (V.codeOf Tryz.f31) (Y9.kt x0 x1)) (Y9.s5 x0 x1 v5_0)):=by kernel_rfl
theorem Y9.eq (x0:Z0)(x1:Z6):V.evBody Y9.E Y9.con Tryz.f31 (V.fl5 x0 x1)=Y9 x0 x1:=by
 rw[Y9.v0,Y9.v]
 simp only[Y9.e5]
 rfl
theorem Y9.ok :V.Valid Tryz.prog 31 Y9.con:=
 V.fo (V.tab_cons ZX.ok (V.tab_cons Xj.ok (V.tab_cons Xk.ok (V.tab_cons ZC.ok (V.tab_cons ZD.ok V.tab_nil))))) Tryz.func31 (by kernel_rfl) (fun x y h=>(show V.evBody Y9.E Y9.con Tryz.f31 x=_ from Y9.eq (V.p5_0 x) (V.p5_1 x)).trans (V.cfl (by kernel_rfl) h))
noncomputable abbrev X2.con :V.Con:=⟨V.A5,(.cons .bool .nil),fun(x:V.D5)=>X2 (V.p5_0 x) (V.p5_1 x),[],[(true,16),(true,17)],[(false,1)],[false],[]⟩
noncomputable abbrev X2.E :V.Env:=V.mkE V.tys [(31,Y9.con)] [] [] [] [] []
noncomputable abbrev X2.kt (x0:Z0)(x1:Z6):V.Kt Bool:=V.ktOf X2.E X2.con Tryz.f8 (V.fl5 x0 x1)
noncomputable abbrev X2.s (x0:Z0)(x1:Z6):V.St:=⟨[(0, .v true (V.lsHead x0)),(1, .v true (V.lsSigned x1))],[]⟩
theorem X2.v0 (x0:Z0)(x1:Z6):V.evBody X2.E X2.con Tryz.f8 (V.fl5 x0 x1)=V.evC X2.E Tryz.f8.ntmps (V.codeOf Tryz.f8) (X2.kt x0 x1) (X2.s x0 x1):=by kernel_rfl
theorem X2.v (x0:Z0)(x1:Z6):V.evC X2.E Tryz.f8.ntmps (V.codeOf Tryz.f8) (X2.kt x0 x1) (X2.s x0 x1)=X2 x0 x1:=by kernel_rfl
theorem X2.eq (x0:Z0)(x1:Z6):V.evBody X2.E X2.con Tryz.f8 (V.fl5 x0 x1)=X2 x0 x1:=(X2.v0 x0 x1).trans (X2.v x0 x1)
theorem X2.ok :V.Valid Tryz.prog 8 X2.con:=
 V.fo (V.tab_cons Y9.ok V.tab_nil) Tryz.func8 (by kernel_rfl) (fun x y h=>(show V.evBody X2.E X2.con Tryz.f8 x=_ from X2.eq (V.p5_0 x) (V.p5_1 x)).trans (V.cfl (by kernel_rfl) h))
noncomputable abbrev WC.con :V.Con:=⟨(.cons (.sl (.cons (.int .u8) .nil)) .nil),V.eRHeadKeysIntInt,fun(x:List Int)=>WC x,[],[(false,1)],[(true,16),(true,2),(false,1),(false,1)],[false,false,false,false,false,false,false,false,false,false,false,false,false,false,false,false,true,false,false,false],[]⟩
noncomputable abbrev WC.E :V.Env:=V.mkE V.tys [(23,Zy.con),(24,Yd.con),(26,Y3.con),(33,XH.con)] [] [(5,4)] [] [(5,[2,3])] [(5,[1])]
theorem WC.eq (x0:List Int):V.evBody WC.E WC.con Tryz.f10 ((x0):List Int)=WC x0:=by kernel_rfl
theorem WC.ok :V.Valid Tryz.prog 10 WC.con:=
 V.fo (V.tab_cons Zy.ok (V.tab_cons Yd.ok (V.tab_cons Y3.ok (V.tab_cons XH.ok V.tab_nil)))) Tryz.func10 (by kernel_rfl) (fun x y h=>(show V.evBody WC.E WC.con Tryz.f10 x=_ from WC.eq x).trans (V.cfl (by kernel_rfl) h))
noncomputable abbrev Wu.con :V.Con:=⟨(.cons (.ptr V.eHead) (.cons (.ptr (.cons (.sl (V.ci .nil)) (V.ci .nil))) .nil)),(.cons (.ptr V.eHead) .nil),fun(x:(Z0)×(Z5))=>Wu x.1 x.2,[(0,true)],[(false,1),(false,1)],[],[],[]⟩
noncomputable abbrev Wu.E :V.Env:=V.mkE V.tys [(35,Xr.con)] [] [] [] [] []
theorem Wu.eq (x0:(Z0))(x1:(Z5)):V.evBody Wu.E Wu.con Tryz.f34 ((x0,x1):(Z0)×(Z5))=Wu x0 x1:=by kernel_rfl
theorem Wu.ok :V.Valid Tryz.prog 34 Wu.con:=
 V.fo (V.tab_cons Xr.ok V.tab_nil) Tryz.func34 (by kernel_rfl) (fun x y h=>(show V.evBody Wu.E Wu.con Tryz.f34 x=_ from Wu.eq x.1 x.2).trans (V.cfl (by kernel_rfl) h))
noncomputable abbrev ZT.con :V.Con:=⟨(V.ci (V.ci (V.ci (V.ci (V.ci (V.ci (V.ci (V.ci (.cons (.sl (V.ci .nil)) (V.ci (.cons (.sl (V.ci .nil)) (V.ci (V.ci (.cons (.sl (V.ci .nil)) (V.ci (.cons .bool (V.ci (V.ci (V.ci (.cons (.fn 34 false .nil (.cons (.ptr (.cons (.sl (V.ci .nil)) (V.ci .nil))) .nil)) .nil)))))))))))))))))))),V.eRHeadBool,fun(x:Int×Int×Int×Int×Int×Int×Int×Int×List Int×Int×List Int×Int×Int×List Int×Int×Bool×Int×Int×Int×(Unit)×((Z5)))=>ZT (x.1,x.2.1,x.2.2.1,x.2.2.2.1,x.2.2.2.2.1,x.2.2.2.2.2.1,x.2.2.2.2.2.2.1,x.2.2.2.2.2.2.2.1,x.2.2.2.2.2.2.2.2.1,x.2.2.2.2.2.2.2.2.2.1,x.2.2.2.2.2.2.2.2.2.2.1,x.2.2.2.2.2.2.2.2.2.2.2.1,x.2.2.2.2.2.2.2.2.2.2.2.2.1,x.2.2.2.2.2.2.2.2.2.2.2.2.2.1,x.2.2.2.2.2.2.2.2.2.2.2.2.2.2.1,x.2.2.2.2.2.2.2.2.2.2.2.2.2.2.2.1) x.2.2.2.2.2.2.2.2.2.2.2.2.2.2.2.2.1 x.2.2.2.2.2.2.2.2.2.2.2.2.2.2.2.2.2.1 x.2.2.2.2.2.2.2.2.2.2.2.2.2.2.2.2.2.2.1 x.2.2.2.2.2.2.2.2.2.2.2.2.2.2.2.2.2.2.2,[],[(true,16),(false,1),(false,1),(false,1),(false,1)],[(true,16),(false,1)],[false,false,false,false,false,false,false,false,true,false,true,false,false,true,false,false,false],[]⟩
noncomputable abbrev ZT.E :V.Env:=V.mkE V.tys [(34,Wu.con),(60,ZX.con),(61,ZZ.con),(62,Yr.con),(63,Y0.con),(64,YM.con)] [(5,[1,2,3,4,5,10,27],[]),(17,[10,12,57],[])] [(4,10)] [] [(4,[3,4])] []
noncomputable abbrev ZT.kt (x0:Z0)(x1:Int)(x2:Int)(x3:Int)(x4:(Unit)×((Z5))):V.Kt Z7:=V.ktOf ZT.E ZT.con Tryz.f28 ((x0.1,x0.2.1,x0.2.2.1,x0.2.2.2.1,x0.2.2.2.2.1,x0.2.2.2.2.2.1,x0.2.2.2.2.2.2.1,x0.2.2.2.2.2.2.2.1,x0.2.2.2.2.2.2.2.2.1,x0.2.2.2.2.2.2.2.2.2.1,x0.2.2.2.2.2.2.2.2.2.2.1,x0.2.2.2.2.2.2.2.2.2.2.2.1,x0.2.2.2.2.2.2.2.2.2.2.2.2.1,x0.2.2.2.2.2.2.2.2.2.2.2.2.2.1,x0.2.2.2.2.2.2.2.2.2.2.2.2.2.2.1,x0.2.2.2.2.2.2.2.2.2.2.2.2.2.2.2,x1,x2,x3,x4):Int×Int×Int×Int×Int×Int×Int×Int×List Int×Int×List Int×Int×Int×List Int×Int×Bool×Int×Int×Int×(Unit)×((Z5)))
noncomputable abbrev ZT.s17 (y6:(Z0))(v17_0:Bool):V.St:=⟨[(10, .v false [.ptr 64064 0]),(12, .v false [.ptr 256128 0]),(57, .v false [.val (.bool v17_0)])],[(64064, .box [.vi ((0:Int)), .vi ((0:Int)), .vi ((0:Int)), .vi ((0:Int)), .vi ((0:Int)), .vi ((0:Int)), .vi ((0:Int)), .vi ((0:Int)), .nil0, .vi ((0:Int)), .nil0, .vi ((0:Int)), .vi ((0:Int)), .nil0, .vi ((0:Int)), .val (.bool false)]),(256128, .box [.vi (y6.1), .vi (y6.2.1), .vi (y6.2.2.1), .vi (y6.2.2.2.1), .vi (y6.2.2.2.2.1), .vi (y6.2.2.2.2.2.1), .vi (y6.2.2.2.2.2.2.1), .vi (y6.2.2.2.2.2.2.2.1), .ref 64000000000016392200, .vi (y6.2.2.2.2.2.2.2.2.2.1), .ref 64000000000016392202, .vi (y6.2.2.2.2.2.2.2.2.2.2.2.1), .vi (y6.2.2.2.2.2.2.2.2.2.2.2.2.1), .ref 64000000000016392205, .vi (y6.2.2.2.2.2.2.2.2.2.2.2.2.2.2.1), .val (.bool y6.2.2.2.2.2.2.2.2.2.2.2.2.2.2.2)]),(64000000000016392200, .row (V.ci .nil) true y6.2.2.2.2.2.2.2.2.1),(64000000000016392202, .row (V.ci .nil) true y6.2.2.2.2.2.2.2.2.2.2.1),(64000000000016392205, .row (V.ci .nil) true y6.2.2.2.2.2.2.2.2.2.2.2.2.2.1)]⟩
noncomputable abbrev ZT.s5 (x0:Z0)(x1:Int)(x2:Int)(x3:Int)(x4:(Unit)×((Z5)))(v5_4:Bool):V.St:=⟨[(1, .v false [.vi (x1)]),(2, .v false [.vi (x2)]),(3, .v false [.vi (x3)]),(4, .v false [.val (.fn 34 false .nil (.cons (.ptr (.cons (.sl (V.ci .nil)) (V.ci .nil))) .nil) () x4.2)]),(5, .v false [.ptr 64000 0]),(10, .v false [.ptr 64064 0]),(27, .v false [.val (.bool v5_4)])],[(64000, .box (V.lsHead x0)),(64064, .box [.vi ((0:Int)), .vi ((0:Int)), .vi ((0:Int)), .vi ((0:Int)), .vi ((0:Int)), .vi ((0:Int)), .vi ((0:Int)), .vi ((0:Int)), .nil0, .vi ((0:Int)), .nil0, .vi ((0:Int)), .vi ((0:Int)), .nil0, .vi ((0:Int)), .val (.bool false)])]⟩
theorem ZT.r17 (x0:Z0)(x1:Int)(x2:Int)(x3:Int)(x4:(Unit)×((Z5)))(y6:(Z0))(v17_0:Bool):V.joinF ZT.E Tryz.f28.ntmps [1,1,1,1,1,1,0] [] (V.codeOf Tryz.f28) (ZT.kt x0 x1 x2 x3 x4) (ZT.s17 y6 v17_0)=ZT.g17 y6 v17_0:=by kernel_rfl
theorem ZT.e17 (x0:Z0)(x1:Int)(x2:Int)(x3:Int)(x4:(Unit)×((Z5)))(y6:(Z0))(v17_0:Bool):V.jn (V.joinF ZT.E Tryz.f28.ntmps [1,1,1,1,1,1,0] [] (V.codeOf Tryz.f28) (ZT.kt x0 x1 x2 x3 x4)) (ZT.s17 y6 v17_0)=ZT.l17 y6 v17_0:=by
 rw[V.jn_eq,ZT.r17]
 rfl
theorem ZT.r5 (x0:Z0)(x1:Int)(x2:Int)(x3:Int)(x4:(Unit)×((Z5)))(v5_4:Bool):V.joinF ZT.E Tryz.f28.ntmps [1,0] [] (V.codeOf Tryz.f28) (ZT.kt x0 x1 x2 x3 x4) (ZT.s5 x0 x1 x2 x3 x4 v5_4)=ZT.g5 x0 x1 x2 x3 x4 (fun y6 v17_0=>V.jn (V.joinF ZT.E Tryz.f28.ntmps [1,1,1,1,1,1,0] [] (V.codeOf Tryz.f28) (ZT.kt x0 x1 x2 x3 x4)) (ZT.s17 y6 v17_0)) v5_4:=by kernel_rfl
theorem ZT.e5 (x0:Z0)(x1:Int)(x2:Int)(x3:Int)(x4:(Unit)×((Z5)))(v5_4:Bool):V.jn (V.joinF ZT.E Tryz.f28.ntmps [1,0] [] (V.codeOf Tryz.f28) (ZT.kt x0 x1 x2 x3 x4)) (ZT.s5 x0 x1 x2 x3 x4 v5_4)=ZT.l5 x0 x1 x2 x3 x4 v5_4:=by
 rw[V.jn_eq,ZT.r5]
 simp only[ZT.e17]
 rfl
theorem ZT.v (x0:Z0)(x1:Int)(x2:Int)(x3:Int)(x4:(Unit)×((Z5))):V.evBody ZT.E ZT.con Tryz.f28 ((x0.1,x0.2.1,x0.2.2.1,x0.2.2.2.1,x0.2.2.2.2.1,x0.2.2.2.2.2.1,x0.2.2.2.2.2.2.1,x0.2.2.2.2.2.2.2.1,x0.2.2.2.2.2.2.2.2.1,x0.2.2.2.2.2.2.2.2.2.1,x0.2.2.2.2.2.2.2.2.2.2.1,x0.2.2.2.2.2.2.2.2.2.2.2.1,x0.2.2.2.2.2.2.2.2.2.2.2.2.1,x0.2.2.2.2.2.2.2.2.2.2.2.2.2.1,x0.2.2.2.2.2.2.2.2.2.2.2.2.2.2.1,x0.2.2.2.2.2.2.2.2.2.2.2.2.2.2.2,x1,x2,x3,x4):Int×Int×Int×Int×Int×Int×Int×Int×List Int×Int×List Int×Int×Int×List Int×Int×Bool×Int×Int×Int×(Unit)×((Z5)))=ZT.b x0 x1 x2 x3 x4 (fun v5_4=>V.jn (V.joinF ZT.E Tryz.f28.ntmps [1,0] [] (V.codeOf Tryz.f28) (ZT.kt x0 x1 x2 x3 x4)) (ZT.s5 x0 x1 x2 x3 x4 v5_4)):=by kernel_rfl
theorem ZT.eq (x0:Z0)(x1:Int)(x2:Int)(x3:Int)(x4:(Unit)×((Z5))):V.evBody ZT.E ZT.con Tryz.f28 ((x0.1,x0.2.1,x0.2.2.1,x0.2.2.2.1,x0.2.2.2.2.1,x0.2.2.2.2.2.1,x0.2.2.2.2.2.2.1,x0.2.2.2.2.2.2.2.1,x0.2.2.2.2.2.2.2.2.1,x0.2.2.2.2.2.2.2.2.2.1,x0.2.2.2.2.2.2.2.2.2.2.1,x0.2.2.2.2.2.2.2.2.2.2.2.1,x0.2.2.2.2.2.2.2.2.2.2.2.2.1,x0.2.2.2.2.2.2.2.2.2.2.2.2.2.1,x0.2.2.2.2.2.2.2.2.2.2.2.2.2.2.1,x0.2.2.2.2.2.2.2.2.2.2.2.2.2.2.2,x1,x2,x3,x4):Int×Int×Int×Int×Int×Int×Int×Int×List Int×Int×List Int×Int×Int×List Int×Int×Bool×Int×Int×Int×(Unit)×((Z5)))=ZT x0 x1 x2 x3 x4:=by
 rw[ZT.v]
 simp only[ZT.e5]
 rfl
theorem ZT.ok :V.Valid Tryz.prog 28 ZT.con:=
 V.fo (V.tab_cons Wu.ok (V.tab_cons ZX.ok (V.tab_cons ZZ.ok (V.tab_cons Yr.ok (V.tab_cons Y0.ok (V.tab_cons YM.ok V.tab_nil)))))) Tryz.func28 (by kernel_rfl) (fun x y h=>(show V.evBody ZT.E ZT.con Tryz.f28 x=_ from ZT.eq (x.1,x.2.1,x.2.2.1,x.2.2.2.1,x.2.2.2.2.1,x.2.2.2.2.2.1,x.2.2.2.2.2.2.1,x.2.2.2.2.2.2.2.1,x.2.2.2.2.2.2.2.2.1,x.2.2.2.2.2.2.2.2.2.1,x.2.2.2.2.2.2.2.2.2.2.1,x.2.2.2.2.2.2.2.2.2.2.2.1,x.2.2.2.2.2.2.2.2.2.2.2.2.1,x.2.2.2.2.2.2.2.2.2.2.2.2.2.1,x.2.2.2.2.2.2.2.2.2.2.2.2.2.2.1,x.2.2.2.2.2.2.2.2.2.2.2.2.2.2.2.1) x.2.2.2.2.2.2.2.2.2.2.2.2.2.2.2.2.1 x.2.2.2.2.2.2.2.2.2.2.2.2.2.2.2.2.2.1 x.2.2.2.2.2.2.2.2.2.2.2.2.2.2.2.2.2.2.1 x.2.2.2.2.2.2.2.2.2.2.2.2.2.2.2.2.2.2.2).trans (V.cfl (by kernel_rfl) h))
noncomputable abbrev Xh.con :V.Con:=⟨V.A10,V.eRHeadBool,fun(x:V.D10)=>Xh (V.p10_0 x) (V.p10_1 x) (V.p10_2 x) (V.p10_3 x),[],[(true,16),(true,2),(false,1),(false,1)],[(true,16),(false,1)],[false,false,false,false,false,false,false,false,true,false,true,false,false,true,false,false,false],[]⟩
noncomputable abbrev Xh.E :V.Env:=V.mkE V.tys [(28,ZT.con)] [] [] [] [] []
noncomputable abbrev Xh.kt (x0:Z0)(x1:Z5)(x2:Int)(x3:Int):V.Kt Z7:=V.ktOf Xh.E Xh.con Tryz.f11 (V.fl10 x0 x1 x2 x3)
noncomputable abbrev Xh.s (x0:Z0)(x1:Z5)(x2:Int)(x3:Int):V.St:=⟨[(0, .v true (V.lsHead x0)),(1, .v true [.val (.sl (V.ci .nil) x1.1), .vi (x1.2)]),(2, .v false [.vi (x2)]),(3, .v false [.vi (x3)])],[]⟩
theorem Xh.v0 (x0:Z0)(x1:Z5)(x2:Int)(x3:Int):V.evBody Xh.E Xh.con Tryz.f11 (V.fl10 x0 x1 x2 x3)=V.evC Xh.E Tryz.f11.ntmps (V.codeOf Tryz.f11) (Xh.kt x0 x1 x2 x3) (Xh.s x0 x1 x2 x3):=by kernel_rfl
theorem Xh.v (x0:Z0)(x1:Z5)(x2:Int)(x3:Int):V.evC Xh.E Tryz.f11.ntmps (V.codeOf Tryz.f11) (Xh.kt x0 x1 x2 x3) (Xh.s x0 x1 x2 x3)=Xh x0 x1 x2 x3:=by kernel_rfl
theorem Xh.eq (x0:Z0)(x1:Z5)(x2:Int)(x3:Int):V.evBody Xh.E Xh.con Tryz.f11 (V.fl10 x0 x1 x2 x3)=Xh x0 x1 x2 x3:=(Xh.v0 x0 x1 x2 x3).trans (Xh.v x0 x1 x2 x3)
theorem Xh.ok :V.Valid Tryz.prog 11 Xh.con:=
 V.fo (V.tab_cons ZT.ok V.tab_nil) Tryz.func11 (by kernel_rfl) (fun x y h=>(show V.evBody Xh.E Xh.con Tryz.f11 x=_ from Xh.eq (V.p10_0 x) (V.p10_1 x) (V.p10_2 x) (V.p10_3 x)).trans (V.cfl (by kernel_rfl) h))
noncomputable abbrev Wc.con :V.Con:=⟨(.cons (.ptr V.eHead) (.cons (.ptr V.eHead) (.cons (.ptr (.cons (.sl (V.ci .nil)) (V.ci .nil))) .nil))),(.cons (.ptr V.eHead) .nil),fun(x:(Z0)×(Z0)×(Z5))=>Wc x.1 x.2.1 x.2.2,[(0,true)],[(false,1),(false,1),(false,1)],[],[],[]⟩
noncomputable abbrev Wc.E :V.Env:=V.mkE V.tys [(35,Xr.con)] [] [] [] [] []
theorem Wc.eq (x0:(Z0))(x1:(Z0))(x2:(Z5)):V.evBody Wc.E Wc.con Tryz.f38 ((x0,x1,x2):(Z0)×(Z0)×(Z5))=Wc x0 x1 x2:=by kernel_rfl
theorem Wc.ok :V.Valid Tryz.prog 38 Wc.con:=
 V.fo (V.tab_cons Xr.ok V.tab_nil) Tryz.func38 (by kernel_rfl) (fun x y h=>(show V.evBody Wc.E Wc.con Tryz.f38 x=_ from Wc.eq x.1 x.2.1 x.2.2).trans (V.cfl (by kernel_rfl) h))
noncomputable abbrev ZR.con :V.Con:=⟨(V.ci (V.ci (V.ci (V.ci (V.ci (V.ci (V.ci (V.ci (.cons (.sl (V.ci .nil)) (V.ci (.cons (.sl (V.ci .nil)) (V.ci (V.ci (.cons (.sl (V.ci .nil)) (V.ci (.cons .bool (V.ci (V.ci (V.ci (.cons (.fn 38 false .nil (.cons (.ptr V.eHead) (.cons (.ptr (.cons (.sl (V.ci .nil)) (V.ci .nil))) .nil))) .nil)))))))))))))))))))),V.eRHeadBool,fun(x:Int×Int×Int×Int×Int×Int×Int×Int×List Int×Int×List Int×Int×Int×List Int×Int×Bool×Int×Int×Int×(Unit)×((Z0)×(Z5)))=>ZR (x.1,x.2.1,x.2.2.1,x.2.2.2.1,x.2.2.2.2.1,x.2.2.2.2.2.1,x.2.2.2.2.2.2.1,x.2.2.2.2.2.2.2.1,x.2.2.2.2.2.2.2.2.1,x.2.2.2.2.2.2.2.2.2.1,x.2.2.2.2.2.2.2.2.2.2.1,x.2.2.2.2.2.2.2.2.2.2.2.1,x.2.2.2.2.2.2.2.2.2.2.2.2.1,x.2.2.2.2.2.2.2.2.2.2.2.2.2.1,x.2.2.2.2.2.2.2.2.2.2.2.2.2.2.1,x.2.2.2.2.2.2.2.2.2.2.2.2.2.2.2.1) x.2.2.2.2.2.2.2.2.2.2.2.2.2.2.2.2.1 x.2.2.2.2.2.2.2.2.2.2.2.2.2.2.2.2.2.1 x.2.2.2.2.2.2.2.2.2.2.2.2.2.2.2.2.2.2.1 x.2.2.2.2.2.2.2.2.2.2.2.2.2.2.2.2.2.2.2,[],[(true,16),(false,1),(false,1),(false,1),(false,1)],[(true,16),(false,1)],[false,false,false,false,false,false,false,false,true,false,true,false,false,true,false,false,false],[]⟩
noncomputable abbrev ZR.E :V.Env:=V.mkE V.tys [(38,Wc.con),(60,ZX.con),(61,ZZ.con),(62,Yr.con),(63,Y0.con),(64,YM.con)] [(5,[1,2,3,4,5,10,27],[]),(17,[10,12,57],[])] [(4,10)] [] [(4,[3,4])] []
noncomputable abbrev ZR.kt (x0:Z0)(x1:Int)(x2:Int)(x3:Int)(x4:(Unit)×((Z0)×(Z5))):V.Kt Z7:=V.ktOf ZR.E ZR.con Tryz.f28 ((x0.1,x0.2.1,x0.2.2.1,x0.2.2.2.1,x0.2.2.2.2.1,x0.2.2.2.2.2.1,x0.2.2.2.2.2.2.1,x0.2.2.2.2.2.2.2.1,x0.2.2.2.2.2.2.2.2.1,x0.2.2.2.2.2.2.2.2.2.1,x0.2.2.2.2.2.2.2.2.2.2.1,x0.2.2.2.2.2.2.2.2.2.2.2.1,x0.2.2.2.2.2.2.2.2.2.2.2.2.1,x0.2.2.2.2.2.2.2.2.2.2.2.2.2.1,x0.2.2.2.2.2.2.2.2.2.2.2.2.2.2.1,x0.2.2.2.2.2.2.2.2.2.2.2.2.2.2.2,x1,x2,x3,x4):Int×Int×Int×Int×Int×Int×Int×Int×List Int×Int×List Int×Int×Int×List Int×Int×Bool×Int×Int×Int×(Unit)×((Z0)×(Z5)))
noncomputable abbrev ZR.s17 (y6:(Z0))(v17_0:Bool):V.St:=⟨[(10, .v false [.ptr 64064 0]),(12, .v false [.ptr 256128 0]),(57, .v false [.val (.bool v17_0)])],[(64064, .box [.vi ((0:Int)), .vi ((0:Int)), .vi ((0:Int)), .vi ((0:Int)), .vi ((0:Int)), .vi ((0:Int)), .vi ((0:Int)), .vi ((0:Int)), .nil0, .vi ((0:Int)), .nil0, .vi ((0:Int)), .vi ((0:Int)), .nil0, .vi ((0:Int)), .val (.bool false)]),(256128, .box [.vi (y6.1), .vi (y6.2.1), .vi (y6.2.2.1), .vi (y6.2.2.2.1), .vi (y6.2.2.2.2.1), .vi (y6.2.2.2.2.2.1), .vi (y6.2.2.2.2.2.2.1), .vi (y6.2.2.2.2.2.2.2.1), .ref 64000000000016392200, .vi (y6.2.2.2.2.2.2.2.2.2.1), .ref 64000000000016392202, .vi (y6.2.2.2.2.2.2.2.2.2.2.2.1), .vi (y6.2.2.2.2.2.2.2.2.2.2.2.2.1), .ref 64000000000016392205, .vi (y6.2.2.2.2.2.2.2.2.2.2.2.2.2.2.1), .val (.bool y6.2.2.2.2.2.2.2.2.2.2.2.2.2.2.2)]),(64000000000016392200, .row (V.ci .nil) true y6.2.2.2.2.2.2.2.2.1),(64000000000016392202, .row (V.ci .nil) true y6.2.2.2.2.2.2.2.2.2.2.1),(64000000000016392205, .row (V.ci .nil) true y6.2.2.2.2.2.2.2.2.2.2.2.2.2.1)]⟩
noncomputable abbrev ZR.s5 (x0:Z0)(x1:Int)(x2:Int)(x3:Int)(x4:(Unit)×((Z0)×(Z5)))(v5_4:Bool):V.St:=⟨[(1, .v false [.vi (x1)]),(2, .v false [.vi (x2)]),(3, .v false [.vi (x3)]),(4, .v false [.val (.fn 38 false .nil (.cons (.ptr V.eHead) (.cons (.ptr (.cons (.sl (V.ci .nil)) (V.ci .nil))) .nil)) () x4.2)]),(5, .v false [.ptr 64000 0]),(10, .v false [.ptr 64064 0]),(27, .v false [.val (.bool v5_4)])],[(64000, .box (V.lsHead x0)),(64064, .box [.vi ((0:Int)), .vi ((0:Int)), .vi ((0:Int)), .vi ((0:Int)), .vi ((0:Int)), .vi ((0:Int)), .vi ((0:Int)), .vi ((0:Int)), .nil0, .vi ((0:Int)), .nil0, .vi ((0:Int)), .vi ((0:Int)), .nil0, .vi ((0:Int)), .val (.bool false)])]⟩
theorem ZR.r17 (x0:Z0)(x1:Int)(x2:Int)(x3:Int)(x4:(Unit)×((Z0)×(Z5)))(y6:(Z0))(v17_0:Bool):V.joinF ZR.E Tryz.f28.ntmps [1,1,1,1,1,1,0] [] (V.codeOf Tryz.f28) (ZR.kt x0 x1 x2 x3 x4) (ZR.s17 y6 v17_0)=ZR.g17 y6 v17_0:=by kernel_rfl
theorem ZR.e17 (x0:Z0)(x1:Int)(x2:Int)(x3:Int)(x4:(Unit)×((Z0)×(Z5)))(y6:(Z0))(v17_0:Bool):V.jn (V.joinF ZR.E Tryz.f28.ntmps [1,1,1,1,1,1,0] [] (V.codeOf Tryz.f28) (ZR.kt x0 x1 x2 x3 x4)) (ZR.s17 y6 v17_0)=ZR.l17 y6 v17_0:=by
 rw[V.jn_eq,ZR.r17]
 rfl
theorem ZR.r5 (x0:Z0)(x1:Int)(x2:Int)(x3:Int)(x4:(Unit)×((Z0)×(Z5)))(v5_4:Bool):V.joinF ZR.E Tryz.f28.ntmps [1,0] [] (V.codeOf Tryz.f28) (ZR.kt x0 x1 x2 x3 x4) (ZR.s5 x0 x1 x2 x3 x4 v5_4)=ZR.g5 x0 x1 x2 x3 x4 (fun y6 v17_0=>V.jn (V.joinF ZR.E Tryz.f28.ntmps [1,1,1,1,1,1,0] [] (V.codeOf Tryz.f28) (ZR.kt x0 x1 x2 x3 x4)) (ZR.s17 y6 v17_0)) v5_4:=by kernel_rfl
theorem ZR.e5 (x0:Z0)(x1:Int)(x2:Int)(x3:Int)(x4:(Unit)×((Z0)×(Z5)))(v5_4:Bool):V.jn (V.joinF ZR.E Tryz.f28.ntmps [1,0] [] (V.codeOf Tryz.f28) (ZR.kt x0 x1 x2 x3 x4)) (ZR.s5 x0 x1 x2 x3 x4 v5_4)=ZR.l5 x0 x1 x2 x3 x4 v5_4:=by
 rw[V.jn_eq,ZR.r5]
 simp only[ZR.e17]
 rfl
theorem ZR.v (x0:Z0)(x1:Int)(x2:Int)(x3:Int)(x4:(Unit)×((Z0)×(Z5))):V.evBody ZR.E ZR.con Tryz.f28 ((x0.1,x0.2.1,x0.2.2.1,x0.2.2.2.1,x0.2.2.2.2.1,x0.2.2.2.2.2.1,x0.2.2.2.2.2.2.1,x0.2.2.2.2.2.2.2.1,x0.2.2.2.2.2.2.2.2.1,x0.2.2.2.2.2.2.2.2.2.1,x0.2.2.2.2.2.2.2.2.2.2.1,x0.2.2.2.2.2.2.2.2.2.2.2.1,x0.2.2.2.2.2.2.2.2.2.2.2.2.1,x0.2.2.2.2.2.2.2.2.2.2.2.2.2.1,x0.2.2.2.2.2.2.2.2.2.2.2.2.2.2.1,x0.2.2.2.2.2.2.2.2.2.2.2.2.2.2.2,x1,x2,x3,x4):Int×Int×Int×Int×Int×Int×Int×Int×List Int×Int×List Int×Int×Int×List Int×Int×Bool×Int×Int×Int×(Unit)×((Z0)×(Z5)))=ZR.b x0 x1 x2 x3 x4 (fun v5_4=>V.jn (V.joinF ZR.E Tryz.f28.ntmps [1,0] [] (V.codeOf Tryz.f28) (ZR.kt x0 x1 x2 x3 x4)) (ZR.s5 x0 x1 x2 x3 x4 v5_4)):=by kernel_rfl
theorem ZR.eq (x0:Z0)(x1:Int)(x2:Int)(x3:Int)(x4:(Unit)×((Z0)×(Z5))):V.evBody ZR.E ZR.con Tryz.f28 ((x0.1,x0.2.1,x0.2.2.1,x0.2.2.2.1,x0.2.2.2.2.1,x0.2.2.2.2.2.1,x0.2.2.2.2.2.2.1,x0.2.2.2.2.2.2.2.1,x0.2.2.2.2.2.2.2.2.1,x0.2.2.2.2.2.2.2.2.2.1,x0.2.2.2.2.2.2.2.2.2.2.1,x0.2.2.2.2.2.2.2.2.2.2.2.1,x0.2.2.2.2.2.2.2.2.2.2.2.2.1,x0.2.2.2.2.2.2.2.2.2.2.2.2.2.1,x0.2.2.2.2.2.2.2.2.2.2.2.2.2.2.1,x0.2.2.2.2.2.2.2.2.2.2.2.2.2.2.2,x1,x2,x3,x4):Int×Int×Int×Int×Int×Int×Int×Int×List Int×Int×List Int×Int×Int×List Int×Int×Bool×Int×Int×Int×(Unit)×((Z0)×(Z5)))=ZR x0 x1 x2 x3 x4:=by
 rw[ZR.v]
 simp only[ZR.e5]
 rfl
theorem ZR.ok :V.Valid Tryz.prog 28 ZR.con:=
 V.fo (V.tab_cons Wc.ok (V.tab_cons ZX.ok (V.tab_cons ZZ.ok (V.tab_cons Yr.ok (V.tab_cons Y0.ok (V.tab_cons YM.ok V.tab_nil)))))) Tryz.func28 (by kernel_rfl) (fun x y h=>(show V.evBody ZR.E ZR.con Tryz.f28 x=_ from ZR.eq (x.1,x.2.1,x.2.2.1,x.2.2.2.1,x.2.2.2.2.1,x.2.2.2.2.2.1,x.2.2.2.2.2.2.1,x.2.2.2.2.2.2.2.1,x.2.2.2.2.2.2.2.2.1,x.2.2.2.2.2.2.2.2.2.1,x.2.2.2.2.2.2.2.2.2.2.1,x.2.2.2.2.2.2.2.2.2.2.2.1,x.2.2.2.2.2.2.2.2.2.2.2.2.1,x.2.2.2.2.2.2.2.2.2.2.2.2.2.1,x.2.2.2.2.2.2.2.2.2.2.2.2.2.2.1,x.2.2.2.2.2.2.2.2.2.2.2.2.2.2.2.1) x.2.2.2.2.2.2.2.2.2.2.2.2.2.2.2.2.1 x.2.2.2.2.2.2.2.2.2.2.2.2.2.2.2.2.2.1 x.2.2.2.2.2.2.2.2.2.2.2.2.2.2.2.2.2.2.1 x.2.2.2.2.2.2.2.2.2.2.2.2.2.2.2.2.2.2.2).trans (V.cfl (by kernel_rfl) h))
noncomputable abbrev Xf.con :V.Con:=⟨V.A10,V.eRHeadBool,fun(x:V.D10)=>Xf (V.p10_0 x) (V.p10_1 x) (V.p10_2 x) (V.p10_3 x),[],[(true,16),(true,2),(false,1),(false,1)],[(true,16),(false,1)],[false,false,false,false,false,false,false,false,true,false,true,false,false,true,false,false,false],[]⟩
noncomputable abbrev Xf.E :V.Env:=V.mkE V.tys [(28,ZR.con),(37,Xa.con)] [] [] [] [] []
noncomputable abbrev Xf.kt (x0:Z0)(x1:Z5)(x2:Int)(x3:Int):V.Kt Z7:=V.ktOf Xf.E Xf.con Tryz.f13 (V.fl10 x0 x1 x2 x3)
noncomputable abbrev Xf.s (x0:Z0)(x1:Z5)(x2:Int)(x3:Int):V.St:=⟨[(0, .v true (V.lsHead x0)),(1, .v true [.val (.sl (V.ci .nil) x1.1), .vi (x1.2)]),(2, .v false [.vi (x2)]),(3, .v false [.vi (x3)])],[]⟩
theorem Xf.v0 (x0:Z0)(x1:Z5)(x2:Int)(x3:Int):V.evBody Xf.E Xf.con Tryz.f13 (V.fl10 x0 x1 x2 x3)=V.evC Xf.E Tryz.f13.ntmps (V.codeOf Tryz.f13) (Xf.kt x0 x1 x2 x3) (Xf.s x0 x1 x2 x3):=by kernel_rfl
theorem Xf.v (x0:Z0)(x1:Z5)(x2:Int)(x3:Int):V.evC Xf.E Tryz.f13.ntmps (V.codeOf Tryz.f13) (Xf.kt x0 x1 x2 x3) (Xf.s x0 x1 x2 x3)=Xf x0 x1 x2 x3:=by kernel_rfl
theorem Xf.eq (x0:Z0)(x1:Z5)(x2:Int)(x3:Int):V.evBody Xf.E Xf.con Tryz.f13 (V.fl10 x0 x1 x2 x3)=Xf x0 x1 x2 x3:=(Xf.v0 x0 x1 x2 x3).trans (Xf.v x0 x1 x2 x3)
theorem Xf.ok :V.Valid Tryz.prog 13 Xf.con:=
 V.fo (V.tab_cons ZR.ok (V.tab_cons Xa.ok V.tab_nil)) Tryz.func13 (by kernel_rfl) (fun x y h=>(show V.evBody Xf.E Xf.con Tryz.f13 x=_ from Xf.eq (V.p10_0 x) (V.p10_1 x) (V.p10_2 x) (V.p10_3 x)).trans (V.cfl (by kernel_rfl) h))
noncomputable abbrev Zv.con :V.Con:=⟨(.cons (.sl (.cons (.int .u8) .nil)) .nil),V.eRHeadIntInt,fun(x:List Int)=>Zv x,[],[(false,1)],[(true,16),(false,1),(false,1)],[false,false,false,false,false,false,false,false,false,false,false,false,false,false,false,false,false,false],[]⟩
noncomputable abbrev Zv.E :V.Env:=V.mkE V.tys [(23,Zy.con),(24,Yd.con),(39,Zm.con),(40,Z8.con)] [(7,[2,5,6],[])] [] [] [] [(3,[1000])]
noncomputable abbrev Zv.kt (x0:List Int):V.Kt Z9:=V.ktOf Zv.E Zv.con Tryz.f14 ((x0):List Int)
noncomputable abbrev Zv.s7 (y1:(Z3))(y2:(Z3)×Int×Int×Int×Int×Int×Int×Int×Int×List Int×Int×List Int×Int×Int×List Int×Int×Bool):V.St:=⟨[(2, .v false [.ptr 64000 0]),(5, .v false [.ptr 128064 0]),(6, .v false [.ptr 192128 0])],[(64000, .box [.vi ((0:Int)), .vi ((0:Int)), .vi ((0:Int)), .vi ((0:Int)), .vi ((0:Int)), .vi ((0:Int)), .vi ((0:Int)), .vi ((0:Int)), .nil0, .vi ((0:Int)), .nil0, .vi ((0:Int)), .vi ((0:Int)), .nil0, .vi ((0:Int)), .val (.bool false)]),(128064, .box [.val (.sl (.cons (.int .u8) .nil) y1.1), .vi (y2.1.2.1), .vi (y2.1.2.2)]),(192128, .box (V.lsHead y2.2))]⟩
theorem Zv.r7_0 (x0:List Int)(y1:(Z3))(y2:(Z3)×Int×Int×Int×Int×Int×Int×Int×Int×List Int×Int×List Int×Int×Int×List Int×Int×Bool):V.joinN Zv.E Tryz.f14.ntmps 0 [1,1] [] (V.codeOf Tryz.f14) (Zv.kt x0) (Zv.s7 y1 y2)=Zv.h7_0 y1 y2:=by kernel_rfl
theorem Zv.r7_1 (x0:List Int)(y1:(Z3))(y2:(Z3)×Int×Int×Int×Int×Int×Int×Int×Int×List Int×Int×List Int×Int×Int×List Int×Int×Bool):V.joinN Zv.E Tryz.f14.ntmps 1 [1,1] [] (V.codeOf Tryz.f14) (Zv.kt x0) (Zv.s7 y1 y2)=Zv.h7_1 y1 y2:=by kernel_rfl
theorem Zv.r7_2 (x0:List Int)(y1:(Z3))(y2:(Z3)×Int×Int×Int×Int×Int×Int×Int×Int×List Int×Int×List Int×Int×Int×List Int×Int×Bool):V.joinN Zv.E Tryz.f14.ntmps 2 [1,1] [] (V.codeOf Tryz.f14) (Zv.kt x0) (Zv.s7 y1 y2)=Zv.h7_2 y1 y2:=by kernel_rfl
theorem Zv.r7_3 (x0:List Int)(y1:(Z3))(y2:(Z3)×Int×Int×Int×Int×Int×Int×Int×Int×List Int×Int×List Int×Int×Int×List Int×Int×Bool):V.joinN Zv.E Tryz.f14.ntmps 3 [1,1] [] (V.codeOf Tryz.f14) (Zv.kt x0) (Zv.s7 y1 y2)=Zv.h7_3 y1 y2:=by kernel_rfl
theorem Zv.r7_4 (x0:List Int)(y1:(Z3))(y2:(Z3)×Int×Int×Int×Int×Int×Int×Int×Int×List Int×Int×List Int×Int×Int×List Int×Int×Bool):V.joinN Zv.E Tryz.f14.ntmps 4 [1,1] [] (V.codeOf Tryz.f14) (Zv.kt x0) (Zv.s7 y1 y2)=Zv.h7_4 y1 y2:=by kernel_rfl
theorem Zv.m7 (x0:List Int)(y1:(Z3))(y2:(Z3)×Int×Int×Int×Int×Int×Int×Int×Int×List Int×Int×List Int×Int×Int×List Int×Int×Bool):V.joinM Zv.E Tryz.f14.ntmps [1,1] [] (V.codeOf Tryz.f14) (Zv.kt x0) (Zv.s7 y1 y2)=some 5:=by kernel_rfl
theorem Zv.r7 (x0:List Int)(y1:(Z3))(y2:(Z3)×Int×Int×Int×Int×Int×Int×Int×Int×List Int×Int×List Int×Int×Int×List Int×Int×Bool):V.joinF Zv.E Tryz.f14.ntmps [1,1] [] (V.codeOf Tryz.f14) (Zv.kt x0) (Zv.s7 y1 y2)=Zv.g7 y1 y2:=(V.joinF_N (Zv.m7 x0 y1 y2)).trans (V.both_c (Zv.r7_0 x0 y1 y2) (V.both_c (Zv.r7_1 x0 y1 y2) (V.both_c (Zv.r7_2 x0 y1 y2) (V.both_c (Zv.r7_3 x0 y1 y2) (Zv.r7_4 x0 y1 y2)))))
theorem Zv.e7 (x0:List Int)(y1:(Z3))(y2:(Z3)×Int×Int×Int×Int×Int×Int×Int×Int×List Int×Int×List Int×Int×Int×List Int×Int×Bool):V.jn (V.joinF Zv.E Tryz.f14.ntmps [1,1] [] (V.codeOf Tryz.f14) (Zv.kt x0)) (Zv.s7 y1 y2)=Zv.l7 y1 y2:=by
 rw[V.jn_eq,Zv.r7]
 rfl
theorem Zv.v (x0:List Int):V.evBody Zv.E Zv.con Tryz.f14 ((x0):List Int)=Zv.b x0 (fun y1 y2=>V.jn (V.joinF Zv.E Tryz.f14.ntmps [1,1] [] (V.codeOf Tryz.f14) (Zv.kt x0)) (Zv.s7 y1 y2)):=by kernel_rfl
theorem Zv.eq (x0:List Int):V.evBody Zv.E Zv.con Tryz.f14 ((x0):List Int)=Zv x0:=by
 rw[Zv.v]
 simp only[Zv.e7]
 rfl
theorem Zv.ok :V.Valid Tryz.prog 14 Zv.con:=
 V.fo (V.tab_cons Zy.ok (V.tab_cons Yd.ok (V.tab_cons Zm.ok (V.tab_cons Z8.ok V.tab_nil)))) Tryz.func14 (by kernel_rfl) (fun x y h=>(show V.evBody Zv.E Zv.con Tryz.f14 x=_ from Zv.eq x).trans (V.cfl (by kernel_rfl) h))
noncomputable abbrev Xc.con :V.Con:=⟨V.A11,(.cons .bool .nil),fun(x:V.D11)=>Xc (V.p11_0 x) (V.p11_1 x),[],[(true,16),(false,1)],[(false,1)],[false],[]⟩
noncomputable abbrev Xc.E :V.Env:=V.mkE V.tys [(37,Xa.con),(60,ZX.con)] [] [] [] [] []
noncomputable abbrev Xc.kt (x0:Z0)(x1:Int):V.Kt Bool:=V.ktOf Xc.E Xc.con Tryz.f41 (V.fl11 x0 x1)
noncomputable abbrev Xc.s (x0:Z0)(x1:Int):V.St:=⟨[(0, .v true (V.lsHead x0)),(1, .v false [.vi (x1)])],[]⟩
theorem Xc.v0 (x0:Z0)(x1:Int):V.evBody Xc.E Xc.con Tryz.f41 (V.fl11 x0 x1)=V.evC Xc.E Tryz.f41.ntmps (V.codeOf Tryz.f41) (Xc.kt x0 x1) (Xc.s x0 x1):=by kernel_rfl
theorem Xc.v (x0:Z0)(x1:Int):V.evC Xc.E Tryz.f41.ntmps (V.codeOf Tryz.f41) (Xc.kt x0 x1) (Xc.s x0 x1)=Xc x0 x1:=by kernel_rfl
theorem Xc.eq (x0:Z0)(x1:Int):V.evBody Xc.E Xc.con Tryz.f41 (V.fl11 x0 x1)=Xc x0 x1:=(Xc.v0 x0 x1).trans (Xc.v x0 x1)
theorem Xc.ok :V.Valid Tryz.prog 41 Xc.con:=
 V.fo (V.tab_cons Xa.ok (V.tab_cons ZX.ok V.tab_nil)) Tryz.func41 (by kernel_rfl) (fun x y h=>(show V.evBody Xc.E Xc.con Tryz.f41 x=_ from Xc.eq (V.p11_0 x) (V.p11_1 x)).trans (V.cfl (by kernel_rfl) h))
noncomputable abbrev Wl.con :V.Con:=⟨(.cons (.ptr V.eHead) (.cons (.ptr V.eHead) .nil)),(.cons (.ptr V.eHead) .nil),fun(x:(Z0)×(Z0))=>Wl x.1 x.2,[(0,true)],[(false,1),(false,1)],[],[],[]⟩
noncomputable abbrev Wl.E :V.Env:=V.mkE V.tys [(35,Xr.con)] [] [] [] [] []
theorem Wl.eq (x0:(Z0))(x1:(Z0)):V.evBody Wl.E Wl.con Tryz.f42 ((x0,x1):(Z0)×(Z0))=Wl x0 x1:=by kernel_rfl
theorem Wl.ok :V.Valid Tryz.prog 42 Wl.con:=
 V.fo (V.tab_cons Xr.ok V.tab_nil) Tryz.func42 (by kernel_rfl) (fun x y h=>(show V.evBody Wl.E Wl.con Tryz.f42 x=_ from Wl.eq x.1 x.2).trans (V.cfl (by kernel_rfl) h))
noncomputable abbrev ZJ.con :V.Con:=⟨(V.ci (V.ci (V.ci (V.ci (V.ci (V.ci (V.ci (V.ci (.cons (.sl (V.ci .nil)) (V.ci (.cons (.sl (V.ci .nil)) (V.ci (V.ci (.cons (.sl (V.ci .nil)) (V.ci (.cons .bool (V.ci (V.ci (V.ci (.cons (.fn 42 false .nil (.cons (.ptr V.eHead) .nil)) .nil)))))))))))))))))))),V.eRHeadBool,fun(x:Int×Int×Int×Int×Int×Int×Int×Int×List Int×Int×List Int×Int×Int×List Int×Int×Bool×Int×Int×Int×(Unit)×((Z0)))=>ZJ (x.1,x.2.1,x.2.2.1,x.2.2.2.1,x.2.2.2.2.1,x.2.2.2.2.2.1,x.2.2.2.2.2.2.1,x.2.2.2.2.2.2.2.1,x.2.2.2.2.2.2.2.2.1,x.2.2.2.2.2.2.2.2.2.1,x.2.2.2.2.2.2.2.2.2.2.1,x.2.2.2.2.2.2.2.2.2.2.2.1,x.2.2.2.2.2.2.2.2.2.2.2.2.1,x.2.2.2.2.2.2.2.2.2.2.2.2.2.1,x.2.2.2.2.2.2.2.2.2.2.2.2.2.2.1,x.2.2.2.2.2.2.2.2.2.2.2.2.2.2.2.1) x.2.2.2.2.2.2.2.2.2.2.2.2.2.2.2.2.1 x.2.2.2.2.2.2.2.2.2.2.2.2.2.2.2.2.2.1 x.2.2.2.2.2.2.2.2.2.2.2.2.2.2.2.2.2.2.1 x.2.2.2.2.2.2.2.2.2.2.2.2.2.2.2.2.2.2.2,[],[(true,16),(false,1),(false,1),(false,1),(false,1)],[(true,16),(false,1)],[false,false,false,false,false,false,false,false,true,false,true,false,false,true,false,false,false],[]⟩
noncomputable abbrev ZJ.E :V.Env:=V.mkE V.tys [(42,Wl.con),(60,ZX.con),(61,ZZ.con),(62,Yr.con),(63,Y0.con),(64,YM.con)] [(5,[1,2,3,4,5,10,27],[]),(17,[10,12,57],[])] [(4,10)] [] [(4,[3,4])] []
noncomputable abbrev ZJ.kt (x0:Z0)(x1:Int)(x2:Int)(x3:Int)(x4:(Unit)×((Z0))):V.Kt Z7:=V.ktOf ZJ.E ZJ.con Tryz.f28 ((x0.1,x0.2.1,x0.2.2.1,x0.2.2.2.1,x0.2.2.2.2.1,x0.2.2.2.2.2.1,x0.2.2.2.2.2.2.1,x0.2.2.2.2.2.2.2.1,x0.2.2.2.2.2.2.2.2.1,x0.2.2.2.2.2.2.2.2.2.1,x0.2.2.2.2.2.2.2.2.2.2.1,x0.2.2.2.2.2.2.2.2.2.2.2.1,x0.2.2.2.2.2.2.2.2.2.2.2.2.1,x0.2.2.2.2.2.2.2.2.2.2.2.2.2.1,x0.2.2.2.2.2.2.2.2.2.2.2.2.2.2.1,x0.2.2.2.2.2.2.2.2.2.2.2.2.2.2.2,x1,x2,x3,x4):Int×Int×Int×Int×Int×Int×Int×Int×List Int×Int×List Int×Int×Int×List Int×Int×Bool×Int×Int×Int×(Unit)×((Z0)))
noncomputable abbrev ZJ.s17 (y6:(Z0))(v17_0:Bool):V.St:=⟨[(10, .v false [.ptr 64064 0]),(12, .v false [.ptr 256128 0]),(57, .v false [.val (.bool v17_0)])],[(64064, .box [.vi ((0:Int)), .vi ((0:Int)), .vi ((0:Int)), .vi ((0:Int)), .vi ((0:Int)), .vi ((0:Int)), .vi ((0:Int)), .vi ((0:Int)), .nil0, .vi ((0:Int)), .nil0, .vi ((0:Int)), .vi ((0:Int)), .nil0, .vi ((0:Int)), .val (.bool false)]),(256128, .box [.vi (y6.1), .vi (y6.2.1), .vi (y6.2.2.1), .vi (y6.2.2.2.1), .vi (y6.2.2.2.2.1), .vi (y6.2.2.2.2.2.1), .vi (y6.2.2.2.2.2.2.1), .vi (y6.2.2.2.2.2.2.2.1), .ref 64000000000016392200, .vi (y6.2.2.2.2.2.2.2.2.2.1), .ref 64000000000016392202, .vi (y6.2.2.2.2.2.2.2.2.2.2.2.1), .vi (y6.2.2.2.2.2.2.2.2.2.2.2.2.1), .ref 64000000000016392205, .vi (y6.2.2.2.2.2.2.2.2.2.2.2.2.2.2.1), .val (.bool y6.2.2.2.2.2.2.2.2.2.2.2.2.2.2.2)]),(64000000000016392200, .row (V.ci .nil) true y6.2.2.2.2.2.2.2.2.1),(64000000000016392202, .row (V.ci .nil) true y6.2.2.2.2.2.2.2.2.2.2.1),(64000000000016392205, .row (V.ci .nil) true y6.2.2.2.2.2.2.2.2.2.2.2.2.2.1)]⟩
noncomputable abbrev ZJ.s5 (x0:Z0)(x1:Int)(x2:Int)(x3:Int)(x4:(Unit)×((Z0)))(v5_4:Bool):V.St:=⟨[(1, .v false [.vi (x1)]),(2, .v false [.vi (x2)]),(3, .v false [.vi (x3)]),(4, .v false [.val (.fn 42 false .nil (.cons (.ptr V.eHead) .nil) () x4.2)]),(5, .v false [.ptr 64000 0]),(10, .v false [.ptr 64064 0]),(27, .v false [.val (.bool v5_4)])],[(64000, .box (V.lsHead x0)),(64064, .box [.vi ((0:Int)), .vi ((0:Int)), .vi ((0:Int)), .vi ((0:Int)), .vi ((0:Int)), .vi ((0:Int)), .vi ((0:Int)), .vi ((0:Int)), .nil0, .vi ((0:Int)), .nil0, .vi ((0:Int)), .vi ((0:Int)), .nil0, .vi ((0:Int)), .val (.bool false)])]⟩
theorem ZJ.r17 (x0:Z0)(x1:Int)(x2:Int)(x3:Int)(x4:(Unit)×((Z0)))(y6:(Z0))(v17_0:Bool):V.joinF ZJ.E Tryz.f28.ntmps [1,1,1,1,1,1,0] [] (V.codeOf Tryz.f28) (ZJ.kt x0 x1 x2 x3 x4) (ZJ.s17 y6 v17_0)=ZJ.g17 y6 v17_0:=by kernel_rfl
theorem ZJ.e17 (x0:Z0)(x1:Int)(x2:Int)(x3:Int)(x4:(Unit)×((Z0)))(y6:(Z0))(v17_0:Bool):V.jn (V.joinF ZJ.E Tryz.f28.ntmps [1,1,1,1,1,1,0] [] (V.codeOf Tryz.f28) (ZJ.kt x0 x1 x2 x3 x4)) (ZJ.s17 y6 v17_0)=ZJ.l17 y6 v17_0:=by
 rw[V.jn_eq,ZJ.r17]
 rfl
theorem ZJ.r5 (x0:Z0)(x1:Int)(x2:Int)(x3:Int)(x4:(Unit)×((Z0)))(v5_4:Bool):V.joinF ZJ.E Tryz.f28.ntmps [1,0] [] (V.codeOf Tryz.f28) (ZJ.kt x0 x1 x2 x3 x4) (ZJ.s5 x0 x1 x2 x3 x4 v5_4)=ZJ.g5 x0 x1 x2 x3 x4 (fun y6 v17_0=>V.jn (V.joinF ZJ.E Tryz.f28.ntmps [1,1,1,1,1,1,0] [] (V.codeOf Tryz.f28) (ZJ.kt x0 x1 x2 x3 x4)) (ZJ.s17 y6 v17_0)) v5_4:=by kernel_rfl
theorem ZJ.e5 (x0:Z0)(x1:Int)(x2:Int)(x3:Int)(x4:(Unit)×((Z0)))(v5_4:Bool):V.jn (V.joinF ZJ.E Tryz.f28.ntmps [1,0] [] (V.codeOf Tryz.f28) (ZJ.kt x0 x1 x2 x3 x4)) (ZJ.s5 x0 x1 x2 x3 x4 v5_4)=ZJ.l5 x0 x1 x2 x3 x4 v5_4:=by
 rw[V.jn_eq,ZJ.r5]
 simp only[ZJ.e17]
 rfl
theorem ZJ.v (x0:Z0)(x1:Int)(x2:Int)(x3:Int)(x4:(Unit)×((Z0))):V.evBody ZJ.E ZJ.con Tryz.f28 ((x0.1,x0.2.1,x0.2.2.1,x0.2.2.2.1,x0.2.2.2.2.1,x0.2.2.2.2.2.1,x0.2.2.2.2.2.2.1,x0.2.2.2.2.2.2.2.1,x0.2.2.2.2.2.2.2.2.1,x0.2.2.2.2.2.2.2.2.2.1,x0.2.2.2.2.2.2.2.2.2.2.1,x0.2.2.2.2.2.2.2.2.2.2.2.1,x0.2.2.2.2.2.2.2.2.2.2.2.2.1,x0.2.2.2.2.2.2.2.2.2.2.2.2.2.1,x0.2.2.2.2.2.2.2.2.2.2.2.2.2.2.1,x0.2.2.2.2.2.2.2.2.2.2.2.2.2.2.2,x1,x2,x3,x4):Int×Int×Int×Int×Int×Int×Int×Int×List Int×Int×List Int×Int×Int×List Int×Int×Bool×Int×Int×Int×(Unit)×((Z0)))=ZJ.b x0 x1 x2 x3 x4 (fun v5_4=>V.jn (V.joinF ZJ.E Tryz.f28.ntmps [1,0] [] (V.codeOf Tryz.f28) (ZJ.kt x0 x1 x2 x3 x4)) (ZJ.s5 x0 x1 x2 x3 x4 v5_4)):=by kernel_rfl
theorem ZJ.eq (x0:Z0)(x1:Int)(x2:Int)(x3:Int)(x4:(Unit)×((Z0))):V.evBody ZJ.E ZJ.con Tryz.f28 ((x0.1,x0.2.1,x0.2.2.1,x0.2.2.2.1,x0.2.2.2.2.1,x0.2.2.2.2.2.1,x0.2.2.2.2.2.2.1,x0.2.2.2.2.2.2.2.1,x0.2.2.2.2.2.2.2.2.1,x0.2.2.2.2.2.2.2.2.2.1,x0.2.2.2.2.2.2.2.2.2.2.1,x0.2.2.2.2.2.2.2.2.2.2.2.1,x0.2.2.2.2.2.2.2.2.2.2.2.2.1,x0.2.2.2.2.2.2.2.2.2.2.2.2.2.1,x0.2.2.2.2.2.2.2.2.2.2.2.2.2.2.1,x0.2.2.2.2.2.2.2.2.2.2.2.2.2.2.2,x1,x2,x3,x4):Int×Int×Int×Int×Int×Int×Int×Int×List Int×Int×List Int×Int×Int×List Int×Int×Bool×Int×Int×Int×(Unit)×((Z0)))=ZJ x0 x1 x2 x3 x4:=by
 rw[ZJ.v]
 simp only[ZJ.e5]
 rfl
theorem ZJ.ok :V.Valid Tryz.prog 28 ZJ.con:=
 V.fo (V.tab_cons Wl.ok (V.tab_cons ZX.ok (V.tab_cons ZZ.ok (V.tab_cons Yr.ok (V.tab_cons Y0.ok (V.tab_cons YM.ok V.tab_nil)))))) Tryz.func28 (by kernel_rfl) (fun x y h=>(show V.evBody ZJ.E ZJ.con Tryz.f28 x=_ from ZJ.eq (x.1,x.2.1,x.2.2.1,x.2.2.2.1,x.2.2.2.2.1,x.2.2.2.2.2.1,x.2.2.2.2.2.2.1,x.2.2.2.2.2.2.2.1,x.2.2.2.2.2.2.2.2.1,x.2.2.2.2.2.2.2.2.2.1,x.2.2.2.2.2.2.2.2.2.2.1,x.2.2.2.2.2.2.2.2.2.2.2.1,x.2.2.2.2.2.2.2.2.2.2.2.2.1,x.2.2.2.2.2.2.2.2.2.2.2.2.2.1,x.2.2.2.2.2.2.2.2.2.2.2.2.2.2.1,x.2.2.2.2.2.2.2.2.2.2.2.2.2.2.2.1) x.2.2.2.2.2.2.2.2.2.2.2.2.2.2.2.2.1 x.2.2.2.2.2.2.2.2.2.2.2.2.2.2.2.2.2.1 x.2.2.2.2.2.2.2.2.2.2.2.2.2.2.2.2.2.2.1 x.2.2.2.2.2.2.2.2.2.2.2.2.2.2.2.2.2.2.2).trans (V.cfl (by kernel_rfl) h))
noncomputable abbrev Xe.con :V.Con:=⟨V.A12,V.eRHeadBool,fun(x:V.D12)=>Xe (V.p12_0 x) (V.p12_1 x) (V.p12_2 x),[],[(true,16),(false,1),(false,1)],[(true,16),(false,1)],[false,false,false,false,false,false,false,false,true,false,true,false,false,true,false,false,false],[]⟩
noncomputable abbrev Xe.E :V.Env:=V.mkE V.tys [(28,ZJ.con),(41,Xc.con)] [] [] [] [] []
noncomputable abbrev Xe.kt (x0:Z0)(x1:Int)(x2:Int):V.Kt Z7:=V.ktOf Xe.E Xe.con Tryz.f15 (V.fl12 x0 x1 x2)
noncomputable abbrev Xe.s (x0:Z0)(x1:Int)(x2:Int):V.St:=⟨[(0, .v true (V.lsHead x0)),(1, .v false [.vi (x1)]),(2, .v false [.vi (x2)])],[]⟩
theorem Xe.v0 (x0:Z0)(x1:Int)(x2:Int):V.evBody Xe.E Xe.con Tryz.f15 (V.fl12 x0 x1 x2)=V.evC Xe.E Tryz.f15.ntmps (V.codeOf Tryz.f15) (Xe.kt x0 x1 x2) (Xe.s x0 x1 x2):=by kernel_rfl
theorem Xe.v (x0:Z0)(x1:Int)(x2:Int):V.evC Xe.E Tryz.f15.ntmps (V.codeOf Tryz.f15) (Xe.kt x0 x1 x2) (Xe.s x0 x1 x2)=Xe x0 x1 x2:=by kernel_rfl
theorem Xe.eq (x0:Z0)(x1:Int)(x2:Int):V.evBody Xe.E Xe.con Tryz.f15 (V.fl12 x0 x1 x2)=Xe x0 x1 x2:=(Xe.v0 x0 x1 x2).trans (Xe.v x0 x1 x2)
theorem Xe.ok :V.Valid Tryz.prog 15 Xe.con:=
 V.fo (V.tab_cons ZJ.ok (V.tab_cons Xc.ok V.tab_nil)) Tryz.func15 (by kernel_rfl) (fun x y h=>(show V.evBody Xe.E Xe.con Tryz.f15 x=_ from Xe.eq (V.p12_0 x) (V.p12_1 x) (V.p12_2 x)).trans (V.cfl (by kernel_rfl) h))
noncomputable abbrev YP.con :V.Con:=⟨(.cons (.sl (.cons (.int .u8) .nil)) .nil),V.eRHeadKeysIntKeysIntInt,fun(x:List Int)=>YP x,[],[(false,1)],[(true,16),(true,2),(false,1),(true,2),(false,1),(false,1)],[false,false,false,false,false,false,false,false,false,false,false,false,false,false,false,false,true,false,false,true,false,false,false],[]⟩
noncomputable abbrev YP.E :V.Env:=V.mkE V.tys [(23,Zy.con),(24,Yd.con),(26,Y3.con),(33,XH.con),(40,Z8.con),(43,Xw.con)] [(19,[2,3,5,8,9,10,11,12],[(64000000000016392192,(V.ci .nil),true),(999999,(.cons .bool .nil),false)])] [(10,6)] [] [(10,[2,4,5])] [(10,[1,3])]
noncomputable abbrev YP.kt (x0:List Int):V.Kt WP:=V.ktOf YP.E YP.con Tryz.f16 ((x0):List Int)
noncomputable abbrev YP.s19 (y1:(Z3))(y2:(Z3)×Int×Int×Int×Int×Int×Int×Int×Int×List Int×Int×List Int×Int×Int×List Int×Int×Bool)(y5:(Z3)×List Int×Int)(y6:(Z3)×Bool)(v19_0:Int)(v19_35:Int)(v19_37:List Int):V.St:=⟨[(2, .v false [.ptr 64000 0]),(3, .v false [.ptr 64064 0]),(5, .v false [.ptr 64192 0]),(8, .v false [.ptr 128064 0]),(9, .v false [.ptr 192128 0]),(10, .v false [.ptr 256128 0]),(11, .v false [.vi (v19_0)]),(12, .v false [.ptr 384128 0])],[(64000, .box [.vi ((0:Int)), .vi ((0:Int)), .vi ((0:Int)), .vi ((0:Int)), .vi ((0:Int)), .vi ((0:Int)), .vi ((0:Int)), .vi ((0:Int)), .nil0, .vi ((0:Int)), .nil0, .vi ((0:Int)), .vi ((0:Int)), .nil0, .vi ((0:Int)), .val (.bool false)]),(64064, .box [.nil0, .vi ((0:Int))]),(64192, .box [.nil0, .vi ((0:Int))]),(128064, .box [.val (.sl (.cons (.int .u8) .nil) y1.1), .vi (y6.1.2.1), .vi (y6.1.2.2)]),(192128, .box (V.lsHead y2.2)),(256128, .box [.ref 64000000000016392192, .vi (v19_35)]),(384128, .box [.ref 64000000000024584192, .vi (y5.2.2)]),(64000000000016392192, .row (V.ci .nil) true v19_37),(64000000000024584192, .row (V.ci .nil) true y5.2.1)]⟩
theorem YP.r19 (x0:List Int)(y1:(Z3))(y2:(Z3)×Int×Int×Int×Int×Int×Int×Int×Int×List Int×Int×List Int×Int×Int×List Int×Int×Bool)(y5:(Z3)×List Int×Int)(y6:(Z3)×Bool)(v19_0:Int)(v19_35:Int)(v19_37:List Int):V.joinF YP.E Tryz.f16.ntmps [1,1,1,1,1,1] [] (V.codeOf Tryz.f16) (YP.kt x0) (YP.s19 y1 y2 y5 y6 v19_0 v19_35 v19_37)=YP.g19 y1 y2 y5 y6 v19_0 v19_35 v19_37:=by kernel_rfl
theorem YP.e19 (x0:List Int)(y1:(Z3))(y2:(Z3)×Int×Int×Int×Int×Int×Int×Int×Int×List Int×Int×List Int×Int×Int×List Int×Int×Bool)(y5:(Z3)×List Int×Int)(y6:(Z3)×Bool)(v19_0:Int)(v19_35:Int)(v19_37:List Int):V.jn (V.joinF YP.E Tryz.f16.ntmps [1,1,1,1,1,1] [] (V.codeOf Tryz.f16) (YP.kt x0)) (YP.s19 y1 y2 y5 y6 v19_0 v19_35 v19_37)=YP.l19 y1 y2 y5 y6 v19_0 v19_35 v19_37:=by
 rw[V.jn_eq,YP.r19]
 rfl
theorem YP.v (x0:List Int):V.evBody YP.E YP.con Tryz.f16 ((x0):List Int)=YP.b x0 (fun y1 y2 y5 y6 v19_0 v19_35 v19_37=>V.jn (V.joinF YP.E Tryz.f16.ntmps [1,1,1,1,1,1] [] (V.codeOf Tryz.f16) (YP.kt x0)) (YP.s19 y1 y2 y5 y6 v19_0 v19_35 v19_37)):=by kernel_rfl
theorem YP.eq (x0:List Int):V.evBody YP.E YP.con Tryz.f16 ((x0):List Int)=YP x0:=by
 rw[YP.v]
 simp only[YP.e19]
 rfl
theorem YP.ok :V.Valid Tryz.prog 16 YP.con:=
 V.fo (V.tab_cons Zy.ok (V.tab_cons Yd.ok (V.tab_cons Y3.ok (V.tab_cons XH.ok (V.tab_cons Z8.ok (V.tab_cons Xw.ok V.tab_nil)))))) Tryz.func16 (by kernel_rfl) (fun x y h=>(show V.evBody YP.E YP.con Tryz.f16 x=_ from YP.eq x).trans (V.cfl (by kernel_rfl) h))
noncomputable abbrev Wr.con :V.Con:=⟨(.cons (.ptr V.eHead) (.cons (.ptr (.cons (.sl (V.ci .nil)) (V.ci .nil))) (.cons (.ptr (V.ci .nil)) (.cons (.ptr (.cons (.sl (V.ci .nil)) (V.ci .nil))) .nil)))),(.cons (.ptr V.eHead) .nil),fun(x:(Z0)×(Z5)×Int×(Z5))=>Wr x.1 x.2.1 x.2.2.1 x.2.2.2,[(0,true)],[(false,1),(false,1),(false,1),(false,1)],[],[],[]⟩
noncomputable abbrev Wr.E :V.Env:=V.mkE V.tys [(35,Xr.con)] [] [(0,10)] [] [(0,[1,2])] [(0,[5])]
theorem Wr.eq (x0:(Z0))(x1:(Z5))(x2:Int)(x3:(Z5)):V.evBody Wr.E Wr.con Tryz.f44 ((x0,x1,x2,x3):(Z0)×(Z5)×Int×(Z5))=Wr x0 x1 x2 x3:=by kernel_rfl
theorem Wr.ok :V.Valid Tryz.prog 44 Wr.con:=
 V.fo (V.tab_cons Xr.ok V.tab_nil) Tryz.func44 (by kernel_rfl) (fun x y h=>(show V.evBody Wr.E Wr.con Tryz.f44 x=_ from Wr.eq x.1 x.2.1 x.2.2.1 x.2.2.2).trans (V.cfl (by kernel_rfl) h))
noncomputable abbrev ZS.con :V.Con:=⟨(V.ci (V.ci (V.ci (V.ci (V.ci (V.ci (V.ci (V.ci (.cons (.sl (V.ci .nil)) (V.ci (.cons (.sl (V.ci .nil)) (V.ci (V.ci (.cons (.sl (V.ci .nil)) (V.ci (.cons .bool (V.ci (V.ci (V.ci (.cons (.fn 44 false .nil (.cons (.ptr (.cons (.sl (V.ci .nil)) (V.ci .nil))) (.cons (.ptr (V.ci .nil)) (.cons (.ptr (.cons (.sl (V.ci .nil)) (V.ci .nil))) .nil)))) .nil)))))))))))))))))))),V.eRHeadBool,fun(x:Int×Int×Int×Int×Int×Int×Int×Int×List Int×Int×List Int×Int×Int×List Int×Int×Bool×Int×Int×Int×(Unit)×((Z5)×Int×(Z5)))=>ZS (x.1,x.2.1,x.2.2.1,x.2.2.2.1,x.2.2.2.2.1,x.2.2.2.2.2.1,x.2.2.2.2.2.2.1,x.2.2.2.2.2.2.2.1,x.2.2.2.2.2.2.2.2.1,x.2.2.2.2.2.2.2.2.2.1,x.2.2.2.2.2.2.2.2.2.2.1,x.2.2.2.2.2.2.2.2.2.2.2.1,x.2.2.2.2.2.2.2.2.2.2.2.2.1,x.2.2.2.2.2.2.2.2.2.2.2.2.2.1,x.2.2.2.2.2.2.2.2.2.2.2.2.2.2.1,x.2.2.2.2.2.2.2.2.2.2.2.2.2.2.2.1) x.2.2.2.2.2.2.2.2.2.2.2.2.2.2.2.2.1 x.2.2.2.2.2.2.2.2.2.2.2.2.2.2.2.2.2.1 x.2.2.2.2.2.2.2.2.2.2.2.2.2.2.2.2.2.2.1 x.2.2.2.2.2.2.2.2.2.2.2.2.2.2.2.2.2.2.2,[],[(true,16),(false,1),(false,1),(false,1),(false,1)],[(true,16),(false,1)],[false,false,false,false,false,false,false,false,true,false,true,false,false,true,false,false,false],[]⟩
noncomputable abbrev ZS.E :V.Env:=V.mkE V.tys [(44,Wr.con),(60,ZX.con),(61,ZZ.con),(62,Yr.con),(63,Y0.con),(64,YM.con)] [(5,[1,2,3,4,5,10,27],[]),(17,[10,12,57],[])] [(4,10)] [] [(4,[3,4])] []
noncomputable abbrev ZS.kt (x0:Z0)(x1:Int)(x2:Int)(x3:Int)(x4:(Unit)×((Z5)×Int×(Z5))):V.Kt Z7:=V.ktOf ZS.E ZS.con Tryz.f28 ((x0.1,x0.2.1,x0.2.2.1,x0.2.2.2.1,x0.2.2.2.2.1,x0.2.2.2.2.2.1,x0.2.2.2.2.2.2.1,x0.2.2.2.2.2.2.2.1,x0.2.2.2.2.2.2.2.2.1,x0.2.2.2.2.2.2.2.2.2.1,x0.2.2.2.2.2.2.2.2.2.2.1,x0.2.2.2.2.2.2.2.2.2.2.2.1,x0.2.2.2.2.2.2.2.2.2.2.2.2.1,x0.2.2.2.2.2.2.2.2.2.2.2.2.2.1,x0.2.2.2.2.2.2.2.2.2.2.2.2.2.2.1,x0.2.2.2.2.2.2.2.2.2.2.2.2.2.2.2,x1,x2,x3,x4):Int×Int×Int×Int×Int×Int×Int×Int×List Int×Int×List Int×Int×Int×List Int×Int×Bool×Int×Int×Int×(Unit)×((Z5)×Int×(Z5)))
noncomputable abbrev ZS.s17 (y6:(Z0))(v17_0:Bool):V.St:=⟨[(10, .v false [.ptr 64064 0]),(12, .v false [.ptr 256128 0]),(57, .v false [.val (.bool v17_0)])],[(64064, .box [.vi ((0:Int)), .vi ((0:Int)), .vi ((0:Int)), .vi ((0:Int)), .vi ((0:Int)), .vi ((0:Int)), .vi ((0:Int)), .vi ((0:Int)), .nil0, .vi ((0:Int)), .nil0, .vi ((0:Int)), .vi ((0:Int)), .nil0, .vi ((0:Int)), .val (.bool false)]),(256128, .box [.vi (y6.1), .vi (y6.2.1), .vi (y6.2.2.1), .vi (y6.2.2.2.1), .vi (y6.2.2.2.2.1), .vi (y6.2.2.2.2.2.1), .vi (y6.2.2.2.2.2.2.1), .vi (y6.2.2.2.2.2.2.2.1), .ref 64000000000016392200, .vi (y6.2.2.2.2.2.2.2.2.2.1), .ref 64000000000016392202, .vi (y6.2.2.2.2.2.2.2.2.2.2.2.1), .vi (y6.2.2.2.2.2.2.2.2.2.2.2.2.1), .ref 64000000000016392205, .vi (y6.2.2.2.2.2.2.2.2.2.2.2.2.2.2.1), .val (.bool y6.2.2.2.2.2.2.2.2.2.2.2.2.2.2.2)]),(64000000000016392200, .row (V.ci .nil) true y6.2.2.2.2.2.2.2.2.1),(64000000000016392202, .row (V.ci .nil) true y6.2.2.2.2.2.2.2.2.2.2.1),(64000000000016392205, .row (V.ci .nil) true y6.2.2.2.2.2.2.2.2.2.2.2.2.2.1)]⟩
noncomputable abbrev ZS.s5 (x0:Z0)(x1:Int)(x2:Int)(x3:Int)(x4:(Unit)×((Z5)×Int×(Z5)))(v5_4:Bool):V.St:=⟨[(1, .v false [.vi (x1)]),(2, .v false [.vi (x2)]),(3, .v false [.vi (x3)]),(4, .v false [.val (.fn 44 false .nil (.cons (.ptr (.cons (.sl (V.ci .nil)) (V.ci .nil))) (.cons (.ptr (V.ci .nil)) (.cons (.ptr (.cons (.sl (V.ci .nil)) (V.ci .nil))) .nil))) () x4.2)]),(5, .v false [.ptr 64000 0]),(10, .v false [.ptr 64064 0]),(27, .v false [.val (.bool v5_4)])],[(64000, .box (V.lsHead x0)),(64064, .box [.vi ((0:Int)), .vi ((0:Int)), .vi ((0:Int)), .vi ((0:Int)), .vi ((0:Int)), .vi ((0:Int)), .vi ((0:Int)), .vi ((0:Int)), .nil0, .vi ((0:Int)), .nil0, .vi ((0:Int)), .vi ((0:Int)), .nil0, .vi ((0:Int)), .val (.bool false)])]⟩
theorem ZS.r17 (x0:Z0)(x1:Int)(x2:Int)(x3:Int)(x4:(Unit)×((Z5)×Int×(Z5)))(y6:(Z0))(v17_0:Bool):V.joinF ZS.E Tryz.f28.ntmps [1,1,1,1,1,1,0] [] (V.codeOf Tryz.f28) (ZS.kt x0 x1 x2 x3 x4) (ZS.s17 y6 v17_0)=ZS.g17 y6 v17_0:=by kernel_rfl
theorem ZS.e17 (x0:Z0)(x1:Int)(x2:Int)(x3:Int)(x4:(Unit)×((Z5)×Int×(Z5)))(y6:(Z0))(v17_0:Bool):V.jn (V.joinF ZS.E Tryz.f28.ntmps [1,1,1,1,1,1,0] [] (V.codeOf Tryz.f28) (ZS.kt x0 x1 x2 x3 x4)) (ZS.s17 y6 v17_0)=ZS.l17 y6 v17_0:=by
 rw[V.jn_eq,ZS.r17]
 rfl
theorem ZS.r5 (x0:Z0)(x1:Int)(x2:Int)(x3:Int)(x4:(Unit)×((Z5)×Int×(Z5)))(v5_4:Bool):V.joinF ZS.E Tryz.f28.ntmps [1,0] [] (V.codeOf Tryz.f28) (ZS.kt x0 x1 x2 x3 x4) (ZS.s5 x0 x1 x2 x3 x4 v5_4)=ZS.g5 x0 x1 x2 x3 x4 (fun y6 v17_0=>V.jn (V.joinF ZS.E Tryz.f28.ntmps [1,1,1,1,1,1,0] [] (V.codeOf Tryz.f28) (ZS.kt x0 x1 x2 x3 x4)) (ZS.s17 y6 v17_0)) v5_4:=by kernel_rfl
theorem ZS.e5 (x0:Z0)(x1:Int)(x2:Int)(x3:Int)(x4:(Unit)×((Z5)×Int×(Z5)))(v5_4:Bool):V.jn (V.joinF ZS.E Tryz.f28.ntmps [1,0] [] (V.codeOf Tryz.f28) (ZS.kt x0 x1 x2 x3 x4)) (ZS.s5 x0 x1 x2 x3 x4 v5_4)=ZS.l5 x0 x1 x2 x3 x4 v5_4:=by
 rw[V.jn_eq,ZS.r5]
 simp only[ZS.e17]
 rfl
theorem ZS.v (x0:Z0)(x1:Int)(x2:Int)(x3:Int)(x4:(Unit)×((Z5)×Int×(Z5))):V.evBody ZS.E ZS.con Tryz.f28 ((x0.1,x0.2.1,x0.2.2.1,x0.2.2.2.1,x0.2.2.2.2.1,x0.2.2.2.2.2.1,x0.2.2.2.2.2.2.1,x0.2.2.2.2.2.2.2.1,x0.2.2.2.2.2.2.2.2.1,x0.2.2.2.2.2.2.2.2.2.1,x0.2.2.2.2.2.2.2.2.2.2.1,x0.2.2.2.2.2.2.2.2.2.2.2.1,x0.2.2.2.2.2.2.2.2.2.2.2.2.1,x0.2.2.2.2.2.2.2.2.2.2.2.2.2.1,x0.2.2.2.2.2.2.2.2.2.2.2.2.2.2.1,x0.2.2.2.2.2.2.2.2.2.2.2.2.2.2.2,x1,x2,x3,x4):Int×Int×Int×Int×Int×Int×Int×Int×List Int×Int×List Int×Int×Int×List Int×Int×Bool×Int×Int×Int×(Unit)×((Z5)×Int×(Z5)))=ZS.b x0 x1 x2 x3 x4 (fun v5_4=>V.jn (V.joinF ZS.E Tryz.f28.ntmps [1,0] [] (V.codeOf Tryz.f28) (ZS.kt x0 x1 x2 x3 x4)) (ZS.s5 x0 x1 x2 x3 x4 v5_4)):=by kernel_rfl
theorem ZS.eq (x0:Z0)(x1:Int)(x2:Int)(x3:Int)(x4:(Unit)×((Z5)×Int×(Z5))):V.evBody ZS.E ZS.con Tryz.f28 ((x0.1,x0.2.1,x0.2.2.1,x0.2.2.2.1,x0.2.2.2.2.1,x0.2.2.2.2.2.1,x0.2.2.2.2.2.2.1,x0.2.2.2.2.2.2.2.1,x0.2.2.2.2.2.2.2.2.1,x0.2.2.2.2.2.2.2.2.2.1,x0.2.2.2.2.2.2.2.2.2.2.1,x0.2.2.2.2.2.2.2.2.2.2.2.1,x0.2.2.2.2.2.2.2.2.2.2.2.2.1,x0.2.2.2.2.2.2.2.2.2.2.2.2.2.1,x0.2.2.2.2.2.2.2.2.2.2.2.2.2.2.1,x0.2.2.2.2.2.2.2.2.2.2.2.2.2.2.2,x1,x2,x3,x4):Int×Int×Int×Int×Int×Int×Int×Int×List Int×Int×List Int×Int×Int×List Int×Int×Bool×Int×Int×Int×(Unit)×((Z5)×Int×(Z5)))=ZS x0 x1 x2 x3 x4:=by
 rw[ZS.v]
 simp only[ZS.e5]
 rfl
theorem ZS.ok :V.Valid Tryz.prog 28 ZS.con:=
 V.fo (V.tab_cons Wr.ok (V.tab_cons ZX.ok (V.tab_cons ZZ.ok (V.tab_cons Yr.ok (V.tab_cons Y0.ok (V.tab_cons YM.ok V.tab_nil)))))) Tryz.func28 (by kernel_rfl) (fun x y h=>(show V.evBody ZS.E ZS.con Tryz.f28 x=_ from ZS.eq (x.1,x.2.1,x.2.2.1,x.2.2.2.1,x.2.2.2.2.1,x.2.2.2.2.2.1,x.2.2.2.2.2.2.1,x.2.2.2.2.2.2.2.1,x.2.2.2.2.2.2.2.2.1,x.2.2.2.2.2.2.2.2.2.1,x.2.2.2.2.2.2.2.2.2.2.1,x.2.2.2.2.2.2.2.2.2.2.2.1,x.2.2.2.2.2.2.2.2.2.2.2.2.1,x.2.2.2.2.2.2.2.2.2.2.2.2.2.1,x.2.2.2.2.2.2.2.2.2.2.2.2.2.2.1,x.2.2.2.2.2.2.2.2.2.2.2.2.2.2.2.1) x.2.2.2.2.2.2.2.2.2.2.2.2.2.2.2.2.1 x.2.2.2.2.2.2.2.2.2.2.2.2.2.2.2.2.2.1 x.2.2.2.2.2.2.2.2.2.2.2.2.2.2.2.2.2.2.1 x.2.2.2.2.2.2.2.2.2.2.2.2.2.2.2.2.2.2.2).trans (V.cfl (by kernel_rfl) h))
noncomputable abbrev Xg.con :V.Con:=⟨V.A13,V.eRHeadBool,fun(x:V.D13)=>Xg (V.p13_0 x) (V.p13_1 x) (V.p13_2 x) (V.p13_3 x) (V.p13_4 x) (V.p13_5 x),[],[(true,16),(true,2),(false,1),(true,2),(false,1),(false,1)],[(true,16),(false,1)],[false,false,false,false,false,false,false,false,true,false,true,false,false,true,false,false,false],[]⟩
noncomputable abbrev Xg.E :V.Env:=V.mkE V.tys [(28,ZS.con)] [] [] [] [] []
noncomputable abbrev Xg.kt (x0:Z0)(x1:Z5)(x2:Int)(x3:Z5)(x4:Int)(x5:Int):V.Kt Z7:=V.ktOf Xg.E Xg.con Tryz.f17 (V.fl13 x0 x1 x2 x3 x4 x5)
noncomputable abbrev Xg.s (x0:Z0)(x1:Z5)(x2:Int)(x3:Z5)(x4:Int)(x5:Int):V.St:=⟨[(0, .v true (V.lsHead x0)),(1, .v true [.val (.sl (V.ci .nil) x1.1), .vi (x1.2)]),(2, .v false [.vi (x2)]),(3, .v true [.val (.sl (V.ci .nil) x3.1), .vi (x3.2)]),(4, .v false [.vi (x4)]),(5, .v false [.vi (x5)])],[]⟩
theorem Xg.v0 (x0:Z0)(x1:Z5)(x2:Int)(x3:Z5)(x4:Int)(x5:Int):V.evBody Xg.E Xg.con Tryz.f17 (V.fl13 x0 x1 x2 x3 x4 x5)=V.evC Xg.E Tryz.f17.ntmps (V.codeOf Tryz.f17) (Xg.kt x0 x1 x2 x3 x4 x5) (Xg.s x0 x1 x2 x3 x4 x5):=by kernel_rfl
theorem Xg.v (x0:Z0)(x1:Z5)(x2:Int)(x3:Z5)(x4:Int)(x5:Int):V.evC Xg.E Tryz.f17.ntmps (V.codeOf Tryz.f17) (Xg.kt x0 x1 x2 x3 x4 x5) (Xg.s x0 x1 x2 x3 x4 x5)=Xg x0 x1 x2 x3 x4 x5:=by kernel_rfl
theorem Xg.eq (x0:Z0)(x1:Z5)(x2:Int)(x3:Z5)(x4:Int)(x5:Int):V.evBody Xg.E Xg.con Tryz.f17 (V.fl13 x0 x1 x2 x3 x4 x5)=Xg x0 x1 x2 x3 x4 x5:=(Xg.v0 x0 x1 x2 x3 x4 x5).trans (Xg.v x0 x1 x2 x3 x4 x5)
theorem Xg.ok :V.Valid Tryz.prog 17 Xg.con:=
 V.fo (V.tab_cons ZS.ok V.tab_nil) Tryz.func17 (by kernel_rfl) (fun x y h=>(show V.evBody Xg.E Xg.con Tryz.f17 x=_ from Xg.eq (V.p13_0 x) (V.p13_1 x) (V.p13_2 x) (V.p13_3 x) (V.p13_4 x) (V.p13_5 x)).trans (V.cfl (by kernel_rfl) h))
noncomputable abbrev YL.con :V.Con:=⟨V.A0,V.eRHeadBool,fun(x:V.D0)=>YL (V.p0_0 x),[],[(true,16)],[(true,16),(false,1)],[false,false,false,false,false,false,false,false,false,false,false,false,false,false,false,false,false],[]⟩
noncomputable abbrev YL.E :V.Env:=V.mkE V.tys [(77,Zq.con)] [] [] [] [] []
noncomputable abbrev YL.kt (x0:Z0):V.Kt Z7:=V.ktOf YL.E YL.con Tryz.f48 (V.fl0 x0)
noncomputable abbrev YL.s (x0:Z0):V.St:=⟨[(0, .v true (V.lsHead x0))],[]⟩
theorem YL.v0 (x0:Z0):V.evBody YL.E YL.con Tryz.f48 (V.fl0 x0)=V.evC YL.E Tryz.f48.ntmps (V.codeOf Tryz.f48) (YL.kt x0) (YL.s x0):=by kernel_rfl
theorem YL.v (x0:Z0):V.evC YL.E Tryz.f48.ntmps (V.codeOf Tryz.f48) (YL.kt x0) (YL.s x0)=YL x0:=by kernel_rfl
theorem YL.eq (x0:Z0):V.evBody YL.E YL.con Tryz.f48 (V.fl0 x0)=YL x0:=(YL.v0 x0).trans (YL.v x0)
theorem YL.ok :V.Valid Tryz.prog 48 YL.con:=
 V.fo (V.tab_cons Zq.ok V.tab_nil) Tryz.func48 (by kernel_rfl) (fun x y h=>(show V.evBody YL.E YL.con Tryz.f48 x=_ from YL.eq (V.p0_0 x)).trans (V.cfl (by kernel_rfl) h))
noncomputable abbrev ZL.con :V.Con:=⟨V.A14,V.eRHeadBool,fun(x:V.D14)=>ZL (V.p14_0 x) (V.p14_1 x) (V.p14_2 x) (V.p14_3 x),[],[(true,16),(false,1),(false,1),(false,1)],[(true,16),(false,1)],[false,false,false,false,false,false,false,false,false,false,false,false,false,false,false,false,false],[]⟩
noncomputable abbrev ZL.E :V.Env:=V.mkE V.tys [(48,YL.con),(77,Zq.con),(78,Yg.con),(79,YU.con),(80,YX.con)] [(5,[1,2,3,4,8,25],[])] [] [] [] []
noncomputable abbrev ZL.kt (x0:Z0)(x1:Int)(x2:Int)(x3:Int):V.Kt Z7:=V.ktOf ZL.E ZL.con Tryz.f45 (V.fl14 x0 x1 x2 x3)
noncomputable abbrev ZL.s5 (x0:Z0)(x1:Int)(x2:Int)(x3:Int)(v5_3:Bool):V.St:=⟨[(1, .v false [.vi (x1)]),(2, .v false [.vi (x2)]),(3, .v false [.vi (x3)]),(4, .v false [.ptr 64000 0]),(8, .v false [.ptr 64064 0]),(25, .v false [.val (.bool v5_3)])],[(64000, .box (V.lsHead x0)),(64064, .box [.vi ((0:Int)), .vi ((0:Int)), .vi ((0:Int)), .vi ((0:Int)), .vi ((0:Int)), .vi ((0:Int)), .vi ((0:Int)), .vi ((0:Int)), .nil0, .vi ((0:Int)), .nil0, .vi ((0:Int)), .vi ((0:Int)), .nil0, .vi ((0:Int)), .val (.bool false)])]⟩
theorem ZL.r5 (x0:Z0)(x1:Int)(x2:Int)(x3:Int)(v5_3:Bool):V.joinF ZL.E Tryz.f45.ntmps [1,0] [] (V.codeOf Tryz.f45) (ZL.kt x0 x1 x2 x3) (ZL.s5 x0 x1 x2 x3 v5_3)=ZL.g5 x0 x1 x2 x3 v5_3:=by kernel_rfl
theorem ZL.e5 (x0:Z0)(x1:Int)(x2:Int)(x3:Int)(v5_3:Bool):V.jn (V.joinF ZL.E Tryz.f45.ntmps [1,0] [] (V.codeOf Tryz.f45) (ZL.kt x0 x1 x2 x3)) (ZL.s5 x0 x1 x2 x3 v5_3)=ZL.l5 x0 x1 x2 x3 v5_3:=by
 rw[V.jn_eq,ZL.r5]
 rfl
noncomputable abbrev ZL.s (x0:Z0)(x1:Int)(x2:Int)(x3:Int):V.St:=⟨[(0, .v true (V.lsHead x0)),(1, .v false [.vi (x1)]),(2, .v false [.vi (x2)]),(3, .v false [.vi (x3)])],[]⟩
theorem ZL.v0 (x0:Z0)(x1:Int)(x2:Int)(x3:Int):V.evBody ZL.E ZL.con Tryz.f45 (V.fl14 x0 x1 x2 x3)=V.evC ZL.E Tryz.f45.ntmps (V.codeOf Tryz.f45) (ZL.kt x0 x1 x2 x3) (ZL.s x0 x1 x2 x3):=by kernel_rfl
theorem ZL.v (x0:Z0)(x1:Int)(x2:Int)(x3:Int):V.evC ZL.E Tryz.f45.ntmps (V.codeOf Tryz.f45) (ZL.kt x0 x1 x2 x3) (ZL.s x0 x1 x2 x3)=ZL.b x0 x1 x2 x3 (fun v5_3=>V.jn (V.joinF ZL.E Tryz.f45.ntmps [1,0] [] (V.codeOf Tryz.f45) (ZL.kt x0 x1 x2 x3)) (ZL.s5 x0 x1 x2 x3 v5_3)):=by kernel_rfl
theorem ZL.eq (x0:Z0)(x1:Int)(x2:Int)(x3:Int):V.evBody ZL.E ZL.con Tryz.f45 (V.fl14 x0 x1 x2 x3)=ZL x0 x1 x2 x3:=by
 rw[ZL.v0,ZL.v]
 simp only[ZL.e5]
 rfl
theorem ZL.ok :V.Valid Tryz.prog 45 ZL.con:=
 V.fo (V.tab_cons YL.ok (V.tab_cons Zq.ok (V.tab_cons Yg.ok (V.tab_cons YU.ok (V.tab_cons YX.ok V.tab_nil))))) Tryz.func45 (by kernel_rfl) (fun x y h=>(show V.evBody ZL.E ZL.con Tryz.f45 x=_ from ZL.eq (V.p14_0 x) (V.p14_1 x) (V.p14_2 x) (V.p14_3 x)).trans (V.cfl (by kernel_rfl) h))
noncomputable abbrev Ys.con :V.Con:=⟨V.A7,V.eRHeadBool,fun(x:V.D7)=>Ys (V.p7_0 x) (V.p7_1 x) (V.p7_2 x) (V.p7_3 x),[],[(true,16),(false,1),(false,1),(false,1)],[(true,16),(false,1)],[false,false,false,false,false,false,false,false,false,false,false,false,false,false,false,false,false],[]⟩
noncomputable abbrev Ys.E :V.Env:=V.mkE V.tys [(45,ZL.con),(46,ZY.con),(47,XN.con),(48,YL.con)] [(7,[1,8,10,25],[])] [] [] [] []
noncomputable abbrev Ys.kt (x0:Z0)(x1:List Z4)(x2:Int)(x3:Int):V.Kt Z7:=V.ktOf Ys.E Ys.con Tryz.f18 (V.fl7 x0 x1 x2 x3)
noncomputable abbrev Ys.s7 (x1:List Z4)(y1:Z7)(v7_1:Bool):V.St:=⟨[(1, .v false [.val (.sl V.eEntry x1)]),(8, .v false [.ptr 64064 0]),(10, .v false [.ptr 128448 0]),(25, .v false [.val (.bool v7_1)])],[(64064, .box [.vi ((0:Int)), .vi ((0:Int)), .vi ((0:Int)), .vi ((0:Int)), .vi ((0:Int)), .vi ((0:Int)), .vi ((0:Int)), .vi ((0:Int)), .nil0, .vi ((0:Int)), .nil0, .vi ((0:Int)), .vi ((0:Int)), .nil0, .vi ((0:Int)), .val (.bool false)]),(128448, .box [.vi (y1.1), .vi (y1.2.1), .vi (y1.2.2.1), .vi (y1.2.2.2.1), .vi (y1.2.2.2.2.1), .vi (y1.2.2.2.2.2.1), .vi (y1.2.2.2.2.2.2.1), .vi (y1.2.2.2.2.2.2.2.1), .val (.sl (V.ci .nil) y1.2.2.2.2.2.2.2.2.1), .vi (y1.2.2.2.2.2.2.2.2.2.1), .val (.sl (V.ci .nil) y1.2.2.2.2.2.2.2.2.2.2.1), .vi (y1.2.2.2.2.2.2.2.2.2.2.2.1), .vi (y1.2.2.2.2.2.2.2.2.2.2.2.2.1), .val (.sl (V.ci .nil) y1.2.2.2.2.2.2.2.2.2.2.2.2.2.1), .vi (y1.2.2.2.2.2.2.2.2.2.2.2.2.2.2.1), .val (.bool y1.2.2.2.2.2.2.2.2.2.2.2.2.2.2.2.1)])]⟩
theorem Ys.r7 (x0:Z0)(x1:List Z4)(x2:Int)(x3:Int)(y1:Z7)(v7_1:Bool):V.joinF Ys.E Tryz.f18.ntmps [1,1,0] [] (V.codeOf Tryz.f18) (Ys.kt x0 x1 x2 x3) (Ys.s7 x1 y1 v7_1)=Ys.g7 x1 y1 v7_1:=by kernel_rfl
theorem Ys.e7 (x0:Z0)(x1:List Z4)(x2:Int)(x3:Int)(y1:Z7)(v7_1:Bool):V.jn (V.joinF Ys.E Tryz.f18.ntmps [1,1,0] [] (V.codeOf Tryz.f18) (Ys.kt x0 x1 x2 x3)) (Ys.s7 x1 y1 v7_1)=Ys.l7 x1 y1 v7_1:=by
 rw[V.jn_eq,Ys.r7]
 rfl
noncomputable abbrev Ys.s (x0:Z0)(x1:List Z4)(x2:Int)(x3:Int):V.St:=⟨[(0, .v true (V.lsHead x0)),(1, .v false [.val (.sl V.eEntry x1)]),(2, .v false [.vi (x2)]),(3, .v false [.vi (x3)])],[]⟩
theorem Ys.v0 (x0:Z0)(x1:List Z4)(x2:Int)(x3:Int):V.evBody Ys.E Ys.con Tryz.f18 (V.fl7 x0 x1 x2 x3)=V.evC Ys.E Tryz.f18.ntmps (V.codeOf Tryz.f18) (Ys.kt x0 x1 x2 x3) (Ys.s x0 x1 x2 x3):=by kernel_rfl
theorem Ys.v (x0:Z0)(x1:List Z4)(x2:Int)(x3:Int):V.evC Ys.E Tryz.f18.ntmps (V.codeOf Tryz.f18) (Ys.kt x0 x1 x2 x3) (Ys.s x0 x1 x2 x3)=Ys.b x0 x1 x2 x3 (fun y1 v7_1=>V.jn (V.joinF Ys.E Tryz.f18.ntmps [1,1,0] [] (V.codeOf Tryz.f18) (Ys.kt x0 x1 x2 x3)) (Ys.s7 x1 y1 v7_1)):=by kernel_rfl
theorem Ys.eq (x0:Z0)(x1:List Z4)(x2:Int)(x3:Int):V.evBody Ys.E Ys.con Tryz.f18 (V.fl7 x0 x1 x2 x3)=Ys x0 x1 x2 x3:=by
 rw[Ys.v0,Ys.v]
 simp only[Ys.e7]
 rfl
theorem Ys.ok :V.Valid Tryz.prog 18 Ys.con:=
 V.fo (V.tab_cons ZL.ok (V.tab_cons ZY.ok (V.tab_cons XN.ok (V.tab_cons YL.ok V.tab_nil)))) Tryz.func18 (by kernel_rfl) (fun x y h=>(show V.evBody Ys.E Ys.con Tryz.f18 x=_ from Ys.eq (V.p7_0 x) (V.p7_1 x) (V.p7_2 x) (V.p7_3 x)).trans (V.cfl (by kernel_rfl) h))
noncomputable abbrev Xp.con :V.Con:=⟨V.A10,V.eRHeadBool,fun(x:V.D10)=>Xp (V.p10_0 x) (V.p10_1 x) (V.p10_2 x) (V.p10_3 x),[],[(true,16),(true,2),(false,1),(false,1)],[(true,16),(false,1)],[false,false,false,false,false,false,false,false,false,false,false,false,false,false,false,false,false],[]⟩
noncomputable abbrev Xp.E :V.Env:=V.mkE V.tys [(45,ZL.con),(48,YL.con),(49,X3.con)] [] [] [] [] []
noncomputable abbrev Xp.kt (x0:Z0)(x1:Z5)(x2:Int)(x3:Int):V.Kt Z7:=V.ktOf Xp.E Xp.con Tryz.f19 (V.fl10 x0 x1 x2 x3)
noncomputable abbrev Xp.s (x0:Z0)(x1:Z5)(x2:Int)(x3:Int):V.St:=⟨[(0, .v true (V.lsHead x0)),(1, .v true [.val (.sl (V.ci .nil) x1.1), .vi (x1.2)]),(2, .v false [.vi (x2)]),(3, .v false [.vi (x3)])],[]⟩
theorem Xp.v0 (x0:Z0)(x1:Z5)(x2:Int)(x3:Int):V.evBody Xp.E Xp.con Tryz.f19 (V.fl10 x0 x1 x2 x3)=V.evC Xp.E Tryz.f19.ntmps (V.codeOf Tryz.f19) (Xp.kt x0 x1 x2 x3) (Xp.s x0 x1 x2 x3):=by kernel_rfl
theorem Xp.v (x0:Z0)(x1:Z5)(x2:Int)(x3:Int):V.evC Xp.E Tryz.f19.ntmps (V.codeOf Tryz.f19) (Xp.kt x0 x1 x2 x3) (Xp.s x0 x1 x2 x3)=Xp x0 x1 x2 x3:=by kernel_rfl
theorem Xp.eq (x0:Z0)(x1:Z5)(x2:Int)(x3:Int):V.evBody Xp.E Xp.con Tryz.f19 (V.fl10 x0 x1 x2 x3)=Xp x0 x1 x2 x3:=(Xp.v0 x0 x1 x2 x3).trans (Xp.v x0 x1 x2 x3)
theorem Xp.ok :V.Valid Tryz.prog 19 Xp.con:=
 V.fo (V.tab_cons ZL.ok (V.tab_cons YL.ok (V.tab_cons X3.ok V.tab_nil))) Tryz.func19 (by kernel_rfl) (fun x y h=>(show V.evBody Xp.E Xp.con Tryz.f19 x=_ from Xp.eq (V.p10_0 x) (V.p10_1 x) (V.p10_2 x) (V.p10_3 x)).trans (V.cfl (by kernel_rfl) h))
noncomputable abbrev ZE.con :V.Con:=⟨V.A10,V.eRHeadBool,fun(x:V.D10)=>ZE (V.p10_0 x) (V.p10_1 x) (V.p10_2 x) (V.p10_3 x),[],[(true,16),(true,2),(false,1),(false,1)],[(true,16),(false,1)],[false,false,false,false,false,false,false,false,false,false,false,false,false,false,false,false,false],[]⟩
noncomputable abbrev ZE.E :V.Env:=V.mkE V.tys [(45,ZL.con),(48,YL.con),(49,X3.con),(50,Xx.con)] [(7,[4,5,8,10,25],[]),(15,[8,10],[])] [] [448064] [] []
noncomputable abbrev ZE.kt (x0:Z0)(x1:Z5)(x2:Int)(x3:Int):V.Kt Z7:=V.ktOf ZE.E ZE.con Tryz.f20 (V.fl10 x0 x1 x2 x3)
noncomputable abbrev ZE.s15 (y1:Z7)(v15_21:List Int)(v15_22:Int)(v15_27:Int)(v15_28:Bool):V.St:=⟨[(8, .v false [.ptr 64128 0]),(10, .v false [.ptr 128448 0])],[(64128, .box [.vi ((0:Int)), .vi ((0:Int)), .vi ((0:Int)), .vi ((0:Int)), .vi ((0:Int)), .vi ((0:Int)), .vi ((0:Int)), .vi ((0:Int)), .nil0, .vi ((0:Int)), .nil0, .vi ((0:Int)), .vi ((0:Int)), .nil0, .vi ((0:Int)), .val (.bool false)]),(128448, .box [.vi (y1.1), .vi (y1.2.1), .vi (y1.2.2.1), .vi (y1.2.2.2.1), .vi (y1.2.2.2.2.1), .vi (y1.2.2.2.2.2.1), .vi (y1.2.2.2.2.2.2.1), .vi (y1.2.2.2.2.2.2.2.1), .val (.sl (V.ci .nil) v15_21), .vi (v15_22), .val (.sl (V.ci .nil) y1.2.2.2.2.2.2.2.2.2.2.1), .vi (y1.2.2.2.2.2.2.2.2.2.2.2.1), .vi (y1.2.2.2.2.2.2.2.2.2.2.2.2.1), .val (.sl (V.ci .nil) y1.2.2.2.2.2.2.2.2.2.2.2.2.2.1), .vi (v15_27), .val (.bool v15_28)])]⟩
noncomputable abbrev ZE.s7 (x0:Z0)(x1:Z5)(y1:Z7)(v7_0:Bool):V.St:=⟨[(4, .v false [.ptr 64000 0]),(5, .v false [.ptr 64064 0]),(8, .v false [.ptr 64128 0]),(10, .v false [.ptr 128448 0]),(25, .v false [.val (.bool v7_0)])],[(64000, .box (V.lsHead x0)),(64064, .box [.val (.sl (V.ci .nil) x1.1), .vi (x1.2)]),(64128, .box [.vi ((0:Int)), .vi ((0:Int)), .vi ((0:Int)), .vi ((0:Int)), .vi ((0:Int)), .vi ((0:Int)), .vi ((0:Int)), .vi ((0:Int)), .nil0, .vi ((0:Int)), .nil0, .vi ((0:Int)), .vi ((0:Int)), .nil0, .vi ((0:Int)), .val (.bool false)]),(128448, .box [.vi (y1.1), .vi (y1.2.1), .vi (y1.2.2.1), .vi (y1.2.2.2.1), .vi (y1.2.2.2.2.1), .vi (y1.2.2.2.2.2.1), .vi (y1.2.2.2.2.2.2.1), .vi (y1.2.2.2.2.2.2.2.1), .val (.sl (V.ci .nil) y1.2.2.2.2.2.2.2.2.1), .vi (y1.2.2.2.2.2.2.2.2.2.1), .val (.sl (V.ci .nil) y1.2.2.2.2.2.2.2.2.2.2.1), .vi (y1.2.2.2.2.2.2.2.2.2.2.2.1), .vi (y1.2.2.2.2.2.2.2.2.2.2.2.2.1), .val (.sl (V.ci .nil) y1.2.2.2.2.2.2.2.2.2.2.2.2.2.1), .vi (y1.2.2.2.2.2.2.2.2.2.2.2.2.2.2.1), .val (.bool y1.2.2.2.2.2.2.2.2.2.2.2.2.2.2.2.1)])]⟩
theorem ZE.r15 (x0:Z0)(x1:Z5)(x2:Int)(x3:Int)(y1:Z7)(v15_21:List Int)(v15_22:Int)(v15_27:Int)(v15_28:Bool):V.joinF ZE.E Tryz.f20.ntmps [1,1,1,1] [] (V.codeOf Tryz.f20) (ZE.kt x0 x1 x2 x3) (ZE.s15 y1 v15_21 v15_22 v15_27 v15_28)=ZE.g15 y1 v15_21 v15_22 v15_27 v15_28:=by kernel_rfl
theorem ZE.e15 (x0:Z0)(x1:Z5)(x2:Int)(x3:Int)(y1:Z7)(v15_21:List Int)(v15_22:Int)(v15_27:Int)(v15_28:Bool):V.jn (V.joinF ZE.E Tryz.f20.ntmps [1,1,1,1] [] (V.codeOf Tryz.f20) (ZE.kt x0 x1 x2 x3)) (ZE.s15 y1 v15_21 v15_22 v15_27 v15_28)=ZE.l15 y1 v15_21 v15_22 v15_27 v15_28:=by
 rw[V.jn_eq,ZE.r15]
 rfl
theorem ZE.r7 (x0:Z0)(x1:Z5)(x2:Int)(x3:Int)(y1:Z7)(v7_0:Bool):V.joinF ZE.E Tryz.f20.ntmps [1,1,0] [] (V.codeOf Tryz.f20) (ZE.kt x0 x1 x2 x3) (ZE.s7 x0 x1 y1 v7_0)=ZE.g7 x0 x1 y1 (fun y1 v15_21 v15_22 v15_27 v15_28=>V.jn (V.joinF ZE.E Tryz.f20.ntmps [1,1,1,1] [] (V.codeOf Tryz.f20) (ZE.kt x0 x1 x2 x3)) (ZE.s15 y1 v15_21 v15_22 v15_27 v15_28)) v7_0:=by kernel_rfl
theorem ZE.e7 (x0:Z0)(x1:Z5)(x2:Int)(x3:Int)(y1:Z7)(v7_0:Bool):V.jn (V.joinF ZE.E Tryz.f20.ntmps [1,1,0] [] (V.codeOf Tryz.f20) (ZE.kt x0 x1 x2 x3)) (ZE.s7 x0 x1 y1 v7_0)=ZE.l7 x0 x1 y1 v7_0:=by
 rw[V.jn_eq,ZE.r7]
 simp only[ZE.e15]
 rfl
noncomputable abbrev ZE.s (x0:Z0)(x1:Z5)(x2:Int)(x3:Int):V.St:=⟨[(0, .v true (V.lsHead x0)),(1, .v true [.val (.sl (V.ci .nil) x1.1), .vi (x1.2)]),(2, .v false [.vi (x2)]),(3, .v false [.vi (x3)])],[]⟩
theorem ZE.v0 (x0:Z0)(x1:Z5)(x2:Int)(x3:Int):V.evBody ZE.E ZE.con Tryz.f20 (V.fl10 x0 x1 x2 x3)=V.evC ZE.E Tryz.f20.ntmps (V.codeOf Tryz.f20) (ZE.kt x0 x1 x2 x3) (ZE.s x0 x1 x2 x3):=by kernel_rfl
theorem ZE.v (x0:Z0)(x1:Z5)(x2:Int)(x3:Int):V.evC ZE.E Tryz.f20.ntmps (V.codeOf Tryz.f20) (ZE.kt x0 x1 x2 x3) (ZE.s x0 x1 x2 x3)=ZE.b x0 x1 x2 x3 (fun y1 v7_0=>V.jn (V.joinF ZE.E Tryz.f20.ntmps [1,1,0] [] (V.codeOf Tryz.f20) (ZE.kt x0 x1 x2 x3)) (ZE.s7 x0 x1 y1 v7_0)):=by kernel_rfl
theorem ZE.eq (x0:Z0)(x1:Z5)(x2:Int)(x3:Int):V.evBody ZE.E ZE.con Tryz.f20 (V.fl10 x0 x1 x2 x3)=ZE x0 x1 x2 x3:=by
 rw[ZE.v0,ZE.v]
 simp only[ZE.e7]
 rfl
theorem ZE.ok :V.Valid Tryz.prog 20 ZE.con:=
 V.fo (V.tab_cons ZL.ok (V.tab_cons YL.ok (V.tab_cons X3.ok (V.tab_cons Xx.ok V.tab_nil)))) Tryz.func20 (by kernel_rfl) (fun x y h=>(show V.evBody ZE.E ZE.con Tryz.f20 x=_ from ZE.eq (V.p10_0 x) (V.p10_1 x) (V.p10_2 x) (V.p10_3 x)).trans (V.cfl (by kernel_rfl) h))
noncomputable abbrev Xl.con :V.Con:=⟨V.A11,(.cons .bool .nil),fun(x:V.D11)=>Xl (V.p11_0 x) (V.p11_1 x),[],[(true,16),(false,1)],[(false,1)],[false],[]⟩
noncomputable abbrev Xl.E :V.Env:=V.mkE V.tys [(50,Xx.con),(77,Zq.con)] [] [] [] [] []
noncomputable abbrev Xl.kt (x0:Z0)(x1:Int):V.Kt Bool:=V.ktOf Xl.E Xl.con Tryz.f51 (V.fl11 x0 x1)
noncomputable abbrev Xl.s (x0:Z0)(x1:Int):V.St:=⟨[(0, .v true (V.lsHead x0)),(1, .v false [.vi (x1)])],[]⟩
theorem Xl.v0 (x0:Z0)(x1:Int):V.evBody Xl.E Xl.con Tryz.f51 (V.fl11 x0 x1)=V.evC Xl.E Tryz.f51.ntmps (V.codeOf Tryz.f51) (Xl.kt x0 x1) (Xl.s x0 x1):=by kernel_rfl
theorem Xl.v (x0:Z0)(x1:Int):V.evC Xl.E Tryz.f51.ntmps (V.codeOf Tryz.f51) (Xl.kt x0 x1) (Xl.s x0 x1)=Xl x0 x1:=by kernel_rfl
theorem Xl.eq (x0:Z0)(x1:Int):V.evBody Xl.E Xl.con Tryz.f51 (V.fl11 x0 x1)=Xl x0 x1:=(Xl.v0 x0 x1).trans (Xl.v x0 x1)
theorem Xl.ok :V.Valid Tryz.prog 51 Xl.con:=
 V.fo (V.tab_cons Xx.ok (V.tab_cons Zq.ok V.tab_nil)) Tryz.func51 (by kernel_rfl) (fun x y h=>(show V.evBody Xl.E Xl.con Tryz.f51 x=_ from Xl.eq (V.p11_0 x) (V.p11_1 x)).trans (V.cfl (by kernel_rfl) h))
noncomputable abbrev Ye.con :V.Con:=⟨V.A12,V.eRHeadBool,fun(x:V.D12)=>Ye (V.p12_0 x) (V.p12_1 x) (V.p12_2 x),[],[(true,16),(false,1),(false,1)],[(true,16),(false,1)],[false,false,false,false,false,false,false,false,false,false,false,false,false,false,false,false,false],[]⟩
noncomputable abbrev Ye.E :V.Env:=V.mkE V.tys [(45,ZL.con),(48,YL.con),(49,X3.con),(51,Xl.con)] [(7,[3,6,8,24],[])] [] [] [] []
noncomputable abbrev Ye.kt (x0:Z0)(x1:Int)(x2:Int):V.Kt Z7:=V.ktOf Ye.E Ye.con Tryz.f21 (V.fl12 x0 x1 x2)
noncomputable abbrev Ye.s7 (x0:Z0)(y1:Z7)(v7_0:Bool):V.St:=⟨[(3, .v false [.ptr 64000 0]),(6, .v false [.ptr 64064 0]),(8, .v false [.ptr 128448 0]),(24, .v false [.val (.bool v7_0)])],[(64000, .box (V.lsHead x0)),(64064, .box [.vi ((0:Int)), .vi ((0:Int)), .vi ((0:Int)), .vi ((0:Int)), .vi ((0:Int)), .vi ((0:Int)), .vi ((0:Int)), .vi ((0:Int)), .nil0, .vi ((0:Int)), .nil0, .vi ((0:Int)), .vi ((0:Int)), .nil0, .vi ((0:Int)), .val (.bool false)]),(128448, .box [.vi (y1.1), .vi (y1.2.1), .vi (y1.2.2.1), .vi (y1.2.2.2.1), .vi (y1.2.2.2.2.1), .vi (y1.2.2.2.2.2.1), .vi (y1.2.2.2.2.2.2.1), .vi (y1.2.2.2.2.2.2.2.1), .val (.sl (V.ci .nil) y1.2.2.2.2.2.2.2.2.1), .vi (y1.2.2.2.2.2.2.2.2.2.1), .val (.sl (V.ci .nil) y1.2.2.2.2.2.2.2.2.2.2.1), .vi (y1.2.2.2.2.2.2.2.2.2.2.2.1), .vi (y1.2.2.2.2.2.2.2.2.2.2.2.2.1), .val (.sl (V.ci .nil) y1.2.2.2.2.2.2.2.2.2.2.2.2.2.1), .vi (y1.2.2.2.2.2.2.2.2.2.2.2.2.2.2.1), .val (.bool y1.2.2.2.2.2.2.2.2.2.2.2.2.2.2.2.1)])]⟩
theorem Ye.r7 (x0:Z0)(x1:Int)(x2:Int)(y1:Z7)(v7_0:Bool):V.joinF Ye.E Tryz.f21.ntmps [1,1,0] [] (V.codeOf Tryz.f21) (Ye.kt x0 x1 x2) (Ye.s7 x0 y1 v7_0)=Ye.g7 x0 y1 v7_0:=by kernel_rfl
theorem Ye.e7 (x0:Z0)(x1:Int)(x2:Int)(y1:Z7)(v7_0:Bool):V.jn (V.joinF Ye.E Tryz.f21.ntmps [1,1,0] [] (V.codeOf Tryz.f21) (Ye.kt x0 x1 x2)) (Ye.s7 x0 y1 v7_0)=Ye.l7 x0 y1 v7_0:=by
 rw[V.jn_eq,Ye.r7]
 rfl
noncomputable abbrev Ye.s (x0:Z0)(x1:Int)(x2:Int):V.St:=⟨[(0, .v true (V.lsHead x0)),(1, .v false [.vi (x1)]),(2, .v false [.vi (x2)])],[]⟩
theorem Ye.v0 (x0:Z0)(x1:Int)(x2:Int):V.evBody Ye.E Ye.con Tryz.f21 (V.fl12 x0 x1 x2)=V.evC Ye.E Tryz.f21.ntmps (V.codeOf Tryz.f21) (Ye.kt x0 x1 x2) (Ye.s x0 x1 x2):=by kernel_rfl
theorem Ye.v (x0:Z0)(x1:Int)(x2:Int):V.evC Ye.E Tryz.f21.ntmps (V.codeOf Tryz.f21) (Ye.kt x0 x1 x2) (Ye.s x0 x1 x2)=Ye.b x0 x1 x2 (fun y1 v7_0=>V.jn (V.joinF Ye.E Tryz.f21.ntmps [1,1,0] [] (V.codeOf Tryz.f21) (Ye.kt x0 x1 x2)) (Ye.s7 x0 y1 v7_0)):=by kernel_rfl
theorem Ye.eq (x0:Z0)(x1:Int)(x2:Int):V.evBody Ye.E Ye.con Tryz.f21 (V.fl12 x0 x1 x2)=Ye x0 x1 x2:=by
 rw[Ye.v0,Ye.v]
 simp only[Ye.e7]
 rfl
theorem Ye.ok :V.Valid Tryz.prog 21 Ye.con:=
 V.fo (V.tab_cons ZL.ok (V.tab_cons YL.ok (V.tab_cons X3.ok (V.tab_cons Xl.ok V.tab_nil)))) Tryz.func21 (by kernel_rfl) (fun x y h=>(show V.evBody Ye.E Ye.con Tryz.f21 x=_ from Ye.eq (V.p12_0 x) (V.p12_1 x) (V.p12_2 x)).trans (V.cfl (by kernel_rfl) h))
noncomputable abbrev Xo.con :V.Con:=⟨V.A13,V.eRHeadBool,fun(x:V.D13)=>Xo (V.p13_0 x) (V.p13_1 x) (V.p13_2 x) (V.p13_3 x) (V.p13_4 x) (V.p13_5 x),[],[(true,16),(true,2),(false,1),(true,2),(false,1),(false,1)],[(true,16),(false,1)],[false,false,false,false,false,false,false,false,false,false,false,false,false,false,false,false,false],[]⟩
noncomputable abbrev Xo.E :V.Env:=V.mkE V.tys [(45,ZL.con),(48,YL.con),(49,X3.con)] [] [] [] [] []
noncomputable abbrev Xo.kt (x0:Z0)(x1:Z5)(x2:Int)(x3:Z5)(x4:Int)(x5:Int):V.Kt Z7:=V.ktOf Xo.E Xo.con Tryz.f22 (V.fl13 x0 x1 x2 x3 x4 x5)
noncomputable abbrev Xo.s (x0:Z0)(x1:Z5)(x2:Int)(x3:Z5)(x4:Int)(x5:Int):V.St:=⟨[(0, .v true (V.lsHead x0)),(1, .v true [.val (.sl (V.ci .nil) x1.1), .vi (x1.2)]),(2, .v false [.vi (x2)]),(3, .v true [.val (.sl (V.ci .nil) x3.1), .vi (x3.2)]),(4, .v false [.vi (x4)]),(5, .v false [.vi (x5)])],[]⟩
theorem Xo.v0 (x0:Z0)(x1:Z5)(x2:Int)(x3:Z5)(x4:Int)(x5:Int):V.evBody Xo.E Xo.con Tryz.f22 (V.fl13 x0 x1 x2 x3 x4 x5)=V.evC Xo.E Tryz.f22.ntmps (V.codeOf Tryz.f22) (Xo.kt x0 x1 x2 x3 x4 x5) (Xo.s x0 x1 x2 x3 x4 x5):=by kernel_rfl
theorem Xo.v (x0:Z0)(x1:Z5)(x2:Int)(x3:Z5)(x4:Int)(x5:Int):V.evC Xo.E Tryz.f22.ntmps (V.codeOf Tryz.f22) (Xo.kt x0 x1 x2 x3 x4 x5) (Xo.s x0 x1 x2 x3 x4 x5)=Xo x0 x1 x2 x3 x4 x5:=by kernel_rfl
theorem Xo.eq (x0:Z0)(x1:Z5)(x2:Int)(x3:Z5)(x4:Int)(x5:Int):V.evBody Xo.E Xo.con Tryz.f22 (V.fl13 x0 x1 x2 x3 x4 x5)=Xo x0 x1 x2 x3 x4 x5:=(Xo.v0 x0 x1 x2 x3 x4 x5).trans (Xo.v x0 x1 x2 x3 x4 x5)
theorem Xo.ok :V.Valid Tryz.prog 22 Xo.con:=
 V.fo (V.tab_cons ZL.ok (V.tab_cons YL.ok (V.tab_cons X3.ok V.tab_nil))) Tryz.func22 (by kernel_rfl) (fun x y h=>(show V.evBody Xo.E Xo.con Tryz.f22 x=_ from Xo.eq (V.p13_0 x) (V.p13_1 x) (V.p13_2 x) (V.p13_3 x) (V.p13_4 x) (V.p13_5 x)).trans (V.cfl (by kernel_rfl) h))
noncomputable abbrev Zl.con :V.Con:=⟨(.cons (.sl (.cons (.int .u8) .nil)) .nil),(.cons .bool .nil),fun(x:List Int)=>Zl x,[],[(false,1)],[(false,1)],[false],[]⟩
noncomputable abbrev Zl.E :V.Env:=V.mkE V.tys [(4,U2.con),(5,YE.con),(6,WB.con),(7,Xd.con),(8,X2.con),(9,Y4.con),(10,WC.con),(11,Xh.con),(12,XD.con),(13,Xf.con),(14,Zv.con),(15,Xe.con),(16,YP.con),(17,Xg.con),(18,Ys.con),(19,Xp.con),(20,ZE.con),(21,Ye.con),(22,Xo.con)] [(17,[0,3,4,5,6,7,9],[]),(25,[0,3,4,5,6,7,9,10,11,12,13,15],[]),(31,[0,3,4,5,6,7,9,10,11,12,13,15,17],[]),(39,[0,3,4,5,6,7,9,10,11,12,13,15,17,18,19,20,22],[]),(57,[9,15,17,22,30,32,34,36,38,40],[])] [(6,10),(10,15),(13,7),(17,15),(26,15)] [576064,1280064] [] []
noncomputable abbrev Zl.kt (x0:List Int):V.Kt Bool:=V.ktOf Zl.E Zl.con Tryz.f3 ((x0):List Int)
noncomputable abbrev Zl.s57 (y4:Z7)(y8:Z7)(y12:Z7)(y16:Z7)(y22:Z7)(y23:Z7)(y24:Z7)(y25:Z7)(y26:Z7)(y27:Z7):V.St:=⟨[(9, .v false [.val (.bool y4.2.2.2.2.2.2.2.2.2.2.2.2.2.2.2.2)]),(15, .v false [.val (.bool y8.2.2.2.2.2.2.2.2.2.2.2.2.2.2.2.2)]),(17, .v false [.val (.bool y12.2.2.2.2.2.2.2.2.2.2.2.2.2.2.2.2)]),(22, .v false [.val (.bool y16.2.2.2.2.2.2.2.2.2.2.2.2.2.2.2.2)]),(30, .v false [.val (.bool y22.2.2.2.2.2.2.2.2.2.2.2.2.2.2.2.2)]),(32, .v false [.val (.bool y23.2.2.2.2.2.2.2.2.2.2.2.2.2.2.2.2)]),(34, .v false [.val (.bool y24.2.2.2.2.2.2.2.2.2.2.2.2.2.2.2.2)]),(36, .v false [.val (.bool y25.2.2.2.2.2.2.2.2.2.2.2.2.2.2.2.2)]),(38, .v false [.val (.bool y26.2.2.2.2.2.2.2.2.2.2.2.2.2.2.2.2)]),(40, .v false [.val (.bool y27.2.2.2.2.2.2.2.2.2.2.2.2.2.2.2.2)])],[]⟩
noncomputable abbrev Zl.s39 (x0:List Int)(y2:List Int)(y3:Xt)(y4:Z7)(y7:Xz)(y8:Z7)(y12:Z7)(y15:Z9)(y16:Z7):V.St:=⟨[(0, .v false [.val (.sl (.cons (.int .u8) .nil) x0)]),(3, .v false [.ref 64000249600192]),(4, .v false [.ptr 320448 0]),(5, .v false [.ref 64000249600320]),(6, .v false [.vi (y3.2.2.2.2.2.2.2.2.2.2.2.2.2.2.2.2.2.1)]),(7, .v false [.vi (y3.2.2.2.2.2.2.2.2.2.2.2.2.2.2.2.2.2.2)]),(9, .v false [.val (.bool y4.2.2.2.2.2.2.2.2.2.2.2.2.2.2.2.2)]),(10, .v false [.ptr 576448 0]),(11, .v false [.ptr 576512 0]),(12, .v false [.vi (y7.2.2.2.2.2.2.2.2.2.2.2.2.2.2.2.2.2.2.1)]),(13, .v false [.vi (y7.2.2.2.2.2.2.2.2.2.2.2.2.2.2.2.2.2.2.2)]),(15, .v false [.val (.bool y8.2.2.2.2.2.2.2.2.2.2.2.2.2.2.2.2)]),(17, .v false [.val (.bool y12.2.2.2.2.2.2.2.2.2.2.2.2.2.2.2.2)]),(18, .v false [.ptr 1024384 0]),(19, .v false [.vi (y15.2.2.2.2.2.2.2.2.2.2.2.2.2.2.2.2.1)]),(20, .v false [.vi (y15.2.2.2.2.2.2.2.2.2.2.2.2.2.2.2.2.2)]),(22, .v false [.val (.bool y16.2.2.2.2.2.2.2.2.2.2.2.2.2.2.2.2)])],[(64000249600192, .row (V.ci .nil) true y2),(320448, .box [.vi (y3.1), .vi (y3.2.1), .vi (y3.2.2.1), .vi (y3.2.2.2.1), .vi (y3.2.2.2.2.1), .vi (y3.2.2.2.2.2.1), .vi (y3.2.2.2.2.2.2.1), .vi (y3.2.2.2.2.2.2.2.1), .val (.sl (V.ci .nil) y3.2.2.2.2.2.2.2.2.1), .vi (y3.2.2.2.2.2.2.2.2.2.1), .val (.sl (V.ci .nil) y3.2.2.2.2.2.2.2.2.2.2.1), .vi (y3.2.2.2.2.2.2.2.2.2.2.2.1), .vi (y3.2.2.2.2.2.2.2.2.2.2.2.2.1), .val (.sl (V.ci .nil) y3.2.2.2.2.2.2.2.2.2.2.2.2.2.1), .vi (y3.2.2.2.2.2.2.2.2.2.2.2.2.2.2.1), .val (.bool y3.2.2.2.2.2.2.2.2.2.2.2.2.2.2.2.1)]),(64000249600320, .row V.eEntry true y3.2.2.2.2.2.2.2.2.2.2.2.2.2.2.2.2.1),(576448, .box [.vi (y7.1), .vi (y7.2.1), .vi (y7.2.2.1), .vi (y7.2.2.2.1), .vi (y7.2.2.2.2.1), .vi (y7.2.2.2.2.2.1), .vi (y7.2.2.2.2.2.2.1), .vi (y7.2.2.2.2.2.2.2.1), .val (.sl (V.ci .nil) y7.2.2.2.2.2.2.2.2.1), .vi (y7.2.2.2.2.2.2.2.2.2.1), .val (.sl (V.ci .nil) y7.2.2.2.2.2.2.2.2.2.2.1), .vi (y7.2.2.2.2.2.2.2.2.2.2.2.1), .vi (y7.2.2.2.2.2.2.2.2.2.2.2.2.1), .val (.sl (V.ci .nil) y7.2.2.2.2.2.2.2.2.2.2.2.2.2.1), .vi (y7.2.2.2.2.2.2.2.2.2.2.2.2.2.2.1), .val (.bool y7.2.2.2.2.2.2.2.2.2.2.2.2.2.2.2.1)]),(576512, .box [.val (.sl (V.ci .nil) y7.2.2.2.2.2.2.2.2.2.2.2.2.2.2.2.2.1), .vi (y7.2.2.2.2.2.2.2.2.2.2.2.2.2.2.2.2.2.1)]),(1024384, .box [.vi (y15.1), .vi (y15.2.1), .vi (y15.2.2.1), .vi (y15.2.2.2.1), .vi (y15.2.2.2.2.1), .vi (y15.2.2.2.2.2.1), .vi (y15.2.2.2.2.2.2.1), .vi (y15.2.2.2.2.2.2.2.1), .val (.sl (V.ci .nil) y15.2.2.2.2.2.2.2.2.1), .vi (y15.2.2.2.2.2.2.2.2.2.1), .val (.sl (V.ci .nil) y15.2.2.2.2.2.2.2.2.2.2.1), .vi (y15.2.2.2.2.2.2.2.2.2.2.2.1), .vi (y15.2.2.2.2.2.2.2.2.2.2.2.2.1), .val (.sl (V.ci .nil) y15.2.2.2.2.2.2.2.2.2.2.2.2.2.1), .vi (y15.2.2.2.2.2.2.2.2.2.2.2.2.2.2.1), .val (.bool y15.2.2.2.2.2.2.2.2.2.2.2.2.2.2.2.1)])]⟩
noncomputable abbrev Zl.s31 (x0:List Int)(y2:List Int)(y3:Xt)(y4:Z7)(y7:Xz)(y8:Z7)(y12:Z7):V.St:=⟨[(0, .v false [.val (.sl (.cons (.int .u8) .nil) x0)]),(3, .v false [.ref 64000198400192]),(4, .v false [.ptr 320448 0]),(5, .v false [.ref 64000198400320]),(6, .v false [.vi (y3.2.2.2.2.2.2.2.2.2.2.2.2.2.2.2.2.2.1)]),(7, .v false [.vi (y3.2.2.2.2.2.2.2.2.2.2.2.2.2.2.2.2.2.2)]),(9, .v false [.val (.bool y4.2.2.2.2.2.2.2.2.2.2.2.2.2.2.2.2)]),(10, .v false [.ptr 576448 0]),(11, .v false [.ptr 576512 0]),(12, .v false [.vi (y7.2.2.2.2.2.2.2.2.2.2.2.2.2.2.2.2.2.2.1)]),(13, .v false [.vi (y7.2.2.2.2.2.2.2.2.2.2.2.2.2.2.2.2.2.2.2)]),(15, .v false [.val (.bool y8.2.2.2.2.2.2.2.2.2.2.2.2.2.2.2.2)]),(17, .v false [.val (.bool y12.2.2.2.2.2.2.2.2.2.2.2.2.2.2.2.2)])],[(64000198400192, .row (V.ci .nil) true y2),(320448, .box [.vi (y3.1), .vi (y3.2.1), .vi (y3.2.2.1), .vi (y3.2.2.2.1), .vi (y3.2.2.2.2.1), .vi (y3.2.2.2.2.2.1), .vi (y3.2.2.2.2.2.2.1), .vi (y3.2.2.2.2.2.2.2.1), .val (.sl (V.ci .nil) y3.2.2.2.2.2.2.2.2.1), .vi (y3.2.2.2.2.2.2.2.2.2.1), .val (.sl (V.ci .nil) y3.2.2.2.2.2.2.2.2.2.2.1), .vi (y3.2.2.2.2.2.2.2.2.2.2.2.1), .vi (y3.2.2.2.2.2.2.2.2.2.2.2.2.1), .val (.sl (V.ci .nil) y3.2.2.2.2.2.2.2.2.2.2.2.2.2.1), .vi (y3.2.2.2.2.2.2.2.2.2.2.2.2.2.2.1), .val (.bool y3.2.2.2.2.2.2.2.2.2.2.2.2.2.2.2.1)]),(64000198400320, .row V.eEntry true y3.2.2.2.2.2.2.2.2.2.2.2.2.2.2.2.2.1),(576448, .box [.vi (y7.1), .vi (y7.2.1), .vi (y7.2.2.1), .vi (y7.2.2.2.1), .vi (y7.2.2.2.2.1), .vi (y7.2.2.2.2.2.1), .vi (y7.2.2.2.2.2.2.1), .vi (y7.2.2.2.2.2.2.2.1), .val (.sl (V.ci .nil) y7.2.2.2.2.2.2.2.2.1), .vi (y7.2.2.2.2.2.2.2.2.2.1), .val (.sl (V.ci .nil) y7.2.2.2.2.2.2.2.2.2.2.1), .vi (y7.2.2.2.2.2.2.2.2.2.2.2.1), .vi (y7.2.2.2.2.2.2.2.2.2.2.2.2.1), .val (.sl (V.ci .nil) y7.2.2.2.2.2.2.2.2.2.2.2.2.2.1), .vi (y7.2.2.2.2.2.2.2.2.2.2.2.2.2.2.1), .val (.bool y7.2.2.2.2.2.2.2.2.2.2.2.2.2.2.2.1)]),(576512, .box [.val (.sl (V.ci .nil) y7.2.2.2.2.2.2.2.2.2.2.2.2.2.2.2.2.1), .vi (y7.2.2.2.2.2.2.2.2.2.2.2.2.2.2.2.2.2.1)])]⟩
noncomputable abbrev Zl.s25 (x0:List Int)(y2:List Int)(y3:Xt)(y4:Z7)(y7:Xz)(y8:Z7):V.St:=⟨[(0, .v false [.val (.sl (.cons (.int .u8) .nil) x0)]),(3, .v false [.ref 64000160000192]),(4, .v false [.ptr 320448 0]),(5, .v false [.ref 64000160000320]),(6, .v false [.vi (y3.2.2.2.2.2.2.2.2.2.2.2.2.2.2.2.2.2.1)]),(7, .v false [.vi (y3.2.2.2.2.2.2.2.2.2.2.2.2.2.2.2.2.2.2)]),(9, .v false [.val (.bool y4.2.2.2.2.2.2.2.2.2.2.2.2.2.2.2.2)]),(10, .v false [.ptr 576448 0]),(11, .v false [.ptr 576512 0]),(12, .v false [.vi (y7.2.2.2.2.2.2.2.2.2.2.2.2.2.2.2.2.2.2.1)]),(13, .v false [.vi (y7.2.2.2.2.2.2.2.2.2.2.2.2.2.2.2.2.2.2.2)]),(15, .v false [.val (.bool y8.2.2.2.2.2.2.2.2.2.2.2.2.2.2.2.2)])],[(64000160000192, .row (V.ci .nil) true y2),(320448, .box [.vi (y3.1), .vi (y3.2.1), .vi (y3.2.2.1), .vi (y3.2.2.2.1), .vi (y3.2.2.2.2.1), .vi (y3.2.2.2.2.2.1), .vi (y3.2.2.2.2.2.2.1), .vi (y3.2.2.2.2.2.2.2.1), .val (.sl (V.ci .nil) y3.2.2.2.2.2.2.2.2.1), .vi (y3.2.2.2.2.2.2.2.2.2.1), .val (.sl (V.ci .nil) y3.2.2.2.2.2.2.2.2.2.2.1), .vi (y3.2.2.2.2.2.2.2.2.2.2.2.1), .vi (y3.2.2.2.2.2.2.2.2.2.2.2.2.1), .val (.sl (V.ci .nil) y3.2.2.2.2.2.2.2.2.2.2.2.2.2.1), .vi (y3.2.2.2.2.2.2.2.2.2.2.2.2.2.2.1), .val (.bool y3.2.2.2.2.2.2.2.2.2.2.2.2.2.2.2.1)]),(64000160000320, .row V.eEntry true y3.2.2.2.2.2.2.2.2.2.2.2.2.2.2.2.2.1),(576448, .box [.vi (y7.1), .vi (y7.2.1), .vi (y7.2.2.1), .vi (y7.2.2.2.1), .vi (y7.2.2.2.2.1), .vi (y7.2.2.2.2.2.1), .vi (y7.2.2.2.2.2.2.1), .vi (y7.2.2.2.2.2.2.2.1), .val (.sl (V.ci .nil) y7.2.2.2.2.2.2.2.2.1), .vi (y7.2.2.2.2.2.2.2.2.2.1), .val (.sl (V.ci .nil) y7.2.2.2.2.2.2.2.2.2.2.1), .vi (y7.2.2.2.2.2.2.2.2.2.2.2.1), .vi (y7.2.2.2.2.2.2.2.2.2.2.2.2.1), .val (.sl (V.ci .nil) y7.2.2.2.2.2.2.2.2.2.2.2.2.2.1), .vi (y7.2.2.2.2.2.2.2.2.2.2.2.2.2.2.1), .val (.bool y7.2.2.2.2.2.2.2.2.2.2.2.2.2.2.2.1)]),(576512, .box [.val (.sl (V.ci .nil) y7.2.2.2.2.2.2.2.2.2.2.2.2.2.2.2.2.1), .vi (y7.2.2.2.2.2.2.2.2.2.2.2.2.2.2.2.2.2.1)])]⟩
noncomputable abbrev Zl.s17 (x0:List Int)(y2:List Int)(y3:Xt)(y4:Z7):V.St:=⟨[(0, .v false [.val (.sl (.cons (.int .u8) .nil) x0)]),(3, .v false [.ref 64000108800192]),(4, .v false [.ptr 320448 0]),(5, .v false [.ref 64000108800320]),(6, .v false [.vi (y3.2.2.2.2.2.2.2.2.2.2.2.2.2.2.2.2.2.1)]),(7, .v false [.vi (y3.2.2.2.2.2.2.2.2.2.2.2.2.2.2.2.2.2.2)]),(9, .v false [.val (.bool y4.2.2.2.2.2.2.2.2.2.2.2.2.2.2.2.2)])],[(64000108800192, .row (V.ci .nil) true y2),(320448, .box [.vi (y3.1), .vi (y3.2.1), .vi (y3.2.2.1), .vi (y3.2.2.2.1), .vi (y3.2.2.2.2.1), .vi (y3.2.2.2.2.2.1), .vi (y3.2.2.2.2.2.2.1), .vi (y3.2.2.2.2.2.2.2.1), .val (.sl (V.ci .nil) y3.2.2.2.2.2.2.2.2.1), .vi (y3.2.2.2.2.2.2.2.2.2.1), .val (.sl (V.ci .nil) y3.2.2.2.2.2.2.2.2.2.2.1), .vi (y3.2.2.2.2.2.2.2.2.2.2.2.1), .vi (y3.2.2.2.2.2.2.2.2.2.2.2.2.1), .val (.sl (V.ci .nil) y3.2.2.2.2.2.2.2.2.2.2.2.2.2.1), .vi (y3.2.2.2.2.2.2.2.2.2.2.2.2.2.2.1), .val (.bool y3.2.2.2.2.2.2.2.2.2.2.2.2.2.2.2.1)]),(64000108800320, .row V.eEntry true y3.2.2.2.2.2.2.2.2.2.2.2.2.2.2.2.2.1)]⟩
theorem Zl.r57 (x0:List Int)(y12:Z7)(y16:Z7)(y22:Z7)(y23:Z7)(y24:Z7)(y25:Z7)(y26:Z7)(y27:Z7)(y4:Z7)(y8:Z7):V.joinF Zl.E Tryz.f3.ntmps [1,1,1,1,1,1,1,1,1,1,1,1,1,1,1,1,1,1,1,1,1] [] (V.codeOf Tryz.f3) (Zl.kt x0) (Zl.s57 y4 y8 y12 y16 y22 y23 y24 y25 y26 y27)=Zl.g57 y4 y8 y12 y16 y22 y23 y24 y25 y26 y27:=by kernel_rfl
theorem Zl.e57 (x0:List Int)(y12:Z7)(y16:Z7)(y22:Z7)(y23:Z7)(y24:Z7)(y25:Z7)(y26:Z7)(y27:Z7)(y4:Z7)(y8:Z7):V.jn (V.joinF Zl.E Tryz.f3.ntmps [1,1,1,1,1,1,1,1,1,1,1,1,1,1,1,1,1,1,1,1,1] [] (V.codeOf Tryz.f3) (Zl.kt x0)) (Zl.s57 y4 y8 y12 y16 y22 y23 y24 y25 y26 y27)=Zl.l57 y4 y8 y12 y16 y22 y23 y24 y25 y26 y27:=by
 rw[V.jn_eq,Zl.r57]
 rfl
theorem Zl.r39 (x0:List Int)(y12:Z7)(y15:Z9)(y16:Z7)(y2:List Int)(y3:Xt)(y4:Z7)(y7:Xz)(y8:Z7):V.joinF Zl.E Tryz.f3.ntmps [1,1,1,1,1,1,1,1,1,1,1,1,1] [] (V.codeOf Tryz.f3) (Zl.kt x0) (Zl.s39 x0 y2 y3 y4 y7 y8 y12 y15 y16)=Zl.g39 x0 y2 y3 y4 y7 y8 y12 y15 y16 (fun y4 y8 y12 y16 y22 y23 y24 y25 y26 y27=>V.jn (V.joinF Zl.E Tryz.f3.ntmps [1,1,1,1,1,1,1,1,1,1,1,1,1,1,1,1,1,1,1,1,1] [] (V.codeOf Tryz.f3) (Zl.kt x0)) (Zl.s57 y4 y8 y12 y16 y22 y23 y24 y25 y26 y27)):=by kernel_rfl
theorem Zl.e39 (x0:List Int)(y12:Z7)(y15:Z9)(y16:Z7)(y2:List Int)(y3:Xt)(y4:Z7)(y7:Xz)(y8:Z7):V.jn (V.joinF Zl.E Tryz.f3.ntmps [1,1,1,1,1,1,1,1,1,1,1,1,1] [] (V.codeOf Tryz.f3) (Zl.kt x0)) (Zl.s39 x0 y2 y3 y4 y7 y8 y12 y15 y16)=Zl.l39 x0 y2 y3 y4 y7 y8 y12 y15 y16:=by
 rw[V.jn_eq,Zl.r39]
 simp only[Zl.e57]
 rfl
theorem Zl.r31 (x0:List Int)(y12:Z7)(y2:List Int)(y3:Xt)(y4:Z7)(y7:Xz)(y8:Z7):V.joinF Zl.E Tryz.f3.ntmps [1,1,1,1,1,1,1,1,1,1] [] (V.codeOf Tryz.f3) (Zl.kt x0) (Zl.s31 x0 y2 y3 y4 y7 y8 y12)=Zl.g31 x0 y2 y3 y4 y7 y8 y12 (fun y2 y3 y4 y7 y8 y12 y15 y16=>V.jn (V.joinF Zl.E Tryz.f3.ntmps [1,1,1,1,1,1,1,1,1,1,1,1,1] [] (V.codeOf Tryz.f3) (Zl.kt x0)) (Zl.s39 x0 y2 y3 y4 y7 y8 y12 y15 y16)):=by kernel_rfl
theorem Zl.e31 (x0:List Int)(y12:Z7)(y2:List Int)(y3:Xt)(y4:Z7)(y7:Xz)(y8:Z7):V.jn (V.joinF Zl.E Tryz.f3.ntmps [1,1,1,1,1,1,1,1,1,1] [] (V.codeOf Tryz.f3) (Zl.kt x0)) (Zl.s31 x0 y2 y3 y4 y7 y8 y12)=Zl.l31 x0 y2 y3 y4 y7 y8 y12:=by
 rw[V.jn_eq,Zl.r31]
 simp only[Zl.e39]
 rfl
theorem Zl.r25 (x0:List Int)(y2:List Int)(y3:Xt)(y4:Z7)(y7:Xz)(y8:Z7):V.joinF Zl.E Tryz.f3.ntmps [1,1,1,1,1,1,1,1] [] (V.codeOf Tryz.f3) (Zl.kt x0) (Zl.s25 x0 y2 y3 y4 y7 y8)=Zl.g25 x0 y2 y3 y4 y7 y8 (fun y2 y3 y4 y7 y8 y12=>V.jn (V.joinF Zl.E Tryz.f3.ntmps [1,1,1,1,1,1,1,1,1,1] [] (V.codeOf Tryz.f3) (Zl.kt x0)) (Zl.s31 x0 y2 y3 y4 y7 y8 y12)):=by kernel_rfl
theorem Zl.e25 (x0:List Int)(y2:List Int)(y3:Xt)(y4:Z7)(y7:Xz)(y8:Z7):V.jn (V.joinF Zl.E Tryz.f3.ntmps [1,1,1,1,1,1,1,1] [] (V.codeOf Tryz.f3) (Zl.kt x0)) (Zl.s25 x0 y2 y3 y4 y7 y8)=Zl.l25 x0 y2 y3 y4 y7 y8:=by
 rw[V.jn_eq,Zl.r25]
 simp only[Zl.e31]
 rfl
theorem Zl.r17 (x0:List Int)(y2:List Int)(y3:Xt)(y4:Z7):V.joinF Zl.E Tryz.f3.ntmps [1,1,1,1,1] [] (V.codeOf Tryz.f3) (Zl.kt x0) (Zl.s17 x0 y2 y3 y4)=Zl.g17 x0 y2 y3 y4 (fun y2 y3 y4 y7 y8=>V.jn (V.joinF Zl.E Tryz.f3.ntmps [1,1,1,1,1,1,1,1] [] (V.codeOf Tryz.f3) (Zl.kt x0)) (Zl.s25 x0 y2 y3 y4 y7 y8)):=by kernel_rfl
theorem Zl.e17 (x0:List Int)(y2:List Int)(y3:Xt)(y4:Z7):V.jn (V.joinF Zl.E Tryz.f3.ntmps [1,1,1,1,1] [] (V.codeOf Tryz.f3) (Zl.kt x0)) (Zl.s17 x0 y2 y3 y4)=Zl.l17 x0 y2 y3 y4:=by
 rw[V.jn_eq,Zl.r17]
 simp only[Zl.e25]
 rfl
theorem Zl.v (x0:List Int):V.evBody Zl.E Zl.con Tryz.f3 ((x0):List Int)=Zl.b x0 (fun y2 y3 y4=>V.jn (V.joinF Zl.E Tryz.f3.ntmps [1,1,1,1,1] [] (V.codeOf Tryz.f3) (Zl.kt x0)) (Zl.s17 x0 y2 y3 y4)):=by kernel_rfl
theorem Zl.eq (x0:List Int):V.evBody Zl.E Zl.con Tryz.f3 ((x0):List Int)=Zl x0:=by
 rw[Zl.v]
 simp only[Zl.e17]
 rfl
theorem Zl.ok :V.Valid Tryz.prog 3 Zl.con:=
 V.fo (V.tab_cons U2.ok (V.tab_cons YE.ok (V.tab_cons WB.ok (V.tab_cons Xd.ok (V.tab_cons X2.ok (V.tab_cons Y4.ok (V.tab_cons WC.ok (V.tab_cons Xh.ok (V.tab_cons XD.ok (V.tab_cons Xf.ok (V.tab_cons Zv.ok (V.tab_cons Xe.ok (V.tab_cons YP.ok (V.tab_cons Xg.ok (V.tab_cons Ys.ok (V.tab_cons Xp.ok (V.tab_cons ZE.ok (V.tab_cons Ye.ok (V.tab_cons Xo.ok V.tab_nil))))))))))))))))))) Tryz.func3 (by kernel_rfl) (fun x y h=>(show V.evBody Zl.E Zl.con Tryz.f3 x=_ from Zl.eq x).trans (V.cfl (by kernel_rfl) h))
end Go.Proofs.YtcbeaoigenjoeabGreat
