/- That the functions compute it, part 1. -/
import Derived.Test.YtkadeffepgcceadGreatFnPublishedWalk0
namespace Go.Proofs.YtkadeffepgcceadGreat
set_option linter.unusedVariables false
set_option maxRecDepth 100000
noncomputable abbrev Xy.con :V.Con:=⟨V.A0,(.cons .bool .nil),fun(x:V.D0)=>Xy (V.p0_0 x),[],[(true,16)],[(false,1)],[false],[]⟩
noncomputable abbrev Xy.E :V.Env:=V.mkE V.tys [] [] [] [] [] []
noncomputable abbrev Xy.kt (x0:Z6):V.Kt Bool:=V.ktOf Xy.E Xy.con Tryz.f145 (V.fl0 x0)
noncomputable abbrev Xy.s (x0:Z6):V.St:=⟨[(0, .v true (V.lsHead x0))],[]⟩
theorem Xy.v0 (x0:Z6):V.evBody Xy.E Xy.con Tryz.f145 (V.fl0 x0)=V.evC Xy.E Tryz.f145.ntmps (V.codeOf Tryz.f145) (Xy.kt x0) (Xy.s x0):=by kernel_rfl
theorem Xy.v (x0:Z6):V.evC Xy.E Tryz.f145.ntmps (V.codeOf Tryz.f145) (Xy.kt x0) (Xy.s x0)=Xy x0:=by kernel_rfl
theorem Xy.eq (x0:Z6):V.evBody Xy.E Xy.con Tryz.f145 (V.fl0 x0)=Xy x0:=(Xy.v0 x0).trans (Xy.v x0)
theorem Xy.ok :V.Valid Tryz.prog 145 Xy.con:=
 V.fo V.tab_nil Tryz.func145 (by kernel_rfl) (fun x y h=>(show V.evBody Xy.E Xy.con Tryz.f145 x=_ from Xy.eq (V.p0_0 x)).trans (V.cfl (by kernel_rfl) h))
noncomputable abbrev Yn.con :V.Con:=⟨(.cons (.sl (V.ci .nil)) .nil),(.cons .bool .nil),fun(x:List Int)=>Yn x,[],[(false,1)],[(false,1)],[false],[]⟩
noncomputable abbrev Yn.E :V.Env:=V.mkE V.tys [] [(4,[0,5,6],[])] [(4,12)] [] [] []
noncomputable abbrev Yn.kt (x0:List Int):V.Kt Bool:=V.ktOf Yn.E Yn.con Tryz.f181 ((x0):List Int)
noncomputable abbrev Yn.s4 (x0:List Int)(v4_1:Int)(v4_2:Int):V.St:=⟨[(0, .v false [.val (.sl (V.ci .nil) x0)]),(5, .v false [.vi (v4_1)]),(6, .v false [.vi (v4_2)])],[]⟩
theorem Yn.r4 (x0:List Int)(R:V.St→Option Bool)(v4_1:Int)(v4_2:Int):V.loopF Yn.E Tryz.f181.ntmps [1,0,1,0] [] (V.codeOf Tryz.f181) (Yn.kt x0) R (Yn.s4 x0 v4_1 v4_2)=Yn.g4 x0 (fun v4_1 v4_2=>R (Yn.s4 x0 v4_1 v4_2)) v4_1 v4_2:=by kernel_rfl
theorem Yn.e4 (x0:List Int):∀(n:Nat) (v4_1:Int) (v4_2:Int),V.loopN (V.loopF Yn.E Tryz.f181.ntmps [1,0,1,0] [] (V.codeOf Tryz.f181) (Yn.kt x0)) n (Yn.s4 x0 v4_1 v4_2)=Yn.l4 x0 n v4_1 v4_2:=by
 intro n
 induction n with
 |zero=>intros;rw[V.loopN_z];rfl
 |succ n ih=>
  intro v4_1 v4_2
  rw[V.loopN_s,Yn.r4]
  simp only[ih]
  first|exact(Yn.u4 ..).symm|rfl
theorem Yn.v (x0:List Int):V.evBody Yn.E Yn.con Tryz.f181 ((x0):List Int)=Yn.b x0 (fun v4_1 v4_2=>V.loopN (V.loopF Yn.E Tryz.f181.ntmps [1,0,1,0] [] (V.codeOf Tryz.f181) (Yn.kt x0)) V.KK (Yn.s4 x0 v4_1 v4_2)):=by kernel_rfl
theorem Yn.eq (x0:List Int):V.evBody Yn.E Yn.con Tryz.f181 ((x0):List Int)=Yn x0:=by
 rw[Yn.v]
 simp only[Yn.e4]
 rfl
theorem Yn.ok :V.Valid Tryz.prog 181 Yn.con:=
 V.fo V.tab_nil Tryz.func181 (by kernel_rfl) (fun x y h=>(show V.evBody Yn.E Yn.con Tryz.f181 x=_ from Yn.eq x).trans (V.cfl (by kernel_rfl) h))
noncomputable abbrev Wg.con :V.Con:=⟨(V.ci .nil),(.cons .bool .nil),fun(x:Int)=>Wg x,[],[(false,1)],[(false,1)],[false],[]⟩
noncomputable abbrev Wg.E :V.Env:=V.mkE V.tys [(82,YD.con)] [] [] [] [] []
theorem Wg.eq (x0:Int):V.evBody Wg.E Wg.con Tryz.f182 ((x0):Int)=Wg x0:=by kernel_rfl
theorem Wg.ok :V.Valid Tryz.prog 182 Wg.con:=
 V.fo (V.tab_cons YD.ok V.tab_nil) Tryz.func182 (by kernel_rfl) (fun x y h=>(show V.evBody Wg.E Wg.con Tryz.f182 x=_ from Wg.eq x).trans (V.cfl (by kernel_rfl) h))
noncomputable abbrev XV.con :V.Con:=⟨(.cons (.sl (V.ci .nil)) (V.ci .nil)),(.cons .bool .nil),fun(x:List Int×Int)=>XV x,[],[(true,2)],[(false,1)],[false],[]⟩
noncomputable abbrev XV.E :V.Env:=V.mkE V.tys [(82,YD.con),(181,Yn.con),(182,Wg.con)] [] [] [] [] []
theorem XV.eq (x0:Zc):V.evBody XV.E XV.con Tryz.f146 ((x0.1,x0.2):List Int×Int)=XV x0:=by kernel_rfl
theorem XV.ok :V.Valid Tryz.prog 146 XV.con:=
 V.fo (V.tab_cons YD.ok (V.tab_cons Yn.ok (V.tab_cons Wg.ok V.tab_nil))) Tryz.func146 (by kernel_rfl) (fun x y h=>(show V.evBody XV.E XV.con Tryz.f146 x=_ from XV.eq x).trans (V.cfl (by kernel_rfl) h))
noncomputable abbrev XF.con :V.Con:=⟨(.cons (.sl (V.ci .nil)) (V.ci .nil)),(.cons .bool .nil),fun(x:List Int×Int)=>XF x,[],[(true,2)],[(false,1)],[false],[]⟩
noncomputable abbrev XF.E :V.Env:=V.mkE V.tys [] [] [] [] [] []
theorem XF.eq (x0:Zc):V.evBody XF.E XF.con Tryz.f149 ((x0.1,x0.2):List Int×Int)=XF x0:=by kernel_rfl
theorem XF.ok :V.Valid Tryz.prog 149 XF.con:=
 V.fo V.tab_nil Tryz.func149 (by kernel_rfl) (fun x y h=>(show V.evBody XF.E XF.con Tryz.f149 x=_ from XF.eq x).trans (V.cfl (by kernel_rfl) h))
noncomputable abbrev U0.con :V.Con:=⟨(.cons (.sl (V.ci .nil)) (V.ci .nil)),(.cons .bool .nil),fun(x:List Int×Int)=>U0 x,[],[(true,2)],[(false,1)],[false],[]⟩
noncomputable abbrev U0.E :V.Env:=V.mkE V.tys [(146,XV.con),(149,XF.con)] [] [] [] [] []
theorem U0.eq (x0:Zc):V.evBody U0.E U0.con Tryz.f147 ((x0.1,x0.2):List Int×Int)=U0 x0:=by kernel_rfl
theorem U0.ok :V.Valid Tryz.prog 147 U0.con:=
 V.fo (V.tab_cons XV.ok (V.tab_cons XF.ok V.tab_nil)) Tryz.func147 (by kernel_rfl) (fun x y h=>(show V.evBody U0.E U0.con Tryz.f147 x=_ from U0.eq x).trans (V.cfl (by kernel_rfl) h))
noncomputable abbrev Ur.con :V.Con:=⟨(V.ci (.cons (.sl (V.ci .nil)) (V.ci .nil))),(.cons .bool .nil),fun(x:Int×List Int×Int)=>Ur x.1 x.2,[],[(false,1),(true,2)],[(false,1)],[false],[]⟩
noncomputable abbrev Ur.E :V.Env:=V.mkE V.tys [(82,YD.con),(149,XF.con)] [] [] [] [] []
theorem Ur.eq (x0:Int)(x1:Zc):V.evBody Ur.E Ur.con Tryz.f148 ((x0,x1.1,x1.2):Int×List Int×Int)=Ur x0 x1:=by kernel_rfl
theorem Ur.ok :V.Valid Tryz.prog 148 Ur.con:=
 V.fo (V.tab_cons YD.ok (V.tab_cons XF.ok V.tab_nil)) Tryz.func148 (by kernel_rfl) (fun x y h=>(show V.evBody Ur.E Ur.con Tryz.f148 x=_ from Ur.eq x.1 x.2).trans (V.cfl (by kernel_rfl) h))
noncomputable abbrev YY.con :V.Con:=⟨V.A0,(.cons .bool .nil),fun(x:V.D0)=>YY (V.p0_0 x),[],[(true,16)],[(false,1)],[false],[]⟩
noncomputable abbrev YY.E :V.Env:=V.mkE V.tys [(82,YD.con),(144,XW.con),(145,Xy.con),(146,XV.con),(147,U0.con),(148,Ur.con),(149,XF.con)] [] [] [] [] []
noncomputable abbrev YY.kt (x0:Z6):V.Kt Bool:=V.ktOf YY.E YY.con Tryz.f94 (V.fl0 x0)
noncomputable abbrev YY.s (x0:Z6):V.St:=⟨[(0, .v true (V.lsHead x0))],[]⟩
theorem YY.v0 (x0:Z6):V.evBody YY.E YY.con Tryz.f94 (V.fl0 x0)=V.evC YY.E Tryz.f94.ntmps (V.codeOf Tryz.f94) (YY.kt x0) (YY.s x0):=by kernel_rfl
theorem YY.v (x0:Z6):V.evC YY.E Tryz.f94.ntmps (V.codeOf Tryz.f94) (YY.kt x0) (YY.s x0)=YY x0:=by kernel_rfl
theorem YY.eq (x0:Z6):V.evBody YY.E YY.con Tryz.f94 (V.fl0 x0)=YY x0:=(YY.v0 x0).trans (YY.v x0)
theorem YY.ok :V.Valid Tryz.prog 94 YY.con:=
 V.fo (V.tab_cons YD.ok (V.tab_cons XW.ok (V.tab_cons Xy.ok (V.tab_cons XV.ok (V.tab_cons U0.ok (V.tab_cons Ur.ok (V.tab_cons XF.ok V.tab_nil))))))) Tryz.func94 (by kernel_rfl) (fun x y h=>(show V.evBody YY.E YY.con Tryz.f94 x=_ from YY.eq (V.p0_0 x)).trans (V.cfl (by kernel_rfl) h))
noncomputable abbrev XQ.con :V.Con:=⟨(.cons (.sl (V.ci .nil)) (V.ci .nil)),(.cons (.sl (V.ci .nil)) .nil),fun(x:List Int×Int)=>XQ x,[],[(true,2)],[(false,1)],[true],[]⟩
noncomputable abbrev XQ.E :V.Env:=V.mkE V.tys [] [] [] [] [] []
theorem XQ.eq (x0:Zc):V.evBody XQ.E XQ.con Tryz.f54 ((x0.1,x0.2):List Int×Int)=XQ x0:=by kernel_rfl
theorem XQ.ok :V.Valid Tryz.prog 54 XQ.con:=
 V.fo V.tab_nil Tryz.func54 (by kernel_rfl) (fun x y h=>(show V.evBody XQ.E XQ.con Tryz.f54 x=_ from XQ.eq x).trans (V.cfl (by kernel_rfl) h))
noncomputable abbrev WA.con :V.Con:=⟨(V.ci (V.ci .nil)),(V.ci .nil),fun(x:Int×Int)=>WA x.1 x.2,[],[(false,1),(false,1)],[(false,1)],[false],[]⟩
noncomputable abbrev WA.E :V.Env:=V.mkE V.tys [(82,YD.con)] [] [] [] [] []
theorem WA.eq (x0:Int)(x1:Int):V.evBody WA.E WA.con Tryz.f97 ((x0,x1):Int×Int)=WA x0 x1:=by kernel_rfl
theorem WA.ok :V.Valid Tryz.prog 97 WA.con:=
 V.fo (V.tab_cons YD.ok V.tab_nil) Tryz.func97 (by kernel_rfl) (fun x y h=>(show V.evBody WA.E WA.con Tryz.f97 x=_ from WA.eq x.1 x.2).trans (V.cfl (by kernel_rfl) h))
noncomputable abbrev ZP.con :V.Con:=⟨(.cons (.sl (V.ci .nil)) .nil),(V.ci .nil),fun(x:List Int)=>ZP x,[],[(false,1)],[(false,1)],[false],[]⟩
noncomputable abbrev ZP.E :V.Env:=V.mkE V.tys [(97,WA.con)] [(6,[3,6,7,8],[])] [] [] [] []
noncomputable abbrev ZP.kt (x0:List Int):V.Kt Int:=V.ktOf ZP.E ZP.con Tryz.f53 ((x0):List Int)
noncomputable abbrev ZP.s6 (x0:List Int)(v6_0:Int)(v6_2:Int)(v6_3:Int):V.St:=⟨[(3, .v false [.vi (v6_0)]),(6, .v false [.val (.sl (V.ci .nil) x0)]),(7, .v false [.vi (v6_2)]),(8, .v false [.vi (v6_3)])],[]⟩
theorem ZP.r6 (x0:List Int)(R:V.St→Option Int)(v6_0:Int)(v6_2:Int)(v6_3:Int):V.loopF ZP.E Tryz.f53.ntmps [1,1,0,1,0] [] (V.codeOf Tryz.f53) (ZP.kt x0) R (ZP.s6 x0 v6_0 v6_2 v6_3)=ZP.g6 x0 (fun v6_0 v6_2 v6_3=>R (ZP.s6 x0 v6_0 v6_2 v6_3)) v6_0 v6_2 v6_3:=by kernel_rfl
theorem ZP.e6 (x0:List Int):∀(n:Nat) (v6_0:Int) (v6_2:Int) (v6_3:Int),V.loopN (V.loopF ZP.E Tryz.f53.ntmps [1,1,0,1,0] [] (V.codeOf Tryz.f53) (ZP.kt x0)) n (ZP.s6 x0 v6_0 v6_2 v6_3)=ZP.l6 x0 n v6_0 v6_2 v6_3:=by
 intro n
 induction n with
 |zero=>intros;rw[V.loopN_z];rfl
 |succ n ih=>
  intro v6_0 v6_2 v6_3
  rw[V.loopN_s,ZP.r6]
  simp only[ih]
  first|exact(ZP.u6 ..).symm|rfl
theorem ZP.v (x0:List Int):V.evBody ZP.E ZP.con Tryz.f53 ((x0):List Int)=ZP.b x0 (fun v6_0 v6_2 v6_3=>V.loopN (V.loopF ZP.E Tryz.f53.ntmps [1,1,0,1,0] [] (V.codeOf Tryz.f53) (ZP.kt x0)) V.KK (ZP.s6 x0 v6_0 v6_2 v6_3)):=by kernel_rfl
theorem ZP.eq (x0:List Int):V.evBody ZP.E ZP.con Tryz.f53 ((x0):List Int)=ZP x0:=by
 rw[ZP.v]
 simp only[ZP.e6]
 rfl
theorem ZP.ok :V.Valid Tryz.prog 53 ZP.con:=
 V.fo (V.tab_cons WA.ok V.tab_nil) Tryz.func53 (by kernel_rfl) (fun x y h=>(show V.evBody ZP.E ZP.con Tryz.f53 x=_ from ZP.eq x).trans (V.cfl (by kernel_rfl) h))
noncomputable abbrev XZ.con :V.Con:=⟨(.cons (.sl (V.ci .nil)) (V.ci (V.ci .nil))),(V.ci .nil),fun(x:List Int×Int×Int)=>XZ (x.1,x.2.1) x.2.2,[],[(true,2),(false,1)],[(false,1)],[false],[]⟩
noncomputable abbrev XZ.E :V.Env:=V.mkE V.tys [(53,ZP.con),(54,XQ.con)] [] [] [] [] []
theorem XZ.eq (x0:Zc)(x1:Int):V.evBody XZ.E XZ.con Tryz.f21 ((x0.1,x0.2,x1):List Int×Int×Int)=XZ x0 x1:=by kernel_rfl
theorem XZ.ok :V.Valid Tryz.prog 21 XZ.con:=
 V.fo (V.tab_cons ZP.ok (V.tab_cons XQ.ok V.tab_nil)) Tryz.func21 (by kernel_rfl) (fun x y h=>(show V.evBody XZ.E XZ.con Tryz.f21 x=_ from XZ.eq (x.1,x.2.1) x.2.2).trans (V.cfl (by kernel_rfl) h))
noncomputable abbrev WH.con :V.Con:=⟨(.cons .bool .nil),(V.ci .nil),fun(x:Bool)=>WH x,[],[(false,1)],[(false,1)],[false],[]⟩
noncomputable abbrev WH.E :V.Env:=V.mkE V.tys [] [] [] [] [] []
theorem WH.eq (x0:Bool):V.evBody WH.E WH.con Tryz.f141 ((x0):Bool)=WH x0:=by kernel_rfl
theorem WH.ok :V.Valid Tryz.prog 141 WH.con:=
 V.fo V.tab_nil Tryz.func141 (by kernel_rfl) (fun x y h=>(show V.evBody WH.E WH.con Tryz.f141 x=_ from WH.eq x).trans (V.cfl (by kernel_rfl) h))
noncomputable abbrev YR.con :V.Con:=⟨(.cons (.sl (V.ci .nil)) (V.ci .nil)),(.cons (.sl (V.ci .nil)) .nil),fun(x:List Int×Int)=>YR x.1 x.2,[],[(false,1),(false,1)],[(false,1)],[true],[0]⟩
noncomputable abbrev YR.E :V.Env:=V.mkE V.tys [] [(7,[0,1],[])] [] [] [] []
noncomputable abbrev YR.kt (x0:List Int)(x1:Int):V.Kt (List Int):=V.ktOf YR.E YR.con Tryz.f180 ((x0,x1):List Int×Int)
noncomputable abbrev YR.s7 (x1:Int):V.St:=⟨[(0, .v false [.nil0]),(1, .v false [.vi (x1)])],[]⟩
theorem YR.r7 (x0:List Int)(x1:Int):V.joinF YR.E Tryz.f180.ntmps [1] [] (V.codeOf Tryz.f180) (YR.kt x0 x1) (YR.s7 x1)=YR.g7 x1:=by kernel_rfl
theorem YR.e7 (x0:List Int)(x1:Int):V.jn (V.joinF YR.E Tryz.f180.ntmps [1] [] (V.codeOf Tryz.f180) (YR.kt x0 x1)) (YR.s7 x1)=YR.l7 x1:=by
 rw[V.jn_eq,YR.r7]
 rfl
theorem YR.v (x0:List Int)(x1:Int):V.evBody YR.E YR.con Tryz.f180 ((x0,x1):List Int×Int)=YR.b x0 x1 (V.jn (V.joinF YR.E Tryz.f180.ntmps [1] [] (V.codeOf Tryz.f180) (YR.kt x0 x1)) (YR.s7 x1)):=by kernel_rfl
theorem YR.eq (x0:List Int)(x1:Int):V.evBody YR.E YR.con Tryz.f180 ((x0,x1):List Int×Int)=YR x0 x1:=by
 rw[YR.v]
 simp only[YR.e7]
 rfl
theorem YR.ok :V.Valid Tryz.prog 180 YR.con:=
 V.fo V.tab_nil Tryz.func180 (by kernel_rfl) (fun x y h=>(show V.evBody YR.E YR.con Tryz.f180 x=_ from YR.eq x.1 x.2).trans (V.cfl (by kernel_rfl) h))
noncomputable abbrev ZE.con :V.Con:=⟨(.cons (.sl (.cons (.sl (V.ci .nil)) .nil)) .nil),(.cons (.sl (V.ci .nil)) .nil),fun(x:List (List Int))=>ZE x,[],[(false,1)],[(false,1)],[true],[]⟩
noncomputable abbrev ZE.E :V.Env:=V.mkE V.tys [(180,YR.con)] [(6,[0,3,9,10,11],[]),(22,[6,25,26,27],[])] [] [] [] []
noncomputable abbrev ZE.kt (x0:List (List Int)):V.Kt (List Int):=V.ktOf ZE.E ZE.con Tryz.f140 ((x0):List (List Int))
noncomputable abbrev ZE.s22 (x0:List (List Int))(v22_1:Int)(v22_2:Int)(v22_3:List Int):V.St:=⟨[(6, .v false [.ref 64000140800384]),(25, .v false [.val (.sl (.cons (.sl (V.ci .nil)) .nil) x0)]),(26, .v false [.vi (v22_1)]),(27, .v false [.vi (v22_2)])],[(64000140800384, .row (V.ci .nil) true v22_3)]⟩
noncomputable abbrev ZE.s6 (x0:List (List Int))(v6_1:Int)(v6_3:Int)(v6_4:Int):V.St:=⟨[(0, .v false [.val (.sl (.cons (.sl (V.ci .nil)) .nil) x0)]),(3, .v false [.vi (v6_1)]),(9, .v false [.val (.sl (.cons (.sl (V.ci .nil)) .nil) x0)]),(10, .v false [.vi (v6_3)]),(11, .v false [.vi (v6_4)])],[]⟩
theorem ZE.r22 (x0:List (List Int))(R:V.St→Option (List Int))(v22_1:Int)(v22_2:Int)(v22_3:List Int):V.loopF ZE.E Tryz.f140.ntmps [1,1,1,1,0,1,0] [] (V.codeOf Tryz.f140) (ZE.kt x0) R (ZE.s22 x0 v22_1 v22_2 v22_3)=ZE.g22 x0 (fun v22_1 v22_2 v22_3=>R (ZE.s22 x0 v22_1 v22_2 v22_3)) v22_1 v22_2 v22_3:=by kernel_rfl
theorem ZE.e22 (x0:List (List Int)):∀(n:Nat) (v22_1:Int) (v22_2:Int) (v22_3:List Int),V.loopN (V.loopF ZE.E Tryz.f140.ntmps [1,1,1,1,0,1,0] [] (V.codeOf Tryz.f140) (ZE.kt x0)) n (ZE.s22 x0 v22_1 v22_2 v22_3)=ZE.l22 x0 n v22_1 v22_2 v22_3:=by
 intro n
 induction n with
 |zero=>intros;rw[V.loopN_z];rfl
 |succ n ih=>
  intro v22_1 v22_2 v22_3
  rw[V.loopN_s,ZE.r22]
  simp only[ih]
  first|exact(ZE.u22 ..).symm|rfl
theorem ZE.r6 (x0:List (List Int))(R:V.St→Option (List Int))(v6_1:Int)(v6_3:Int)(v6_4:Int):V.loopF ZE.E Tryz.f140.ntmps [1,1,0,1,0] [] (V.codeOf Tryz.f140) (ZE.kt x0) R (ZE.s6 x0 v6_1 v6_3 v6_4)=ZE.g6 x0 (fun v6_1 v6_3 v6_4=>R (ZE.s6 x0 v6_1 v6_3 v6_4)) (fun v22_1 v22_2 v22_3=>V.loopN (V.loopF ZE.E Tryz.f140.ntmps [1,1,1,1,0,1,0] [] (V.codeOf Tryz.f140) (ZE.kt x0)) V.KK (ZE.s22 x0 v22_1 v22_2 v22_3)) v6_1 v6_3 v6_4:=by kernel_rfl
theorem ZE.e6 (x0:List (List Int)):∀(n:Nat) (v6_1:Int) (v6_3:Int) (v6_4:Int),V.loopN (V.loopF ZE.E Tryz.f140.ntmps [1,1,0,1,0] [] (V.codeOf Tryz.f140) (ZE.kt x0)) n (ZE.s6 x0 v6_1 v6_3 v6_4)=ZE.l6 x0 n v6_1 v6_3 v6_4:=by
 intro n
 induction n with
 |zero=>intros;rw[V.loopN_z];rfl
 |succ n ih=>
  intro v6_1 v6_3 v6_4
  rw[V.loopN_s,ZE.r6]
  simp only[ZE.e22,ih]
  first|exact(ZE.u6 ..).symm|rfl
theorem ZE.v (x0:List (List Int)):V.evBody ZE.E ZE.con Tryz.f140 ((x0):List (List Int))=ZE.b x0 (fun v6_1 v6_3 v6_4=>V.loopN (V.loopF ZE.E Tryz.f140.ntmps [1,1,0,1,0] [] (V.codeOf Tryz.f140) (ZE.kt x0)) V.KK (ZE.s6 x0 v6_1 v6_3 v6_4)):=by kernel_rfl
theorem ZE.eq (x0:List (List Int)):V.evBody ZE.E ZE.con Tryz.f140 ((x0):List (List Int))=ZE x0:=by
 rw[ZE.v]
 simp only[ZE.e6]
 rfl
theorem ZE.ok :V.Valid Tryz.prog 140 ZE.con:=
 V.fo (V.tab_cons YR.ok V.tab_nil) Tryz.func140 (by kernel_rfl) (fun x y h=>(show V.evBody ZE.E ZE.con Tryz.f140 x=_ from ZE.eq x).trans (V.cfl (by kernel_rfl) h))
noncomputable abbrev YZ.con :V.Con:=⟨V.A0,(.cons (.sl (V.ci .nil)) .nil),fun(x:V.D0)=>YZ (V.p0_0 x),[],[(true,16)],[(false,1)],[true],[]⟩
noncomputable abbrev YZ.E :V.Env:=V.mkE V.tys [(54,XQ.con),(140,ZE.con),(141,WH.con)] [] [(1,33)] [] [] []
noncomputable abbrev YZ.kt (x0:Z6):V.Kt (List Int):=V.ktOf YZ.E YZ.con Tryz.f88 (V.fl0 x0)
noncomputable abbrev YZ.s (x0:Z6):V.St:=⟨[(0, .v true (V.lsHead x0))],[]⟩
theorem YZ.v0 (x0:Z6):V.evBody YZ.E YZ.con Tryz.f88 (V.fl0 x0)=V.evC YZ.E Tryz.f88.ntmps (V.codeOf Tryz.f88) (YZ.kt x0) (YZ.s x0):=by kernel_rfl
theorem YZ.v (x0:Z6):V.evC YZ.E Tryz.f88.ntmps (V.codeOf Tryz.f88) (YZ.kt x0) (YZ.s x0)=YZ x0:=by kernel_rfl
theorem YZ.eq (x0:Z6):V.evBody YZ.E YZ.con Tryz.f88 (V.fl0 x0)=YZ x0:=(YZ.v0 x0).trans (YZ.v x0)
theorem YZ.ok :V.Valid Tryz.prog 88 YZ.con:=
 V.fo (V.tab_cons XQ.ok (V.tab_cons ZE.ok (V.tab_cons WH.ok V.tab_nil))) Tryz.func88 (by kernel_rfl) (fun x y h=>(show V.evBody YZ.E YZ.con Tryz.f88 x=_ from YZ.eq (V.p0_0 x)).trans (V.cfl (by kernel_rfl) h))
noncomputable abbrev WW.con :V.Con:=⟨(V.ci (.cons (.sl (V.ci .nil)) .nil)),(V.ci .nil),fun(x:Int×List Int)=>WW x.1 x.2,[],[(false,1),(false,1)],[(false,1)],[false],[]⟩
noncomputable abbrev WW.E :V.Env:=V.mkE V.tys [(53,ZP.con),(140,ZE.con)] [] [] [128320] [] []
theorem WW.eq (x0:Int)(x1:List Int):V.evBody WW.E WW.con Tryz.f184 ((x0,x1):Int×List Int)=WW x0 x1:=by kernel_rfl
theorem WW.ok :V.Valid Tryz.prog 184 WW.con:=
 V.fo (V.tab_cons ZP.ok (V.tab_cons ZE.ok V.tab_nil)) Tryz.func184 (by kernel_rfl) (fun x y h=>(show V.evBody WW.E WW.con Tryz.f184 x=_ from WW.eq x.1 x.2).trans (V.cfl (by kernel_rfl) h))
noncomputable abbrev Wo.con :V.Con:=⟨(V.ci (.cons (.sl (V.ci .nil)) .nil)),(V.ci .nil),fun(x:Int×List Int)=>Wo x.1 x.2,[],[(false,1),(false,1)],[(false,1)],[false],[]⟩
noncomputable abbrev Wo.E :V.Env:=V.mkE V.tys [(184,WW.con)] [] [] [] [] []
theorem Wo.eq (x0:Int)(x1:List Int):V.evBody Wo.E Wo.con Tryz.f151 ((x0,x1):Int×List Int)=Wo x0 x1:=by kernel_rfl
theorem Wo.ok :V.Valid Tryz.prog 151 Wo.con:=
 V.fo (V.tab_cons WW.ok V.tab_nil) Tryz.func151 (by kernel_rfl) (fun x y h=>(show V.evBody Wo.E Wo.con Tryz.f151 x=_ from Wo.eq x.1 x.2).trans (V.cfl (by kernel_rfl) h))
noncomputable abbrev WU.con :V.Con:=⟨(V.ci (V.ci (.cons (.sl (V.ci .nil)) .nil))),(.cons .bool .nil),fun(x:Int×Int×List Int)=>WU (x.1,x.2.1) x.2.2,[],[(true,2),(false,1)],[(false,1)],[false],[]⟩
noncomputable abbrev WU.E :V.Env:=V.mkE V.tys [(151,Wo.con),(182,Wg.con)] [] [(1,10)] [] [] []
theorem WU.eq (x0:Zb)(x1:List Int):V.evBody WU.E WU.con Tryz.f206 ((x0.1,x0.2,x1):Int×Int×List Int)=WU x0 x1:=by kernel_rfl
theorem WU.ok :V.Valid Tryz.prog 206 WU.con:=
 V.fo (V.tab_cons Wo.ok (V.tab_cons Wg.ok V.tab_nil)) Tryz.func206 (by kernel_rfl) (fun x y h=>(show V.evBody WU.E WU.con Tryz.f206 x=_ from WU.eq (x.1,x.2.1) x.2.2).trans (V.cfl (by kernel_rfl) h))
noncomputable abbrev Up.con :V.Con:=⟨(V.ci (V.ci (.cons (.ptr (V.ci .nil)) (.cons (.ptr (.cons (.sl (V.ci .nil)) .nil)) .nil)))),(.cons .bool .nil),fun(x:Int×Int×Int×List Int)=>Up (x.1,x.2.1) x.2.2.1 x.2.2.2,[],[(true,2),(false,1),(false,1)],[(false,1)],[false],[]⟩
noncomputable abbrev Up.E :V.Env:=V.mkE V.tys [(206,WU.con)] [] [] [] [] []
theorem Up.eq (x0:Zb)(x1:Int)(x2:List Int):V.evBody Up.E Up.con Tryz.f205 ((x0.1,x0.2,x1,x2):Int×Int×Int×List Int)=Up x0 x1 x2:=by kernel_rfl
theorem Up.ok :V.Valid Tryz.prog 205 Up.con:=
 V.fo (V.tab_cons WU.ok V.tab_nil) Tryz.func205 (by kernel_rfl) (fun x y h=>(show V.evBody Up.E Up.con Tryz.f205 x=_ from Up.eq (x.1,x.2.1) x.2.2.1 x.2.2.2).trans (V.cfl (by kernel_rfl) h))
noncomputable abbrev Y9.con :V.Con:=⟨(.cons (.sl (V.ci (V.ci .nil))) (.cons (.fn 205 false .nil (.cons (.ptr (V.ci .nil)) (.cons (.ptr (.cons (.sl (V.ci .nil)) .nil)) .nil))) .nil)),(V.ci .nil),fun(x:List Zb×(Unit)×(Int×List Int))=>Y9 x.1 x.2,[],[(false,1),(false,1)],[(false,1)],[false],[]⟩
noncomputable abbrev Y9.E :V.Env:=V.mkE V.tys [(205,Up.con)] [(4,[0,1,7,8],[])] [] [] [] []
noncomputable abbrev Y9.kt (x0:List Zb)(x1:(Unit)×(Int×List Int)):V.Kt Int:=V.ktOf Y9.E Y9.con Tryz.f208 ((x0,x1):List Zb×(Unit)×(Int×List Int))
noncomputable abbrev Y9.s4 (x0:List Zb)(x1:(Unit)×(Int×List Int))(v4_2:Int)(v4_3:Int):V.St:=⟨[(0, .v false [.val (.sl (V.ci (V.ci .nil)) x0)]),(1, .v false [.val (.fn 205 false .nil (.cons (.ptr (V.ci .nil)) (.cons (.ptr (.cons (.sl (V.ci .nil)) .nil)) .nil)) () x1.2)]),(7, .v false [.vi (v4_2)]),(8, .v false [.vi (v4_3)])],[]⟩
theorem Y9.r4 (x0:List Zb)(x1:(Unit)×(Int×List Int))(R:V.St→Option Int)(v4_2:Int)(v4_3:Int):V.loopF Y9.E Tryz.f208.ntmps [1,0,1,0] [] (V.codeOf Tryz.f208) (Y9.kt x0 x1) R (Y9.s4 x0 x1 v4_2 v4_3)=Y9.g4 x0 x1 (fun v4_2 v4_3=>R (Y9.s4 x0 x1 v4_2 v4_3)) v4_2 v4_3:=by kernel_rfl
theorem Y9.e4 (x0:List Zb)(x1:(Unit)×(Int×List Int)):∀(n:Nat) (v4_2:Int) (v4_3:Int),V.loopN (V.loopF Y9.E Tryz.f208.ntmps [1,0,1,0] [] (V.codeOf Tryz.f208) (Y9.kt x0 x1)) n (Y9.s4 x0 x1 v4_2 v4_3)=Y9.l4 x0 x1 n v4_2 v4_3:=by
 intro n
 induction n with
 |zero=>intros;rw[V.loopN_z];rfl
 |succ n ih=>
  intro v4_2 v4_3
  rw[V.loopN_s,Y9.r4]
  simp only[ih]
  first|exact(Y9.u4 ..).symm|rfl
theorem Y9.v (x0:List Zb)(x1:(Unit)×(Int×List Int)):V.evBody Y9.E Y9.con Tryz.f208 ((x0,x1):List Zb×(Unit)×(Int×List Int))=Y9.b x0 x1 (fun v4_2 v4_3=>V.loopN (V.loopF Y9.E Tryz.f208.ntmps [1,0,1,0] [] (V.codeOf Tryz.f208) (Y9.kt x0 x1)) V.KK (Y9.s4 x0 x1 v4_2 v4_3)):=by kernel_rfl
theorem Y9.eq (x0:List Zb)(x1:(Unit)×(Int×List Int)):V.evBody Y9.E Y9.con Tryz.f208 ((x0,x1):List Zb×(Unit)×(Int×List Int))=Y9 x0 x1:=by
 rw[Y9.v]
 simp only[Y9.e4]
 rfl
theorem Y9.ok :V.Valid Tryz.prog 208 Y9.con:=
 V.fo (V.tab_cons Up.ok V.tab_nil) Tryz.func208 (by kernel_rfl) (fun x y h=>(show V.evBody Y9.E Y9.con Tryz.f208 x=_ from Y9.eq x.1 x.2).trans (V.cfl (by kernel_rfl) h))
noncomputable abbrev U7.con :V.Con:=⟨(.cons (.sl (V.ci (V.ci .nil))) (.cons (.fn 205 false .nil (.cons (.ptr (V.ci .nil)) (.cons (.ptr (.cons (.sl (V.ci .nil)) .nil)) .nil))) .nil)),(.cons .bool .nil),fun(x:List Zb×(Unit)×(Int×List Int))=>U7 x.1 x.2,[],[(false,1),(false,1)],[(false,1)],[false],[]⟩
noncomputable abbrev U7.E :V.Env:=V.mkE V.tys [(208,Y9.con)] [] [] [] [] []
theorem U7.eq (x0:List Zb)(x1:(Unit)×(Int×List Int)):V.evBody U7.E U7.con Tryz.f204 ((x0,x1):List Zb×(Unit)×(Int×List Int))=U7 x0 x1:=by kernel_rfl
theorem U7.ok :V.Valid Tryz.prog 204 U7.con:=
 V.fo (V.tab_cons Y9.ok V.tab_nil) Tryz.func204 (by kernel_rfl) (fun x y h=>(show V.evBody U7.E U7.con Tryz.f204 x=_ from U7.eq x.1 x.2).trans (V.cfl (by kernel_rfl) h))
noncomputable abbrev Yl.con :V.Con:=⟨(.cons (.sl (V.ci .nil)) (V.ci (.cons (.sl (V.ci .nil)) (.cons (.sl (V.ci (V.ci .nil))) .nil)))),(V.ci .nil),fun(x:List Int×Int×List Int×List Zb)=>Yl (x.1,x.2.1) x.2.2.1 x.2.2.2,[],[(true,2),(false,1),(false,1)],[(false,1)],[false],[]⟩
noncomputable abbrev Yl.E :V.Env:=V.mkE V.tys [(204,U7.con)] [(6,[2,4,7,11,12,13],[])] [] [] [] []
noncomputable abbrev Yl.kt (x0:Zc)(x1:List Int)(x2:List Zb):V.Kt Int:=V.ktOf Yl.E Yl.con Tryz.f199 ((x0.1,x0.2,x1,x2):List Int×Int×List Int×List Zb)
noncomputable abbrev Yl.s6 (x0:Zc)(x1:List Int)(x2:List Zb)(v6_1:Int)(v6_3:Int)(v6_4:Int):V.St:=⟨[(2, .v false [.val (.sl (V.ci (V.ci .nil)) x2)]),(4, .v false [.ptr 64064 0]),(7, .v false [.vi (v6_1)]),(11, .v false [.val (.sl (V.ci .nil) x0.1)]),(12, .v false [.vi (v6_3)]),(13, .v false [.vi (v6_4)])],[(64064, .box [.val (.sl (V.ci .nil) x1)])]⟩
theorem Yl.r6 (x0:Zc)(x1:List Int)(x2:List Zb)(R:V.St→Option Int)(v6_1:Int)(v6_3:Int)(v6_4:Int):V.loopF Yl.E Tryz.f199.ntmps [1,1,0,1,0] [] (V.codeOf Tryz.f199) (Yl.kt x0 x1 x2) R (Yl.s6 x0 x1 x2 v6_1 v6_3 v6_4)=Yl.g6 x0 x1 x2 (fun v6_1 v6_3 v6_4=>R (Yl.s6 x0 x1 x2 v6_1 v6_3 v6_4)) v6_1 v6_3 v6_4:=by kernel_rfl
theorem Yl.e6 (x0:Zc)(x1:List Int)(x2:List Zb):∀(n:Nat) (v6_1:Int) (v6_3:Int) (v6_4:Int),V.loopN (V.loopF Yl.E Tryz.f199.ntmps [1,1,0,1,0] [] (V.codeOf Tryz.f199) (Yl.kt x0 x1 x2)) n (Yl.s6 x0 x1 x2 v6_1 v6_3 v6_4)=Yl.l6 x0 x1 x2 n v6_1 v6_3 v6_4:=by
 intro n
 induction n with
 |zero=>intros;rw[V.loopN_z];rfl
 |succ n ih=>
  intro v6_1 v6_3 v6_4
  rw[V.loopN_s,Yl.r6]
  simp only[ih]
  first|exact(Yl.u6 ..).symm|rfl
theorem Yl.v (x0:Zc)(x1:List Int)(x2:List Zb):V.evBody Yl.E Yl.con Tryz.f199 ((x0.1,x0.2,x1,x2):List Int×Int×List Int×List Zb)=Yl.b x0 x1 x2 (fun v6_1 v6_3 v6_4=>V.loopN (V.loopF Yl.E Tryz.f199.ntmps [1,1,0,1,0] [] (V.codeOf Tryz.f199) (Yl.kt x0 x1 x2)) V.KK (Yl.s6 x0 x1 x2 v6_1 v6_3 v6_4)):=by kernel_rfl
theorem Yl.eq (x0:Zc)(x1:List Int)(x2:List Zb):V.evBody Yl.E Yl.con Tryz.f199 ((x0.1,x0.2,x1,x2):List Int×Int×List Int×List Zb)=Yl x0 x1 x2:=by
 rw[Yl.v]
 simp only[Yl.e6]
 rfl
theorem Yl.ok :V.Valid Tryz.prog 199 Yl.con:=
 V.fo (V.tab_cons U7.ok V.tab_nil) Tryz.func199 (by kernel_rfl) (fun x y h=>(show V.evBody Yl.E Yl.con Tryz.f199 x=_ from Yl.eq (x.1,x.2.1) x.2.2.1 x.2.2.2).trans (V.cfl (by kernel_rfl) h))
noncomputable abbrev WV.con :V.Con:=⟨(.cons (.sl (V.ci .nil)) (V.ci (.cons (.sl (V.ci .nil)) (.cons (.sl (V.ci (V.ci .nil))) .nil)))),(.cons .bool .nil),fun(x:List Int×Int×List Int×List Zb)=>WV (x.1,x.2.1) x.2.2.1 x.2.2.2,[],[(true,2),(false,1),(false,1)],[(false,1)],[false],[]⟩
noncomputable abbrev WV.E :V.Env:=V.mkE V.tys [(146,XV.con),(199,Yl.con)] [] [(1,9)] [] [] []
theorem WV.eq (x0:Zc)(x1:List Int)(x2:List Zb):V.evBody WV.E WV.con Tryz.f189 ((x0.1,x0.2,x1,x2):List Int×Int×List Int×List Zb)=WV x0 x1 x2:=by kernel_rfl
theorem WV.ok :V.Valid Tryz.prog 189 WV.con:=
 V.fo (V.tab_cons XV.ok (V.tab_cons Yl.ok V.tab_nil)) Tryz.func189 (by kernel_rfl) (fun x y h=>(show V.evBody WV.E WV.con Tryz.f189 x=_ from WV.eq (x.1,x.2.1) x.2.2.1 x.2.2.2).trans (V.cfl (by kernel_rfl) h))
noncomputable abbrev X1.con :V.Con:=⟨V.A11,(.cons .bool .nil),fun(x:V.D11)=>X1 (V.p11_0 x) (V.p11_1 x),[],[(true,17),(true,2)],[(false,1)],[false],[]⟩
noncomputable abbrev X1.E :V.Env:=V.mkE V.tys [(88,YZ.con),(189,WV.con)] [] [(1,6)] [] [] []
noncomputable abbrev X1.kt (x0:Z5)(x1:Zc):V.Kt Bool:=V.ktOf X1.E X1.con Tryz.f166 (V.fl11 x0 x1)
noncomputable abbrev X1.s (x0:Z5)(x1:Zc):V.St:=⟨[(0, .v true (V.lsSigned x0)),(1, .v true [.val (.sl (V.ci .nil) x1.1), .vi (x1.2)])],[]⟩
theorem X1.v0 (x0:Z5)(x1:Zc):V.evBody X1.E X1.con Tryz.f166 (V.fl11 x0 x1)=V.evC X1.E Tryz.f166.ntmps (V.codeOf Tryz.f166) (X1.kt x0 x1) (X1.s x0 x1):=by kernel_rfl
theorem X1.v (x0:Z5)(x1:Zc):V.evC X1.E Tryz.f166.ntmps (V.codeOf Tryz.f166) (X1.kt x0 x1) (X1.s x0 x1)=X1 x0 x1:=by kernel_rfl
theorem X1.eq (x0:Z5)(x1:Zc):V.evBody X1.E X1.con Tryz.f166 (V.fl11 x0 x1)=X1 x0 x1:=(X1.v0 x0 x1).trans (X1.v x0 x1)
theorem X1.ok :V.Valid Tryz.prog 166 X1.con:=
 V.fo (V.tab_cons YZ.ok (V.tab_cons WV.ok V.tab_nil)) Tryz.func166 (by kernel_rfl) (fun x y h=>(show V.evBody X1.E X1.con Tryz.f166 x=_ from X1.eq (V.p11_0 x) (V.p11_1 x)).trans (V.cfl (by kernel_rfl) h))
noncomputable abbrev Xq.con :V.Con:=⟨V.A2,(.cons .bool .nil),fun(x:V.D2)=>Xq (V.p2_0 x),[],[(true,17)],[(false,1)],[false],[]⟩
noncomputable abbrev Xq.E :V.Env:=V.mkE V.tys [(21,XZ.con),(94,YY.con),(166,X1.con)] [] [(2,31)] [] [] []
noncomputable abbrev Xq.kt (x0:Z5):V.Kt Bool:=V.ktOf Xq.E Xq.con Tryz.f133 (V.fl2 x0)
noncomputable abbrev Xq.s (x0:Z5):V.St:=⟨[(0, .v true (V.lsSigned x0))],[]⟩
theorem Xq.v0 (x0:Z5):V.evBody Xq.E Xq.con Tryz.f133 (V.fl2 x0)=V.evC Xq.E Tryz.f133.ntmps (V.codeOf Tryz.f133) (Xq.kt x0) (Xq.s x0):=by kernel_rfl
theorem Xq.v (x0:Z5):V.evC Xq.E Tryz.f133.ntmps (V.codeOf Tryz.f133) (Xq.kt x0) (Xq.s x0)=Xq x0:=by kernel_rfl
theorem Xq.eq (x0:Z5):V.evBody Xq.E Xq.con Tryz.f133 (V.fl2 x0)=Xq x0:=(Xq.v0 x0).trans (Xq.v x0)
theorem Xq.ok :V.Valid Tryz.prog 133 Xq.con:=
 V.fo (V.tab_cons XZ.ok (V.tab_cons YY.ok (V.tab_cons X1.ok V.tab_nil))) Tryz.func133 (by kernel_rfl) (fun x y h=>(show V.evBody Xq.E Xq.con Tryz.f133 x=_ from Xq.eq (V.p2_0 x)).trans (V.cfl (by kernel_rfl) h))
noncomputable abbrev Xe.con :V.Con:=⟨V.A0,(V.ci .nil),fun(x:V.D0)=>Xe (V.p0_0 x),[],[(true,16)],[(false,1)],[false],[]⟩
noncomputable abbrev Xe.E :V.Env:=V.mkE V.tys [(53,ZP.con),(88,YZ.con)] [] [] [] [] []
noncomputable abbrev Xe.kt (x0:Z6):V.Kt Int:=V.ktOf Xe.E Xe.con Tryz.f142 (V.fl0 x0)
noncomputable abbrev Xe.s (x0:Z6):V.St:=⟨[(0, .v true (V.lsHead x0))],[]⟩
theorem Xe.v0 (x0:Z6):V.evBody Xe.E Xe.con Tryz.f142 (V.fl0 x0)=V.evC Xe.E Tryz.f142.ntmps (V.codeOf Tryz.f142) (Xe.kt x0) (Xe.s x0):=by kernel_rfl
theorem Xe.v (x0:Z6):V.evC Xe.E Tryz.f142.ntmps (V.codeOf Tryz.f142) (Xe.kt x0) (Xe.s x0)=Xe x0:=by kernel_rfl
theorem Xe.eq (x0:Z6):V.evBody Xe.E Xe.con Tryz.f142 (V.fl0 x0)=Xe x0:=(Xe.v0 x0).trans (Xe.v x0)
theorem Xe.ok :V.Valid Tryz.prog 142 Xe.con:=
 V.fo (V.tab_cons ZP.ok (V.tab_cons YZ.ok V.tab_nil)) Tryz.func142 (by kernel_rfl) (fun x y h=>(show V.evBody Xe.E Xe.con Tryz.f142 x=_ from Xe.eq (V.p0_0 x)).trans (V.cfl (by kernel_rfl) h))
noncomputable abbrev Xs.con :V.Con:=⟨V.A3,(.cons .bool .nil),fun(x:V.D3)=>Xs (V.p3_0 x) (V.p3_1 x),[],[(true,16),(true,16)],[(false,1)],[false],[]⟩
noncomputable abbrev Xs.E :V.Env:=V.mkE V.tys [(142,Xe.con)] [] [(1,25)] [] [] []
noncomputable abbrev Xs.kt (x0:Z6)(x1:Z6):V.Kt Bool:=V.ktOf Xs.E Xs.con Tryz.f119 (V.fl3 x0 x1)
noncomputable abbrev Xs.s (x0:Z6)(x1:Z6):V.St:=⟨[(0, .v true (V.lsHead x0)),(1, .v true (V.lsHead x1))],[]⟩
theorem Xs.v0 (x0:Z6)(x1:Z6):V.evBody Xs.E Xs.con Tryz.f119 (V.fl3 x0 x1)=V.evC Xs.E Tryz.f119.ntmps (V.codeOf Tryz.f119) (Xs.kt x0 x1) (Xs.s x0 x1):=by kernel_rfl
theorem Xs.v (x0:Z6)(x1:Z6):V.evC Xs.E Tryz.f119.ntmps (V.codeOf Tryz.f119) (Xs.kt x0 x1) (Xs.s x0 x1)=Xs x0 x1:=by kernel_rfl
theorem Xs.eq (x0:Z6)(x1:Z6):V.evBody Xs.E Xs.con Tryz.f119 (V.fl3 x0 x1)=Xs x0 x1:=(Xs.v0 x0 x1).trans (Xs.v x0 x1)
theorem Xs.ok :V.Valid Tryz.prog 119 Xs.con:=
 V.fo (V.tab_cons Xe.ok V.tab_nil) Tryz.func119 (by kernel_rfl) (fun x y h=>(show V.evBody Xs.E Xs.con Tryz.f119 x=_ from Xs.eq (V.p3_0 x) (V.p3_1 x)).trans (V.cfl (by kernel_rfl) h))
noncomputable abbrev Xt.con :V.Con:=⟨V.A4,(V.ci .nil),fun(x:V.D4)=>Xt (V.p4_0 x) (V.p4_1 x),[],[(true,16),(true,17)],[(false,1)],[false],[]⟩
noncomputable abbrev Xt.E :V.Env:=V.mkE V.tys [(166,X1.con)] [] [] [] [] []
noncomputable abbrev Xt.kt (x0:Z6)(x1:Z5):V.Kt Int:=V.ktOf Xt.E Xt.con Tryz.f120 (V.fl4 x0 x1)
noncomputable abbrev Xt.s (x0:Z6)(x1:Z5):V.St:=⟨[(0, .v true (V.lsHead x0)),(1, .v true (V.lsSigned x1))],[]⟩
theorem Xt.v0 (x0:Z6)(x1:Z5):V.evBody Xt.E Xt.con Tryz.f120 (V.fl4 x0 x1)=V.evC Xt.E Tryz.f120.ntmps (V.codeOf Tryz.f120) (Xt.kt x0 x1) (Xt.s x0 x1):=by kernel_rfl
theorem Xt.v (x0:Z6)(x1:Z5):V.evC Xt.E Tryz.f120.ntmps (V.codeOf Tryz.f120) (Xt.kt x0 x1) (Xt.s x0 x1)=Xt x0 x1:=by kernel_rfl
theorem Xt.eq (x0:Z6)(x1:Z5):V.evBody Xt.E Xt.con Tryz.f120 (V.fl4 x0 x1)=Xt x0 x1:=(Xt.v0 x0 x1).trans (Xt.v x0 x1)
theorem Xt.ok :V.Valid Tryz.prog 120 Xt.con:=
 V.fo (V.tab_cons X1.ok V.tab_nil) Tryz.func120 (by kernel_rfl) (fun x y h=>(show V.evBody Xt.E Xt.con Tryz.f120 x=_ from Xt.eq (V.p4_0 x) (V.p4_1 x)).trans (V.cfl (by kernel_rfl) h))
noncomputable abbrev ZW.con :V.Con:=⟨(.cons (.sl (V.ci .nil)) (.cons (.sl (V.ci .nil)) .nil)),(.cons .bool .nil),fun(x:List Int×List Int)=>ZW x.1 x.2,[],[(false,1),(false,1)],[(false,1)],[false],[]⟩
noncomputable abbrev ZW.E :V.Env:=V.mkE V.tys [] [(8,[0,1,12,13],[])] [(6,8)] [] [] []
noncomputable abbrev ZW.kt (x0:List Int)(x1:List Int):V.Kt Bool:=V.ktOf ZW.E ZW.con Tryz.f87 ((x0,x1):List Int×List Int)
noncomputable abbrev ZW.s8 (x0:List Int)(x1:List Int)(v8_2:Int)(v8_3:Int):V.St:=⟨[(0, .v false [.val (.sl (V.ci .nil) x0)]),(1, .v false [.val (.sl (V.ci .nil) x1)]),(12, .v false [.vi (v8_2)]),(13, .v false [.vi (v8_3)])],[]⟩
theorem ZW.r8 (x0:List Int)(x1:List Int)(R:V.St→Option Bool)(v8_2:Int)(v8_3:Int):V.loopF ZW.E Tryz.f87.ntmps [1,1,0,1,0] [] (V.codeOf Tryz.f87) (ZW.kt x0 x1) R (ZW.s8 x0 x1 v8_2 v8_3)=ZW.g8 x0 x1 (fun v8_2 v8_3=>R (ZW.s8 x0 x1 v8_2 v8_3)) v8_2 v8_3:=by kernel_rfl
theorem ZW.e8 (x0:List Int)(x1:List Int):∀(n:Nat) (v8_2:Int) (v8_3:Int),V.loopN (V.loopF ZW.E Tryz.f87.ntmps [1,1,0,1,0] [] (V.codeOf Tryz.f87) (ZW.kt x0 x1)) n (ZW.s8 x0 x1 v8_2 v8_3)=ZW.l8 x0 x1 n v8_2 v8_3:=by
 intro n
 induction n with
 |zero=>intros;rw[V.loopN_z];rfl
 |succ n ih=>
  intro v8_2 v8_3
  rw[V.loopN_s,ZW.r8]
  simp only[ih]
  first|exact(ZW.u8 ..).symm|rfl
theorem ZW.v (x0:List Int)(x1:List Int):V.evBody ZW.E ZW.con Tryz.f87 ((x0,x1):List Int×List Int)=ZW.b x0 x1 (fun v8_2 v8_3=>V.loopN (V.loopF ZW.E Tryz.f87.ntmps [1,1,0,1,0] [] (V.codeOf Tryz.f87) (ZW.kt x0 x1)) V.KK (ZW.s8 x0 x1 v8_2 v8_3)):=by kernel_rfl
theorem ZW.eq (x0:List Int)(x1:List Int):V.evBody ZW.E ZW.con Tryz.f87 ((x0,x1):List Int×List Int)=ZW x0 x1:=by
 rw[ZW.v]
 simp only[ZW.e8]
 rfl
theorem ZW.ok :V.Valid Tryz.prog 87 ZW.con:=
 V.fo V.tab_nil Tryz.func87 (by kernel_rfl) (fun x y h=>(show V.evBody ZW.E ZW.con Tryz.f87 x=_ from ZW.eq x.1 x.2).trans (V.cfl (by kernel_rfl) h))
noncomputable abbrev XC.con :V.Con:=⟨(.cons (.sl (V.ci .nil)) (V.ci (.cons (.sl (V.ci .nil)) (V.ci .nil)))),(.cons .bool .nil),fun(x:List Int×Int×List Int×Int)=>XC (x.1,x.2.1) x.2.2,[],[(true,2),(true,2)],[(false,1)],[false],[]⟩
noncomputable abbrev XC.E :V.Env:=V.mkE V.tys [(87,ZW.con)] [] [] [] [] []
theorem XC.eq (x0:Zc)(x1:Zc):V.evBody XC.E XC.con Tryz.f86 ((x0.1,x0.2,x1.1,x1.2):List Int×Int×List Int×Int)=XC x0 x1:=by kernel_rfl
theorem XC.ok :V.Valid Tryz.prog 86 XC.con:=
 V.fo (V.tab_cons ZW.ok V.tab_nil) Tryz.func86 (by kernel_rfl) (fun x y h=>(show V.evBody XC.E XC.con Tryz.f86 x=_ from XC.eq (x.1,x.2.1) x.2.2).trans (V.cfl (by kernel_rfl) h))
noncomputable abbrev Xi.con :V.Con:=⟨V.A3,(.cons .bool .nil),fun(x:V.D3)=>Xi (V.p3_0 x) (V.p3_1 x),[],[(true,16),(true,16)],[(false,1)],[false],[]⟩
noncomputable abbrev Xi.E :V.Env:=V.mkE V.tys [] [] [] [] [] []
noncomputable abbrev Xi.kt (x0:Z6)(x1:Z6):V.Kt Bool:=V.ktOf Xi.E Xi.con Tryz.f167 (V.fl3 x0 x1)
noncomputable abbrev Xi.s (x0:Z6)(x1:Z6):V.St:=⟨[(0, .v true (V.lsHead x0)),(1, .v true (V.lsHead x1))],[]⟩
theorem Xi.v0 (x0:Z6)(x1:Z6):V.evBody Xi.E Xi.con Tryz.f167 (V.fl3 x0 x1)=V.evC Xi.E Tryz.f167.ntmps (V.codeOf Tryz.f167) (Xi.kt x0 x1) (Xi.s x0 x1):=by kernel_rfl
theorem Xi.v (x0:Z6)(x1:Z6):V.evC Xi.E Tryz.f167.ntmps (V.codeOf Tryz.f167) (Xi.kt x0 x1) (Xi.s x0 x1)=Xi x0 x1:=by kernel_rfl
theorem Xi.eq (x0:Z6)(x1:Z6):V.evBody Xi.E Xi.con Tryz.f167 (V.fl3 x0 x1)=Xi x0 x1:=(Xi.v0 x0 x1).trans (Xi.v x0 x1)
theorem Xi.ok :V.Valid Tryz.prog 167 Xi.con:=
 V.fo V.tab_nil Tryz.func167 (by kernel_rfl) (fun x y h=>(show V.evBody Xi.E Xi.con Tryz.f167 x=_ from Xi.eq (V.p3_0 x) (V.p3_1 x)).trans (V.cfl (by kernel_rfl) h))
noncomputable abbrev ZI.con :V.Con:=⟨V.A4,(V.ci .nil),fun(x:V.D4)=>ZI (V.p4_0 x) (V.p4_1 x),[],[(true,16),(true,17)],[(false,1)],[false],[]⟩
noncomputable abbrev ZI.E :V.Env:=V.mkE V.tys [(86,XC.con),(149,XF.con),(166,X1.con),(167,Xi.con)] [(11,[2,3,5,11],[]),(15,[2,3,25],[])] [] [] [] []
noncomputable abbrev ZI.kt (x0:Z6)(x1:Z5):V.Kt Int:=V.ktOf ZI.E ZI.con Tryz.f121 (V.fl4 x0 x1)
noncomputable abbrev ZI.s15 (x0:Z6)(x1:Z5)(v15_0:Bool):V.St:=⟨[(2, .v false [.ptr 64000 0]),(3, .v false [.ptr 64064 0]),(25, .v false [.val (.bool v15_0)])],[(64000, .box (V.lsHead x0)),(64064, .box (V.lsSigned x1))]⟩
noncomputable abbrev ZI.s11 (x0:Z6)(x1:Z5)(v11_0:Bool):V.St:=⟨[(2, .v false [.ptr 64000 0]),(3, .v false [.ptr 64064 0]),(5, .v false [.ptr 128128 0]),(11, .v false [.val (.bool v11_0)])],[(64000, .box (V.lsHead x0)),(64064, .box (V.lsSigned x1)),(128128, .box [.vi (x1.1), .vi (x1.2.1), .vi (x1.2.2.1), .vi (x1.2.2.2.1), .vi (x1.2.2.2.2.1), .vi (x1.2.2.2.2.2.1), .vi (x1.2.2.2.2.2.2.1), .vi (x1.2.2.2.2.2.2.2.1), .val (.sl (V.ci .nil) x1.2.2.2.2.2.2.2.2.1), .vi (x1.2.2.2.2.2.2.2.2.2.1), .val (.sl (V.ci .nil) x1.2.2.2.2.2.2.2.2.2.2.1), .vi (x1.2.2.2.2.2.2.2.2.2.2.2.1), .vi (x1.2.2.2.2.2.2.2.2.2.2.2.2.1), .val (.sl (V.ci .nil) x1.2.2.2.2.2.2.2.2.2.2.2.2.2.1), .vi (x1.2.2.2.2.2.2.2.2.2.2.2.2.2.2.1), .val (.bool x1.2.2.2.2.2.2.2.2.2.2.2.2.2.2.2.1)])]⟩
theorem ZI.r15 (x0:Z6)(x1:Z5)(v15_0:Bool):V.joinF ZI.E Tryz.f121.ntmps [1,1,0,0,1,1,1,1] [] (V.codeOf Tryz.f121) (ZI.kt x0 x1) (ZI.s15 x0 x1 v15_0)=ZI.g15 x0 x1 v15_0:=by kernel_rfl
theorem ZI.e15 (x0:Z6)(x1:Z5)(v15_0:Bool):V.jn (V.joinF ZI.E Tryz.f121.ntmps [1,1,0,0,1,1,1,1] [] (V.codeOf Tryz.f121) (ZI.kt x0 x1)) (ZI.s15 x0 x1 v15_0)=ZI.l15 x0 x1 v15_0:=by
 rw[V.jn_eq,ZI.r15]
 rfl
theorem ZI.r11 (x0:Z6)(x1:Z5)(v11_0:Bool):V.joinF ZI.E Tryz.f121.ntmps [1,1,0,0,1,1] [] (V.codeOf Tryz.f121) (ZI.kt x0 x1) (ZI.s11 x0 x1 v11_0)=ZI.g11 x0 x1 (fun v15_0=>V.jn (V.joinF ZI.E Tryz.f121.ntmps [1,1,0,0,1,1,1,1] [] (V.codeOf Tryz.f121) (ZI.kt x0 x1)) (ZI.s15 x0 x1 v15_0)) v11_0:=by kernel_rfl
theorem ZI.e11 (x0:Z6)(x1:Z5)(v11_0:Bool):V.jn (V.joinF ZI.E Tryz.f121.ntmps [1,1,0,0,1,1] [] (V.codeOf Tryz.f121) (ZI.kt x0 x1)) (ZI.s11 x0 x1 v11_0)=ZI.l11 x0 x1 v11_0:=by
 rw[V.jn_eq,ZI.r11]
 simp only[ZI.e15]
 rfl
noncomputable abbrev ZI.s (x0:Z6)(x1:Z5):V.St:=⟨[(0, .v true (V.lsHead x0)),(1, .v true (V.lsSigned x1))],[]⟩
theorem ZI.v0 (x0:Z6)(x1:Z5):V.evBody ZI.E ZI.con Tryz.f121 (V.fl4 x0 x1)=V.evC ZI.E Tryz.f121.ntmps (V.codeOf Tryz.f121) (ZI.kt x0 x1) (ZI.s x0 x1):=by kernel_rfl
theorem ZI.v (x0:Z6)(x1:Z5):V.evC ZI.E Tryz.f121.ntmps (V.codeOf Tryz.f121) (ZI.kt x0 x1) (ZI.s x0 x1)=ZI.b x0 x1 (fun v11_0=>V.jn (V.joinF ZI.E Tryz.f121.ntmps [1,1,0,0,1,1] [] (V.codeOf Tryz.f121) (ZI.kt x0 x1)) (ZI.s11 x0 x1 v11_0)):=by kernel_rfl
theorem ZI.eq (x0:Z6)(x1:Z5):V.evBody ZI.E ZI.con Tryz.f121 (V.fl4 x0 x1)=ZI x0 x1:=by
 rw[ZI.v0,ZI.v]
 simp only[ZI.e11]
 rfl
theorem ZI.ok :V.Valid Tryz.prog 121 ZI.con:=
 V.fo (V.tab_cons XC.ok (V.tab_cons XF.ok (V.tab_cons X1.ok (V.tab_cons Xi.ok V.tab_nil)))) Tryz.func121 (by kernel_rfl) (fun x y h=>(show V.evBody ZI.E ZI.con Tryz.f121 x=_ from ZI.eq (V.p4_0 x) (V.p4_1 x)).trans (V.cfl (by kernel_rfl) h))
noncomputable abbrev ZJ.con :V.Con:=⟨V.A4,(V.ci .nil),fun(x:V.D4)=>ZJ (V.p4_0 x) (V.p4_1 x),[],[(true,16),(true,17)],[(false,1)],[false],[]⟩
noncomputable abbrev ZJ.E :V.Env:=V.mkE V.tys [(86,XC.con),(149,XF.con),(166,X1.con),(167,Xi.con)] [(7,[2,3,5,6],[]),(13,[2,3,37],[])] [] [] [] []
noncomputable abbrev ZJ.kt (x0:Z6)(x1:Z5):V.Kt Int:=V.ktOf ZJ.E ZJ.con Tryz.f122 (V.fl4 x0 x1)
noncomputable abbrev ZJ.s13 (x0:Z6)(x1:Z5)(v13_0:Bool):V.St:=⟨[(2, .v false [.ptr 64000 0]),(3, .v false [.ptr 64064 0]),(37, .v false [.val (.bool v13_0)])],[(64000, .box (V.lsHead x0)),(64064, .box (V.lsSigned x1))]⟩
noncomputable abbrev ZJ.s7 (x0:Z6)(x1:Z5)(v7_0:Bool):V.St:=⟨[(2, .v false [.ptr 64000 0]),(3, .v false [.ptr 64064 0]),(5, .v false [.ptr 128128 0]),(6, .v false [.val (.bool v7_0)])],[(64000, .box (V.lsHead x0)),(64064, .box (V.lsSigned x1)),(128128, .box [.vi (x1.1), .vi (x1.2.1), .vi (x1.2.2.1), .vi (x1.2.2.2.1), .vi (x1.2.2.2.2.1), .vi (x1.2.2.2.2.2.1), .vi (x1.2.2.2.2.2.2.1), .vi (x1.2.2.2.2.2.2.2.1), .val (.sl (V.ci .nil) x1.2.2.2.2.2.2.2.2.1), .vi (x1.2.2.2.2.2.2.2.2.2.1), .val (.sl (V.ci .nil) x1.2.2.2.2.2.2.2.2.2.2.1), .vi (x1.2.2.2.2.2.2.2.2.2.2.2.1), .vi (x1.2.2.2.2.2.2.2.2.2.2.2.2.1), .val (.sl (V.ci .nil) x1.2.2.2.2.2.2.2.2.2.2.2.2.2.1), .vi (x1.2.2.2.2.2.2.2.2.2.2.2.2.2.2.1), .val (.bool x1.2.2.2.2.2.2.2.2.2.2.2.2.2.2.2.1)])]⟩
theorem ZJ.r13 (x0:Z6)(x1:Z5)(v13_0:Bool):V.joinF ZJ.E Tryz.f122.ntmps [1,1,1,0,0,1,1] [] (V.codeOf Tryz.f122) (ZJ.kt x0 x1) (ZJ.s13 x0 x1 v13_0)=ZJ.g13 x0 x1 v13_0:=by kernel_rfl
theorem ZJ.e13 (x0:Z6)(x1:Z5)(v13_0:Bool):V.jn (V.joinF ZJ.E Tryz.f122.ntmps [1,1,1,0,0,1,1] [] (V.codeOf Tryz.f122) (ZJ.kt x0 x1)) (ZJ.s13 x0 x1 v13_0)=ZJ.l13 x0 x1 v13_0:=by
 rw[V.jn_eq,ZJ.r13]
 rfl
theorem ZJ.r7 (x0:Z6)(x1:Z5)(v7_0:Bool):V.joinF ZJ.E Tryz.f122.ntmps [1,1] [] (V.codeOf Tryz.f122) (ZJ.kt x0 x1) (ZJ.s7 x0 x1 v7_0)=ZJ.g7 x0 x1 (fun v13_0=>V.jn (V.joinF ZJ.E Tryz.f122.ntmps [1,1,1,0,0,1,1] [] (V.codeOf Tryz.f122) (ZJ.kt x0 x1)) (ZJ.s13 x0 x1 v13_0)) v7_0:=by kernel_rfl
theorem ZJ.e7 (x0:Z6)(x1:Z5)(v7_0:Bool):V.jn (V.joinF ZJ.E Tryz.f122.ntmps [1,1] [] (V.codeOf Tryz.f122) (ZJ.kt x0 x1)) (ZJ.s7 x0 x1 v7_0)=ZJ.l7 x0 x1 v7_0:=by
 rw[V.jn_eq,ZJ.r7]
 simp only[ZJ.e13]
 rfl
noncomputable abbrev ZJ.s (x0:Z6)(x1:Z5):V.St:=⟨[(0, .v true (V.lsHead x0)),(1, .v true (V.lsSigned x1))],[]⟩
theorem ZJ.v0 (x0:Z6)(x1:Z5):V.evBody ZJ.E ZJ.con Tryz.f122 (V.fl4 x0 x1)=V.evC ZJ.E Tryz.f122.ntmps (V.codeOf Tryz.f122) (ZJ.kt x0 x1) (ZJ.s x0 x1):=by kernel_rfl
theorem ZJ.v (x0:Z6)(x1:Z5):V.evC ZJ.E Tryz.f122.ntmps (V.codeOf Tryz.f122) (ZJ.kt x0 x1) (ZJ.s x0 x1)=ZJ.b x0 x1 (fun v7_0=>V.jn (V.joinF ZJ.E Tryz.f122.ntmps [1,1] [] (V.codeOf Tryz.f122) (ZJ.kt x0 x1)) (ZJ.s7 x0 x1 v7_0)):=by kernel_rfl
theorem ZJ.eq (x0:Z6)(x1:Z5):V.evBody ZJ.E ZJ.con Tryz.f122 (V.fl4 x0 x1)=ZJ x0 x1:=by
 rw[ZJ.v0,ZJ.v]
 simp only[ZJ.e7]
 rfl
theorem ZJ.ok :V.Valid Tryz.prog 122 ZJ.con:=
 V.fo (V.tab_cons XC.ok (V.tab_cons XF.ok (V.tab_cons X1.ok (V.tab_cons Xi.ok V.tab_nil)))) Tryz.func122 (by kernel_rfl) (fun x y h=>(show V.evBody ZJ.E ZJ.con Tryz.f122 x=_ from ZJ.eq (V.p4_0 x) (V.p4_1 x)).trans (V.cfl (by kernel_rfl) h))
noncomputable abbrev Y3.con :V.Con:=⟨V.A4,(V.ci .nil),fun(x:V.D4)=>Y3 (V.p4_0 x) (V.p4_1 x),[],[(true,16),(true,17)],[(false,1)],[false],[]⟩
noncomputable abbrev Y3.E :V.Env:=V.mkE V.tys [(94,YY.con),(119,Xs.con),(120,Xt.con),(121,ZI.con),(122,ZJ.con)] [(5,[2,3,5],[])] [] [] [] []
noncomputable abbrev Y3.kt (x0:Z6)(x1:Z5):V.Kt Int:=V.ktOf Y3.E Y3.con Tryz.f72 (V.fl4 x0 x1)
noncomputable abbrev Y3.s5 (x0:Z6)(x1:Z5)(v5_0:Bool):V.St:=⟨[(2, .v false [.ptr 64000 0]),(3, .v false [.ptr 64064 0]),(5, .v false [.val (.bool v5_0)])],[(64000, .box (V.lsHead x0)),(64064, .box (V.lsSigned x1))]⟩
theorem Y3.r5 (x0:Z6)(x1:Z5)(v5_0:Bool):V.joinF Y3.E Tryz.f72.ntmps [1,0,0] [] (V.codeOf Tryz.f72) (Y3.kt x0 x1) (Y3.s5 x0 x1 v5_0)=Y3.g5 x0 x1 v5_0:=by kernel_rfl
theorem Y3.e5 (x0:Z6)(x1:Z5)(v5_0:Bool):V.jn (V.joinF Y3.E Tryz.f72.ntmps [1,0,0] [] (V.codeOf Tryz.f72) (Y3.kt x0 x1)) (Y3.s5 x0 x1 v5_0)=Y3.l5 x0 x1 v5_0:=by
 rw[V.jn_eq,Y3.r5]
 rfl
noncomputable abbrev Y3.s (x0:Z6)(x1:Z5):V.St:=⟨[(0, .v true (V.lsHead x0)),(1, .v true (V.lsSigned x1))],[]⟩
theorem Y3.v0 (x0:Z6)(x1:Z5):V.evBody Y3.E Y3.con Tryz.f72 (V.fl4 x0 x1)=V.evC Y3.E Tryz.f72.ntmps (V.codeOf Tryz.f72) (Y3.kt x0 x1) (Y3.s x0 x1):=by kernel_rfl
theorem Y3.v (x0:Z6)(x1:Z5):V.evC Y3.E Tryz.f72.ntmps (V.codeOf Tryz.f72) (Y3.kt x0 x1) (Y3.s x0 x1)=Y3.b x0 x1 (fun v5_0=>V.jn (V.joinF Y3.E Tryz.f72.ntmps [1,0,0] [] (V.codeOf Tryz.f72) (Y3.kt x0 x1)) (Y3.s5 x0 x1 v5_0)):=by kernel_rfl
theorem Y3.eq (x0:Z6)(x1:Z5):V.evBody Y3.E Y3.con Tryz.f72 (V.fl4 x0 x1)=Y3 x0 x1:=by
 rw[Y3.v0,Y3.v]
 simp only[Y3.e5]
 rfl
theorem Y3.ok :V.Valid Tryz.prog 72 Y3.con:=
 V.fo (V.tab_cons YY.ok (V.tab_cons Xs.ok (V.tab_cons Xt.ok (V.tab_cons ZI.ok (V.tab_cons ZJ.ok V.tab_nil))))) Tryz.func72 (by kernel_rfl) (fun x y h=>(show V.evBody Y3.E Y3.con Tryz.f72 x=_ from Y3.eq (V.p4_0 x) (V.p4_1 x)).trans (V.cfl (by kernel_rfl) h))
noncomputable abbrev Xr.con :V.Con:=⟨V.A4,(.cons .bool .nil),fun(x:V.D4)=>Xr (V.p4_0 x) (V.p4_1 x),[],[(true,16),(true,17)],[(false,1)],[false],[]⟩
noncomputable abbrev Xr.E :V.Env:=V.mkE V.tys [(72,Y3.con)] [] [] [] [] []
noncomputable abbrev Xr.kt (x0:Z6)(x1:Z5):V.Kt Bool:=V.ktOf Xr.E Xr.con Tryz.f134 (V.fl4 x0 x1)
noncomputable abbrev Xr.s (x0:Z6)(x1:Z5):V.St:=⟨[(0, .v true (V.lsHead x0)),(1, .v true (V.lsSigned x1))],[]⟩
theorem Xr.v0 (x0:Z6)(x1:Z5):V.evBody Xr.E Xr.con Tryz.f134 (V.fl4 x0 x1)=V.evC Xr.E Tryz.f134.ntmps (V.codeOf Tryz.f134) (Xr.kt x0 x1) (Xr.s x0 x1):=by kernel_rfl
theorem Xr.v (x0:Z6)(x1:Z5):V.evC Xr.E Tryz.f134.ntmps (V.codeOf Tryz.f134) (Xr.kt x0 x1) (Xr.s x0 x1)=Xr x0 x1:=by kernel_rfl
theorem Xr.eq (x0:Z6)(x1:Z5):V.evBody Xr.E Xr.con Tryz.f134 (V.fl4 x0 x1)=Xr x0 x1:=(Xr.v0 x0 x1).trans (Xr.v x0 x1)
theorem Xr.ok :V.Valid Tryz.prog 134 Xr.con:=
 V.fo (V.tab_cons Y3.ok V.tab_nil) Tryz.func134 (by kernel_rfl) (fun x y h=>(show V.evBody Xr.E Xr.con Tryz.f134 x=_ from Xr.eq (V.p4_0 x) (V.p4_1 x)).trans (V.cfl (by kernel_rfl) h))
noncomputable abbrev Yf.con :V.Con:=⟨(.cons (.sl V.eSigned) .nil),(V.ci .nil),fun(x:List Z5)=>Yf x,[],[(false,1)],[(false,1)],[false],[]⟩
noncomputable abbrev Yf.E :V.Env:=V.mkE V.tys [(133,Xq.con),(134,Xr.con)] [(4,[0,5,6,7],[])] [(4,18)] [] [] []
noncomputable abbrev Yf.kt (x0:List Z5):V.Kt Int:=V.ktOf Yf.E Yf.con Tryz.f83 ((x0):List Z5)
noncomputable abbrev Yf.s4 (x0:List Z5)(v4_2:Int)(v4_3:Int):V.St:=⟨[(0, .v false [.val (.sl V.eSigned x0)]),(5, .v false [.val (.sl V.eSigned x0)]),(6, .v false [.vi (v4_2)]),(7, .v false [.vi (v4_3)])],[]⟩
theorem Yf.r4 (x0:List Z5)(R:V.St→Option Int)(v4_2:Int)(v4_3:Int):V.loopF Yf.E Tryz.f83.ntmps [1,0,1,0] [] (V.codeOf Tryz.f83) (Yf.kt x0) R (Yf.s4 x0 v4_2 v4_3)=Yf.g4 x0 (fun v4_2 v4_3=>R (Yf.s4 x0 v4_2 v4_3)) v4_2 v4_3:=by kernel_rfl
theorem Yf.e4 (x0:List Z5):∀(n:Nat) (v4_2:Int) (v4_3:Int),V.loopN (V.loopF Yf.E Tryz.f83.ntmps [1,0,1,0] [] (V.codeOf Tryz.f83) (Yf.kt x0)) n (Yf.s4 x0 v4_2 v4_3)=Yf.l4 x0 n v4_2 v4_3:=by
 intro n
 induction n with
 |zero=>intros;rw[V.loopN_z];rfl
 |succ n ih=>
  intro v4_2 v4_3
  rw[V.loopN_s,Yf.r4]
  simp only[ih]
  first|exact(Yf.u4 ..).symm|rfl
theorem Yf.v (x0:List Z5):V.evBody Yf.E Yf.con Tryz.f83 ((x0):List Z5)=Yf.b x0 (fun v4_2 v4_3=>V.loopN (V.loopF Yf.E Tryz.f83.ntmps [1,0,1,0] [] (V.codeOf Tryz.f83) (Yf.kt x0)) V.KK (Yf.s4 x0 v4_2 v4_3)):=by kernel_rfl
theorem Yf.eq (x0:List Z5):V.evBody Yf.E Yf.con Tryz.f83 ((x0):List Z5)=Yf x0:=by
 rw[Yf.v]
 simp only[Yf.e4]
 rfl
theorem Yf.ok :V.Valid Tryz.prog 83 Yf.con:=
 V.fo (V.tab_cons Xq.ok (V.tab_cons Xr.ok V.tab_nil)) Tryz.func83 (by kernel_rfl) (fun x y h=>(show V.evBody Yf.E Yf.con Tryz.f83 x=_ from Yf.eq x).trans (V.cfl (by kernel_rfl) h))
noncomputable abbrev Wn.con :V.Con:=⟨(.cons (.sl V.eSigned) .nil),(.cons .bool .nil),fun(x:List Z5)=>Wn x,[],[(false,1)],[(false,1)],[false],[]⟩
noncomputable abbrev Wn.E :V.Env:=V.mkE V.tys [(82,YD.con),(83,Yf.con)] [] [] [] [] []
theorem Wn.eq (x0:List Z5):V.evBody Wn.E Wn.con Tryz.f42 ((x0):List Z5)=Wn x0:=by kernel_rfl
theorem Wn.ok :V.Valid Tryz.prog 42 Wn.con:=
 V.fo (V.tab_cons YD.ok (V.tab_cons Yf.ok V.tab_nil)) Tryz.func42 (by kernel_rfl) (fun x y h=>(show V.evBody Wn.E Wn.con Tryz.f42 x=_ from Wn.eq x).trans (V.cfl (by kernel_rfl) h))
noncomputable abbrev XG.con :V.Con:=⟨(.cons (.sl V.eSigned) .nil),V.eHead,fun(x:List Z5)=>XG x,[],[(false,1)],[(true,16)],[false,false,false,false,false,false,false,false,false,false,false,false,false,false,false,false],[]⟩
noncomputable abbrev XG.E :V.Env:=V.mkE V.tys [] [] [] [] [] []
theorem XG.eq (x0:List Z5):V.evBody XG.E XG.con Tryz.f35 ((x0):List Z5)=XG x0:=by kernel_rfl
theorem XG.ok :V.Valid Tryz.prog 35 XG.con:=
 V.fo V.tab_nil Tryz.func35 (by kernel_rfl) (fun x y h=>(show V.evBody XG.E XG.con Tryz.f35 x=_ from XG.eq x).trans (V.cfl (by kernel_rfl) h))
noncomputable abbrev Y4.con :V.Con:=⟨(.cons .str .nil),(.cons .bool .nil),fun(x:ByteArray)=>Y4 x,[],[(false,1)],[(false,1)],[false],[]⟩
noncomputable abbrev Y4.E :V.Env:=V.mkE V.tys [(82,YD.con)] [(4,[0,6,7],[])] [] [] [] []
noncomputable abbrev Y4.kt (x0:ByteArray):V.Kt Bool:=V.ktOf Y4.E Y4.con Tryz.f174 ((x0):ByteArray)
noncomputable abbrev Y4.s4 (x0:ByteArray)(v4_1:Int)(v4_2:Int):V.St:=⟨[(0, .v false [.val (.str x0)]),(6, .v false [.vi (v4_1)]),(7, .v false [.vi (v4_2)])],[]⟩
theorem Y4.r4 (x0:ByteArray)(R:V.St→Option Bool)(v4_1:Int)(v4_2:Int):V.loopF Y4.E Tryz.f174.ntmps [1,0,1,0] [] (V.codeOf Tryz.f174) (Y4.kt x0) R (Y4.s4 x0 v4_1 v4_2)=Y4.g4 x0 (fun v4_1 v4_2=>R (Y4.s4 x0 v4_1 v4_2)) v4_1 v4_2:=by kernel_rfl
theorem Y4.e4 (x0:ByteArray):∀(n:Nat) (v4_1:Int) (v4_2:Int),V.loopN (V.loopF Y4.E Tryz.f174.ntmps [1,0,1,0] [] (V.codeOf Tryz.f174) (Y4.kt x0)) n (Y4.s4 x0 v4_1 v4_2)=Y4.l4 x0 n v4_1 v4_2:=by
 intro n
 induction n with
 |zero=>intros;rw[V.loopN_z];rfl
 |succ n ih=>
  intro v4_1 v4_2
  rw[V.loopN_s,Y4.r4]
  simp only[ih]
  first|exact(Y4.u4 ..).symm|rfl
theorem Y4.v (x0:ByteArray):V.evBody Y4.E Y4.con Tryz.f174 ((x0):ByteArray)=Y4.b x0 (fun v4_1 v4_2=>V.loopN (V.loopF Y4.E Tryz.f174.ntmps [1,0,1,0] [] (V.codeOf Tryz.f174) (Y4.kt x0)) V.KK (Y4.s4 x0 v4_1 v4_2)):=by kernel_rfl
theorem Y4.eq (x0:ByteArray):V.evBody Y4.E Y4.con Tryz.f174 ((x0):ByteArray)=Y4 x0:=by
 rw[Y4.v]
 simp only[Y4.e4]
 rfl
theorem Y4.ok :V.Valid Tryz.prog 174 Y4.con:=
 V.fo (V.tab_cons YD.ok V.tab_nil) Tryz.func174 (by kernel_rfl) (fun x y h=>(show V.evBody Y4.E Y4.con Tryz.f174 x=_ from Y4.eq x).trans (V.cfl (by kernel_rfl) h))
noncomputable abbrev Uq.con :V.Con:=⟨(.cons .str .nil),(.cons .bool .nil),fun(x:ByteArray)=>Uq x,[],[(false,1)],[(false,1)],[false],[]⟩
noncomputable abbrev Uq.E :V.Env:=V.mkE V.tys [(174,Y4.con)] [] [] [] [] []
theorem Uq.eq (x0:ByteArray):V.evBody Uq.E Uq.con Tryz.f194 ((x0):ByteArray)=Uq x0:=by kernel_rfl
theorem Uq.ok :V.Valid Tryz.prog 194 Uq.con:=
 V.fo (V.tab_cons Y4.ok V.tab_nil) Tryz.func194 (by kernel_rfl) (fun x y h=>(show V.evBody Uq.E Uq.con Tryz.f194 x=_ from Uq.eq x).trans (V.cfl (by kernel_rfl) h))
noncomputable abbrev YN.con :V.Con:=⟨(.cons (.sl (.cons .str .nil)) (.cons (.fn 194 false .nil .nil) .nil)),(V.ci .nil),fun(x:List ByteArray×(Unit)×(Unit))=>YN x.1 x.2,[],[(false,1),(false,1)],[(false,1)],[false],[]⟩
noncomputable abbrev YN.E :V.Env:=V.mkE V.tys [(194,Uq.con)] [(4,[0,1,7,8],[])] [] [] [] []
noncomputable abbrev YN.kt (x0:List ByteArray)(x1:(Unit)×(Unit)):V.Kt Int:=V.ktOf YN.E YN.con Tryz.f200 ((x0,x1):List ByteArray×(Unit)×(Unit))
noncomputable abbrev YN.s4 (x0:List ByteArray)(v4_1:Int)(v4_2:Int):V.St:=⟨[(0, .v false [.val (.sl (.cons .str .nil) x0)]),(1, .v false [.val (.fn 194 false .nil .nil () ())]),(7, .v false [.vi (v4_1)]),(8, .v false [.vi (v4_2)])],[]⟩
theorem YN.r4 (x0:List ByteArray)(x1:(Unit)×(Unit))(R:V.St→Option Int)(v4_1:Int)(v4_2:Int):V.loopF YN.E Tryz.f200.ntmps [1,0,1,0] [] (V.codeOf Tryz.f200) (YN.kt x0 x1) R (YN.s4 x0 v4_1 v4_2)=YN.g4 x0 (fun v4_1 v4_2=>R (YN.s4 x0 v4_1 v4_2)) v4_1 v4_2:=by kernel_rfl
theorem YN.e4 (x0:List ByteArray)(x1:(Unit)×(Unit)):∀(n:Nat) (v4_1:Int) (v4_2:Int),V.loopN (V.loopF YN.E Tryz.f200.ntmps [1,0,1,0] [] (V.codeOf Tryz.f200) (YN.kt x0 x1)) n (YN.s4 x0 v4_1 v4_2)=YN.l4 x0 n v4_1 v4_2:=by
 intro n
 induction n with
 |zero=>intros;rw[V.loopN_z];rfl
 |succ n ih=>
  intro v4_1 v4_2
  rw[V.loopN_s,YN.r4]
  simp only[ih]
  first|exact(YN.u4 ..).symm|rfl
theorem YN.v (x0:List ByteArray)(x1:(Unit)×(Unit)):V.evBody YN.E YN.con Tryz.f200 ((x0,x1):List ByteArray×(Unit)×(Unit))=YN.b x0 x1 (fun v4_1 v4_2=>V.loopN (V.loopF YN.E Tryz.f200.ntmps [1,0,1,0] [] (V.codeOf Tryz.f200) (YN.kt x0 x1)) V.KK (YN.s4 x0 v4_1 v4_2)):=by kernel_rfl
theorem YN.eq (x0:List ByteArray)(x1:(Unit)×(Unit)):V.evBody YN.E YN.con Tryz.f200 ((x0,x1):List ByteArray×(Unit)×(Unit))=YN x0 x1:=by
 rw[YN.v]
 simp only[YN.e4]
 rfl
theorem YN.ok :V.Valid Tryz.prog 200 YN.con:=
 V.fo (V.tab_cons Uq.ok V.tab_nil) Tryz.func200 (by kernel_rfl) (fun x y h=>(show V.evBody YN.E YN.con Tryz.f200 x=_ from YN.eq x.1 x.2).trans (V.cfl (by kernel_rfl) h))
noncomputable abbrev U8.con :V.Con:=⟨(.cons (.sl (.cons .str .nil)) (.cons (.fn 194 false .nil .nil) .nil)),(.cons .bool .nil),fun(x:List ByteArray×(Unit)×(Unit))=>U8 x.1 x.2,[],[(false,1),(false,1)],[(false,1)],[false],[]⟩
noncomputable abbrev U8.E :V.Env:=V.mkE V.tys [(200,YN.con)] [] [] [] [] []
theorem U8.eq (x0:List ByteArray)(x1:(Unit)×(Unit)):V.evBody U8.E U8.con Tryz.f193 ((x0,x1):List ByteArray×(Unit)×(Unit))=U8 x0 x1:=by kernel_rfl
theorem U8.ok :V.Valid Tryz.prog 193 U8.con:=
 V.fo (V.tab_cons YN.ok V.tab_nil) Tryz.func193 (by kernel_rfl) (fun x y h=>(show V.evBody U8.E U8.con Tryz.f193 x=_ from U8.eq x.1 x.2).trans (V.cfl (by kernel_rfl) h))
noncomputable abbrev WT.con :V.Con:=⟨(.cons (.sl (.cons .str .nil)) .nil),(.cons .bool .nil),fun(x:List ByteArray)=>WT x,[],[(false,1)],[(false,1)],[false],[]⟩
noncomputable abbrev WT.E :V.Env:=V.mkE V.tys [(82,YD.con),(193,U8.con)] [] [] [] [] []
theorem WT.eq (x0:List ByteArray):V.evBody WT.E WT.con Tryz.f175 ((x0):List ByteArray)=WT x0:=by kernel_rfl
theorem WT.ok :V.Valid Tryz.prog 175 WT.con:=
 V.fo (V.tab_cons YD.ok (V.tab_cons U8.ok V.tab_nil)) Tryz.func175 (by kernel_rfl) (fun x y h=>(show V.evBody WT.E WT.con Tryz.f175 x=_ from WT.eq x).trans (V.cfl (by kernel_rfl) h))
noncomputable abbrev WS.con :V.Con:=⟨V.eEntry,(.cons .bool .nil),fun(x:ByteArray×Int×Int×List ByteArray)=>WS x,[],[(true,4)],[(false,1)],[false],[]⟩
noncomputable abbrev WS.E :V.Env:=V.mkE V.tys [(82,YD.con),(144,XW.con),(174,Y4.con),(175,WT.con)] [] [] [] [] []
theorem WS.eq (x0:Z4):V.evBody WS.E WS.con Tryz.f135 ((x0.1,x0.2.1,x0.2.2.1,x0.2.2.2):ByteArray×Int×Int×List ByteArray)=WS x0:=by kernel_rfl
theorem WS.ok :V.Valid Tryz.prog 135 WS.con:=
 V.fo (V.tab_cons YD.ok (V.tab_cons XW.ok (V.tab_cons Y4.ok (V.tab_cons WT.ok V.tab_nil)))) Tryz.func135 (by kernel_rfl) (fun x y h=>(show V.evBody WS.E WS.con Tryz.f135 x=_ from WS.eq x).trans (V.cfl (by kernel_rfl) h))
noncomputable abbrev QS.con :V.Con:=⟨.cons .str (.cons .str .nil), .cons (.int .i64) .nil,fun(x:ByteArray×ByteArray)=>QS x.1 x.2,[],[(false,1),(false,1)],[(false,1)],[false],[]⟩
theorem QS.ok :V.Valid Tryz.prog 195 QS.con:=
 V.cmp_valid (ρ:=⟨fun n=>bif Nat.beq n 213 then 195 else 201,fun t=>bif Nat.beq t 3 then 3 else 9,fun x=>x⟩) {mixed:=V.mixed,f213:=by kernel_rfl,f265:=by kernel_rfl,t3:=by kernel_rfl,a3:=fun w=>rfl,z3:=fun w=>rfl,v3:=fun w=>rfl,t9:=by kernel_rfl,a9:=fun w=>rfl,z9:=fun w=>rfl,v9:=fun w=>rfl}
noncomputable abbrev UF.con :V.Con:=⟨(.cons .str (.cons .str .nil)),(V.ci .nil),fun(x:ByteArray×ByteArray)=>UF x.1 x.2,[],[(false,1),(false,1)],[(false,1)],[false],[]⟩
noncomputable abbrev UF.E :V.Env:=V.mkE V.tys [(195,QS.con)] [] [] [] [] []
theorem UF.eq (x0:ByteArray)(x1:ByteArray):V.evBody UF.E UF.con Tryz.f176 ((x0,x1):ByteArray×ByteArray)=UF x0 x1:=by kernel_rfl
theorem UF.ok :V.Valid Tryz.prog 176 UF.con:=
 V.fo (V.tab_cons QS.ok V.tab_nil) Tryz.func176 (by kernel_rfl) (fun x y h=>(show V.evBody UF.E UF.con Tryz.f176 x=_ from UF.eq x.1 x.2).trans (V.cfl (by kernel_rfl) h))
noncomputable abbrev Uo.con :V.Con:=⟨(.cons .str (.cons .str .nil)),(V.ci .nil),fun(x:ByteArray×ByteArray)=>Uo x.1 x.2,[],[(false,1),(false,1)],[(false,1)],[false],[]⟩
noncomputable abbrev Uo.E :V.Env:=V.mkE V.tys [(176,UF.con)] [] [] [] [] []
theorem Uo.eq (x0:ByteArray)(x1:ByteArray):V.evBody Uo.E Uo.con Tryz.f136 ((x0,x1):ByteArray×ByteArray)=Uo x0 x1:=by kernel_rfl
theorem Uo.ok :V.Valid Tryz.prog 136 Uo.con:=
 V.fo (V.tab_cons UF.ok V.tab_nil) Tryz.func136 (by kernel_rfl) (fun x y h=>(show V.evBody Uo.E Uo.con Tryz.f136 x=_ from Uo.eq x.1 x.2).trans (V.cfl (by kernel_rfl) h))
noncomputable abbrev ZY.con :V.Con:=⟨(.cons (.sl V.eEntry) .nil),(.cons .bool .nil),fun(x:List Z4)=>ZY x,[],[(false,1)],[(false,1)],[false],[]⟩
noncomputable abbrev ZY.E :V.Env:=V.mkE V.tys [(135,WS.con),(136,Uo.con)] [(4,[0,5,6,7],[])] [(4,15)] [] [] []
noncomputable abbrev ZY.kt (x0:List Z4):V.Kt Bool:=V.ktOf ZY.E ZY.con Tryz.f84 ((x0):List Z4)
noncomputable abbrev ZY.s4 (x0:List Z4)(v4_2:Int)(v4_3:Int):V.St:=⟨[(0, .v false [.val (.sl V.eEntry x0)]),(5, .v false [.val (.sl V.eEntry x0)]),(6, .v false [.vi (v4_2)]),(7, .v false [.vi (v4_3)])],[]⟩
theorem ZY.r4 (x0:List Z4)(R:V.St→Option Bool)(v4_2:Int)(v4_3:Int):V.loopF ZY.E Tryz.f84.ntmps [1,0,1,0] [] (V.codeOf Tryz.f84) (ZY.kt x0) R (ZY.s4 x0 v4_2 v4_3)=ZY.g4 x0 (fun v4_2 v4_3=>R (ZY.s4 x0 v4_2 v4_3)) v4_2 v4_3:=by kernel_rfl
theorem ZY.e4 (x0:List Z4):∀(n:Nat) (v4_2:Int) (v4_3:Int),V.loopN (V.loopF ZY.E Tryz.f84.ntmps [1,0,1,0] [] (V.codeOf Tryz.f84) (ZY.kt x0)) n (ZY.s4 x0 v4_2 v4_3)=ZY.l4 x0 n v4_2 v4_3:=by
 intro n
 induction n with
 |zero=>intros;rw[V.loopN_z];rfl
 |succ n ih=>
  intro v4_2 v4_3
  rw[V.loopN_s,ZY.r4]
  simp only[ih]
  first|exact(ZY.u4 ..).symm|rfl
theorem ZY.v (x0:List Z4):V.evBody ZY.E ZY.con Tryz.f84 ((x0):List Z4)=ZY.b x0 (fun v4_2 v4_3=>V.loopN (V.loopF ZY.E Tryz.f84.ntmps [1,0,1,0] [] (V.codeOf Tryz.f84) (ZY.kt x0)) V.KK (ZY.s4 x0 v4_2 v4_3)):=by kernel_rfl
theorem ZY.eq (x0:List Z4):V.evBody ZY.E ZY.con Tryz.f84 ((x0):List Z4)=ZY x0:=by
 rw[ZY.v]
 simp only[ZY.e4]
 rfl
theorem ZY.ok :V.Valid Tryz.prog 84 ZY.con:=
 V.fo (V.tab_cons WS.ok (V.tab_cons Uo.ok V.tab_nil)) Tryz.func84 (by kernel_rfl) (fun x y h=>(show V.evBody ZY.E ZY.con Tryz.f84 x=_ from ZY.eq x).trans (V.cfl (by kernel_rfl) h))
noncomputable abbrev YB.con :V.Con:=⟨(.cons (.sl (.cons (.int .u8) .nil)) .nil),(.cons (.sl (V.ci .nil)) .nil),fun(x:List Int)=>YB x,[],[(false,1)],[(false,1)],[true],[]⟩
noncomputable abbrev YB.E :V.Env:=V.mkE V.tys [] [(6,[3,9,10,11],[])] [] [] [] []
noncomputable abbrev YB.kt (x0:List Int):V.Kt (List Int):=V.ktOf YB.E YB.con Tryz.f207 ((x0):List Int)
noncomputable abbrev YB.s6 (x0:List Int)(v6_1:Int)(v6_2:Int)(v6_3:List Int):V.St:=⟨[(3, .v false [.ref 64000038400192]),(9, .v false [.val (.sl (.cons (.int .u8) .nil) x0)]),(10, .v false [.vi (v6_1)]),(11, .v false [.vi (v6_2)])],[(64000038400192, .row (V.ci .nil) true v6_3)]⟩
theorem YB.r6 (x0:List Int)(R:V.St→Option (List Int))(v6_1:Int)(v6_2:Int)(v6_3:List Int):V.loopF YB.E Tryz.f207.ntmps [1,1,0,1,0] [] (V.codeOf Tryz.f207) (YB.kt x0) R (YB.s6 x0 v6_1 v6_2 v6_3)=YB.g6 x0 (fun v6_1 v6_2 v6_3=>R (YB.s6 x0 v6_1 v6_2 v6_3)) v6_1 v6_2 v6_3:=by kernel_rfl
theorem YB.e6 (x0:List Int):∀(n:Nat) (v6_1:Int) (v6_2:Int) (v6_3:List Int),V.loopN (V.loopF YB.E Tryz.f207.ntmps [1,1,0,1,0] [] (V.codeOf Tryz.f207) (YB.kt x0)) n (YB.s6 x0 v6_1 v6_2 v6_3)=YB.l6 x0 n v6_1 v6_2 v6_3:=by
 intro n
 induction n with
 |zero=>intros;rw[V.loopN_z];rfl
 |succ n ih=>
  intro v6_1 v6_2 v6_3
  rw[V.loopN_s,YB.r6]
  simp only[ih]
  first|exact(YB.u6 ..).symm|rfl
theorem YB.v (x0:List Int):V.evBody YB.E YB.con Tryz.f207 ((x0):List Int)=YB.b x0 (fun v6_1 v6_2 v6_3=>V.loopN (V.loopF YB.E Tryz.f207.ntmps [1,1,0,1,0] [] (V.codeOf Tryz.f207) (YB.kt x0)) V.KK (YB.s6 x0 v6_1 v6_2 v6_3)):=by kernel_rfl
theorem YB.eq (x0:List Int):V.evBody YB.E YB.con Tryz.f207 ((x0):List Int)=YB x0:=by
 rw[YB.v]
 simp only[YB.e6]
 rfl
theorem YB.ok :V.Valid Tryz.prog 207 YB.con:=
 V.fo V.tab_nil Tryz.func207 (by kernel_rfl) (fun x y h=>(show V.evBody YB.E YB.con Tryz.f207 x=_ from YB.eq x).trans (V.cfl (by kernel_rfl) h))
noncomputable abbrev Wz.con :V.Con:=⟨(.cons .str .nil),(.cons (.sl (V.ci .nil)) .nil),fun(x:ByteArray)=>Wz x,[],[(false,1)],[(false,1)],[true],[]⟩
noncomputable abbrev Wz.E :V.Env:=V.mkE V.tys [(207,YB.con)] [] [] [] [] []
theorem Wz.eq (x0:ByteArray):V.evBody Wz.E Wz.con Tryz.f202 ((x0):ByteArray)=Wz x0:=by kernel_rfl
theorem Wz.ok :V.Valid Tryz.prog 202 Wz.con:=
 V.fo (V.tab_cons YB.ok V.tab_nil) Tryz.func202 (by kernel_rfl) (fun x y h=>(show V.evBody Wz.E Wz.con Tryz.f202 x=_ from Wz.eq x).trans (V.cfl (by kernel_rfl) h))
noncomputable abbrev YC.con :V.Con:=⟨V.eEntry,(.cons (.sl (V.ci .nil)) .nil),fun(x:ByteArray×Int×Int×List ByteArray)=>YC x,[],[(true,4)],[(false,1)],[true],[]⟩
noncomputable abbrev YC.E :V.Env:=V.mkE V.tys [(202,Wz.con)] [(6,[3,19,20,21],[])] [(1,11)] [] [] []
noncomputable abbrev YC.kt (x0:Z4):V.Kt (List Int):=V.ktOf YC.E YC.con Tryz.f197 ((x0.1,x0.2.1,x0.2.2.1,x0.2.2.2):ByteArray×Int×Int×List ByteArray)
noncomputable abbrev YC.s6 (x0:Z4)(v6_1:Int)(v6_2:Int)(v6_3:List Int):V.St:=⟨[(3, .v false [.ref 64000038400192]),(19, .v false [.val (.sl (.cons .str .nil) x0.2.2.2)]),(20, .v false [.vi (v6_1)]),(21, .v false [.vi (v6_2)])],[(64000038400192, .row (V.ci .nil) true v6_3)]⟩
theorem YC.r6 (x0:Z4)(R:V.St→Option (List Int))(v6_1:Int)(v6_2:Int)(v6_3:List Int):V.loopF YC.E Tryz.f197.ntmps [1,1,0,1,0] [] (V.codeOf Tryz.f197) (YC.kt x0) R (YC.s6 x0 v6_1 v6_2 v6_3)=YC.g6 x0 (fun v6_1 v6_2 v6_3=>R (YC.s6 x0 v6_1 v6_2 v6_3)) v6_1 v6_2 v6_3:=by kernel_rfl
theorem YC.e6 (x0:Z4):∀(n:Nat) (v6_1:Int) (v6_2:Int) (v6_3:List Int),V.loopN (V.loopF YC.E Tryz.f197.ntmps [1,1,0,1,0] [] (V.codeOf Tryz.f197) (YC.kt x0)) n (YC.s6 x0 v6_1 v6_2 v6_3)=YC.l6 x0 n v6_1 v6_2 v6_3:=by
 intro n
 induction n with
 |zero=>intros;rw[V.loopN_z];rfl
 |succ n ih=>
  intro v6_1 v6_2 v6_3
  rw[V.loopN_s,YC.r6]
  simp only[ih]
  first|exact(YC.u6 ..).symm|rfl
theorem YC.v (x0:Z4):V.evBody YC.E YC.con Tryz.f197 ((x0.1,x0.2.1,x0.2.2.1,x0.2.2.2):ByteArray×Int×Int×List ByteArray)=YC.b x0 (fun v6_1 v6_2 v6_3=>V.loopN (V.loopF YC.E Tryz.f197.ntmps [1,1,0,1,0] [] (V.codeOf Tryz.f197) (YC.kt x0)) V.KK (YC.s6 x0 v6_1 v6_2 v6_3)):=by kernel_rfl
theorem YC.eq (x0:Z4):V.evBody YC.E YC.con Tryz.f197 ((x0.1,x0.2.1,x0.2.2.1,x0.2.2.2):ByteArray×Int×Int×List ByteArray)=YC x0:=by
 rw[YC.v]
 simp only[YC.e6]
 rfl
theorem YC.ok :V.Valid Tryz.prog 197 YC.con:=
 V.fo (V.tab_cons Wz.ok V.tab_nil) Tryz.func197 (by kernel_rfl) (fun x y h=>(show V.evBody YC.E YC.con Tryz.f197 x=_ from YC.eq x).trans (V.cfl (by kernel_rfl) h))
noncomputable abbrev WG.con :V.Con:=⟨V.eEntry,(V.ci .nil),fun(x:ByteArray×Int×Int×List ByteArray)=>WG x,[],[(true,4)],[(false,1)],[false],[]⟩
noncomputable abbrev WG.E :V.Env:=V.mkE V.tys [(53,ZP.con),(197,YC.con)] [] [] [] [] []
theorem WG.eq (x0:Z4):V.evBody WG.E WG.con Tryz.f179 ((x0.1,x0.2.1,x0.2.2.1,x0.2.2.2):ByteArray×Int×Int×List ByteArray)=WG x0:=by kernel_rfl
theorem WG.ok :V.Valid Tryz.prog 179 WG.con:=
 V.fo (V.tab_cons ZP.ok (V.tab_cons YC.ok V.tab_nil)) Tryz.func179 (by kernel_rfl) (fun x y h=>(show V.evBody WG.E WG.con Tryz.f179 x=_ from WG.eq x).trans (V.cfl (by kernel_rfl) h))
noncomputable abbrev YE.con :V.Con:=⟨(.cons (.sl V.eEntry) .nil),(.cons (.sl (V.ci .nil)) .nil),fun(x:List Z4)=>YE x,[],[(false,1)],[(false,1)],[true],[]⟩
noncomputable abbrev YE.E :V.Env:=V.mkE V.tys [(179,WG.con)] [(6,[3,7,8,9],[(64000038400192,(V.ci .nil),true)])] [] [] [] []
noncomputable abbrev YE.kt (x0:List Z4):V.Kt (List Int):=V.ktOf YE.E YE.con Tryz.f139 ((x0):List Z4)
noncomputable abbrev YE.s6 (x0:List Z4)(v6_1:Int)(v6_2:Int)(v6_3:List Int):V.St:=⟨[(3, .v false [.ref 64000038400192]),(7, .v false [.val (.sl V.eEntry x0)]),(8, .v false [.vi (v6_1)]),(9, .v false [.vi (v6_2)])],[(64000038400192, .row (V.ci .nil) true v6_3)]⟩
theorem YE.r6 (x0:List Z4)(R:V.St→Option (List Int))(v6_1:Int)(v6_2:Int)(v6_3:List Int):V.loopF YE.E Tryz.f139.ntmps [1,1,0,1,0] [] (V.codeOf Tryz.f139) (YE.kt x0) R (YE.s6 x0 v6_1 v6_2 v6_3)=YE.g6 x0 (fun v6_1 v6_2 v6_3=>R (YE.s6 x0 v6_1 v6_2 v6_3)) v6_1 v6_2 v6_3:=by kernel_rfl
theorem YE.e6 (x0:List Z4):∀(n:Nat) (v6_1:Int) (v6_2:Int) (v6_3:List Int),V.loopN (V.loopF YE.E Tryz.f139.ntmps [1,1,0,1,0] [] (V.codeOf Tryz.f139) (YE.kt x0)) n (YE.s6 x0 v6_1 v6_2 v6_3)=YE.l6 x0 n v6_1 v6_2 v6_3:=by
 intro n
 induction n with
 |zero=>intros;rw[V.loopN_z];rfl
 |succ n ih=>
  intro v6_1 v6_2 v6_3
  rw[V.loopN_s,YE.r6]
  simp only[ih]
  first|exact(YE.u6 ..).symm|rfl
theorem YE.v (x0:List Z4):V.evBody YE.E YE.con Tryz.f139 ((x0):List Z4)=YE.b x0 (fun v6_1 v6_2 v6_3=>V.loopN (V.loopF YE.E Tryz.f139.ntmps [1,1,0,1,0] [] (V.codeOf Tryz.f139) (YE.kt x0)) V.KK (YE.s6 x0 v6_1 v6_2 v6_3)):=by kernel_rfl
theorem YE.eq (x0:List Z4):V.evBody YE.E YE.con Tryz.f139 ((x0):List Z4)=YE x0:=by
 rw[YE.v]
 simp only[YE.e6]
 rfl
theorem YE.ok :V.Valid Tryz.prog 139 YE.con:=
 V.fo (V.tab_cons WG.ok V.tab_nil) Tryz.func139 (by kernel_rfl) (fun x y h=>(show V.evBody YE.E YE.con Tryz.f139 x=_ from YE.eq x).trans (V.cfl (by kernel_rfl) h))
noncomputable abbrev W8.con :V.Con:=⟨(.cons (.sl (V.ci .nil)) .nil),(V.ci .nil),fun(x:List Int)=>W8 x,[],[(false,1)],[(false,1)],[false],[]⟩
noncomputable abbrev W8.E :V.Env:=V.mkE V.tys [(53,ZP.con)] [] [] [] [] []
theorem W8.eq (x0:List Int):V.evBody W8.E W8.con Tryz.f177 ((x0):List Int)=W8 x0:=by kernel_rfl
theorem W8.ok :V.Valid Tryz.prog 177 W8.con:=
 V.fo (V.tab_cons ZP.ok V.tab_nil) Tryz.func177 (by kernel_rfl) (fun x y h=>(show V.evBody W8.E W8.con Tryz.f177 x=_ from W8.eq x).trans (V.cfl (by kernel_rfl) h))
noncomputable abbrev WY.con :V.Con:=⟨(V.ci (V.ci .nil)),(V.ci .nil),fun(x:Int×Int)=>WY x.1 x.2,[],[(false,1),(false,1)],[(false,1)],[false],[]⟩
noncomputable abbrev WY.E :V.Env:=V.mkE V.tys [(177,W8.con)] [] [] [] [] []
theorem WY.eq (x0:Int)(x1:Int):V.evBody WY.E WY.con Tryz.f196 ((x0,x1):Int×Int)=WY x0 x1:=by kernel_rfl
theorem WY.ok :V.Valid Tryz.prog 196 WY.con:=
 V.fo (V.tab_cons W8.ok V.tab_nil) Tryz.func196 (by kernel_rfl) (fun x y h=>(show V.evBody WY.E WY.con Tryz.f196 x=_ from WY.eq x.1 x.2).trans (V.cfl (by kernel_rfl) h))
noncomputable abbrev Yx.con :V.Con:=⟨(.cons (.sl (V.ci .nil)) .nil),(.cons (.sl (V.ci .nil)) .nil),fun(x:List Int)=>Yx x,[],[(false,1)],[(false,1)],[true],[]⟩
noncomputable abbrev Yx.E :V.Env:=V.mkE V.tys [(196,WY.con)] [(6,[0,3,4],[(64000038400192,(V.ci .nil),true)])] [(6,12)] [] [] []
noncomputable abbrev Yx.kt (x0:List Int):V.Kt (List Int):=V.ktOf Yx.E Yx.con Tryz.f178 ((x0):List Int)
noncomputable abbrev Yx.s6 (x0:List Int)(v6_1:Int)(v6_2:List Int):V.St:=⟨[(0, .v false [.val (.sl (V.ci .nil) x0)]),(3, .v false [.ref 64000038400192]),(4, .v false [.vi (v6_1)])],[(64000038400192, .row (V.ci .nil) true v6_2)]⟩
theorem Yx.r6 (x0:List Int)(R:V.St→Option (List Int))(v6_1:Int)(v6_2:List Int):V.loopF Yx.E Tryz.f178.ntmps [1,1,0,1,0] [] (V.codeOf Tryz.f178) (Yx.kt x0) R (Yx.s6 x0 v6_1 v6_2)=Yx.g6 x0 (fun v6_1 v6_2=>R (Yx.s6 x0 v6_1 v6_2)) v6_1 v6_2:=by kernel_rfl
theorem Yx.e6 (x0:List Int):∀(n:Nat) (v6_1:Int) (v6_2:List Int),V.loopN (V.loopF Yx.E Tryz.f178.ntmps [1,1,0,1,0] [] (V.codeOf Tryz.f178) (Yx.kt x0)) n (Yx.s6 x0 v6_1 v6_2)=Yx.l6 x0 n v6_1 v6_2:=by
 intro n
 induction n with
 |zero=>intros;rw[V.loopN_z];rfl
 |succ n ih=>
  intro v6_1 v6_2
  rw[V.loopN_s,Yx.r6]
  simp only[ih]
  first|exact(Yx.u6 ..).symm|rfl
theorem Yx.v (x0:List Int):V.evBody Yx.E Yx.con Tryz.f178 ((x0):List Int)=Yx.b x0 (fun v6_1 v6_2=>V.loopN (V.loopF Yx.E Tryz.f178.ntmps [1,1,0,1,0] [] (V.codeOf Tryz.f178) (Yx.kt x0)) V.KK (Yx.s6 x0 v6_1 v6_2)):=by kernel_rfl
theorem Yx.eq (x0:List Int):V.evBody Yx.E Yx.con Tryz.f178 ((x0):List Int)=Yx x0:=by
 rw[Yx.v]
 simp only[Yx.e6]
 rfl
theorem Yx.ok :V.Valid Tryz.prog 178 Yx.con:=
 V.fo (V.tab_cons WY.ok V.tab_nil) Tryz.func178 (by kernel_rfl) (fun x y h=>(show V.evBody Yx.E Yx.con Tryz.f178 x=_ from Yx.eq x).trans (V.cfl (by kernel_rfl) h))
noncomputable abbrev Yw.con :V.Con:=⟨(.cons (.sl (V.ci .nil)) .nil),(V.ci .nil),fun(x:List Int)=>Yw x,[],[(false,1)],[(false,1)],[false],[]⟩
noncomputable abbrev Yw.E :V.Env:=V.mkE V.tys [(177,W8.con),(178,Yx.con)] [(6,[0],[(0,(V.ci .nil),false)])] [] [] [] []
noncomputable abbrev Yw.kt (x0:List Int):V.Kt Int:=V.ktOf Yw.E Yw.con Tryz.f138 ((x0):List Int)
noncomputable abbrev Yw.s6 (v6_0:List Int):V.St:=⟨[(0, .v false [.val (.sl (V.ci .nil) v6_0)])],[]⟩
theorem Yw.r6 (x0:List Int)(R:V.St→Option Int)(v6_0:List Int):V.loopF Yw.E Tryz.f138.ntmps [1,1,0,0] [] (V.codeOf Tryz.f138) (Yw.kt x0) R (Yw.s6 v6_0)=Yw.g6 (fun v6_0=>R (Yw.s6 v6_0)) v6_0:=by kernel_rfl
theorem Yw.e6 (x0:List Int):∀(n:Nat) (v6_0:List Int),V.loopN (V.loopF Yw.E Tryz.f138.ntmps [1,1,0,0] [] (V.codeOf Tryz.f138) (Yw.kt x0)) n (Yw.s6 v6_0)=Yw.l6 n v6_0:=by
 intro n
 induction n with
 |zero=>intros;rw[V.loopN_z];rfl
 |succ n ih=>
  intro v6_0
  rw[V.loopN_s,Yw.r6]
  simp only[ih]
  first|exact(Yw.u6 ..).symm|rfl
theorem Yw.v (x0:List Int):V.evBody Yw.E Yw.con Tryz.f138 ((x0):List Int)=Yw.b x0 (fun v6_0=>V.loopN (V.loopF Yw.E Tryz.f138.ntmps [1,1,0,0] [] (V.codeOf Tryz.f138) (Yw.kt x0)) V.KK (Yw.s6 v6_0)):=by kernel_rfl
theorem Yw.eq (x0:List Int):V.evBody Yw.E Yw.con Tryz.f138 ((x0):List Int)=Yw x0:=by
 rw[Yw.v]
 simp only[Yw.e6]
 rfl
theorem Yw.ok :V.Valid Tryz.prog 138 Yw.con:=
 V.fo (V.tab_cons W8.ok (V.tab_cons Yx.ok V.tab_nil)) Tryz.func138 (by kernel_rfl) (fun x y h=>(show V.evBody Yw.E Yw.con Tryz.f138 x=_ from Yw.eq x).trans (V.cfl (by kernel_rfl) h))
noncomputable abbrev Us.con :V.Con:=⟨(V.ci (V.ci .nil)),(V.ci .nil),fun(x:Int×Int)=>Us x.1 x.2,[],[(false,1),(false,1)],[(false,1)],[false],[]⟩
noncomputable abbrev Us.E :V.Env:=V.mkE V.tys [(177,W8.con)] [] [] [] [] []
theorem Us.eq (x0:Int)(x1:Int):V.evBody Us.E Us.con Tryz.f137 ((x0,x1):Int×Int)=Us x0 x1:=by kernel_rfl
theorem Us.ok :V.Valid Tryz.prog 137 Us.con:=
 V.fo (V.tab_cons W8.ok V.tab_nil) Tryz.func137 (by kernel_rfl) (fun x y h=>(show V.evBody Us.E Us.con Tryz.f137 x=_ from Us.eq x.1 x.2).trans (V.cfl (by kernel_rfl) h))
noncomputable abbrev XY.con :V.Con:=⟨(.cons (.sl V.eEntry) .nil),(V.ci .nil),fun(x:List Z4)=>XY x,[],[(false,1)],[(false,1)],[false],[]⟩
noncomputable abbrev XY.E :V.Env:=V.mkE V.tys [(137,Us.con),(138,Yw.con),(139,YE.con)] [] [] [] [] []
theorem XY.eq (x0:List Z4):V.evBody XY.E XY.con Tryz.f85 ((x0):List Z4)=XY x0:=by kernel_rfl
theorem XY.ok :V.Valid Tryz.prog 85 XY.con:=
 V.fo (V.tab_cons Us.ok (V.tab_cons Yw.ok (V.tab_cons YE.ok V.tab_nil))) Tryz.func85 (by kernel_rfl) (fun x y h=>(show V.evBody XY.E XY.con Tryz.f85 x=_ from XY.eq x).trans (V.cfl (by kernel_rfl) h))
noncomputable abbrev WR.con :V.Con:=⟨(V.ci (.cons (.sl V.eEntry) .nil)),(.cons .bool .nil),fun(x:Int×List Z4)=>WR x.1 x.2,[],[(false,1),(false,1)],[(false,1)],[false],[]⟩
noncomputable abbrev WR.E :V.Env:=V.mkE V.tys [(84,ZY.con),(85,XY.con)] [] [] [] [] []
theorem WR.eq (x0:Int)(x1:List Z4):V.evBody WR.E WR.con Tryz.f43 ((x0,x1):Int×List Z4)=WR x0 x1:=by kernel_rfl
theorem WR.ok :V.Valid Tryz.prog 43 WR.con:=
 V.fo (V.tab_cons ZY.ok (V.tab_cons XY.ok V.tab_nil)) Tryz.func43 (by kernel_rfl) (fun x y h=>(show V.evBody WR.E WR.con Tryz.f43 x=_ from WR.eq x.1 x.2).trans (V.cfl (by kernel_rfl) h))
noncomputable abbrev XB.con :V.Con:=⟨(.cons (.sl V.eSigned) (.cons (.sl V.eEntry) .nil)),(.cons .bool .nil),fun(x:List Z5×List Z4)=>XB x,[],[(true,2)],[(false,1)],[false],[]⟩
noncomputable abbrev XB.E :V.Env:=V.mkE V.tys [(35,XG.con),(42,Wn.con),(43,WR.con)] [] [] [] [] []
theorem XB.eq (x0:Zt):V.evBody XB.E XB.con Tryz.f9 ((x0.1,x0.2):List Z5×List Z4)=XB x0:=by kernel_rfl
theorem XB.ok :V.Valid Tryz.prog 9 XB.con:=
 V.fo (V.tab_cons XG.ok (V.tab_cons Wn.ok (V.tab_cons WR.ok V.tab_nil))) Tryz.func9 (by kernel_rfl) (fun x y h=>(show V.evBody XB.E XB.con Tryz.f9 x=_ from XB.eq x).trans (V.cfl (by kernel_rfl) h))
noncomputable abbrev U5.con :V.Con:=⟨(.cons (.sl (V.ci .nil)) .nil),(.cons (.sl (V.ci .nil)) .nil),fun(x:List Int)=>U5 x,[],[(false,1)],[(false,1)],[true],[]⟩
noncomputable abbrev U5.E :V.Env:=V.mkE V.tys [] [] [] [] [] []
theorem U5.eq (x0:List Int):V.evBody U5.E U5.con Tryz.f143 ((x0):List Int)=U5 x0:=by kernel_rfl
theorem U5.ok :V.Valid Tryz.prog 143 U5.con:=
 V.fo V.tab_nil Tryz.func143 (by kernel_rfl) (fun x y h=>(show V.evBody U5.E U5.con Tryz.f143 x=_ from U5.eq x).trans (V.cfl (by kernel_rfl) h))
noncomputable abbrev W7.con :V.Con:=⟨(.cons (.sl (V.ci .nil)) (V.ci .nil)),(.cons (.sl (V.ci .nil)) (V.ci .nil)),fun(x:List Int×Int)=>W7 x,[],[(true,2)],[(true,2)],[true,false],[]⟩
noncomputable abbrev W7.E :V.Env:=V.mkE V.tys [(143,U5.con)] [] [(1,5)] [] [] []
theorem W7.eq (x0:Zc):V.evBody W7.E W7.con Tryz.f93 ((x0.1,x0.2):List Int×Int)=W7 x0:=by kernel_rfl
theorem W7.ok :V.Valid Tryz.prog 93 W7.con:=
 V.fo (V.tab_cons U5.ok V.tab_nil) Tryz.func93 (by kernel_rfl) (fun x y h=>(show V.evBody W7.E W7.con Tryz.f93 x=_ from W7.eq x).trans (V.cfl (by kernel_rfl) h))
noncomputable abbrev X4.con :V.Con:=⟨V.A0,V.eHead,fun(x:V.D0)=>X4 (V.p0_0 x),[],[(true,16)],[(true,16)],[false,false,false,false,false,false,false,false,true,false,true,false,false,true,false,false],[]⟩
noncomputable abbrev X4.E :V.Env:=V.mkE V.tys [(93,W7.con)] [] [(1,10)] [] [] []
noncomputable abbrev X4.kt (x0:Z6):V.Kt Z6:=V.ktOf X4.E X4.con Tryz.f95 (V.fl0 x0)
noncomputable abbrev X4.s (x0:Z6):V.St:=⟨[(0, .v true (V.lsHead x0))],[]⟩
theorem X4.v0 (x0:Z6):V.evBody X4.E X4.con Tryz.f95 (V.fl0 x0)=V.evC X4.E Tryz.f95.ntmps (V.codeOf Tryz.f95) (X4.kt x0) (X4.s x0):=by kernel_rfl
theorem X4.v (x0:Z6):V.evC X4.E Tryz.f95.ntmps (V.codeOf Tryz.f95) (X4.kt x0) (X4.s x0)=X4 x0:=by kernel_rfl
theorem X4.eq (x0:Z6):V.evBody X4.E X4.con Tryz.f95 (V.fl0 x0)=X4 x0:=(X4.v0 x0).trans (X4.v x0)
theorem X4.ok :V.Valid Tryz.prog 95 X4.con:=
 V.fo (V.tab_cons W7.ok V.tab_nil) Tryz.func95 (by kernel_rfl) (fun x y h=>(show V.evBody X4.E X4.con Tryz.f95 x=_ from X4.eq (V.p0_0 x)).trans (V.cfl (by kernel_rfl) h))
noncomputable abbrev U4.con :V.Con:=⟨(.cons (.sl (V.ci (V.ci .nil))) .nil),(.cons (.sl (V.ci (V.ci .nil))) .nil),fun(x:List Zb)=>U4 x,[],[(false,1)],[(false,1)],[true],[]⟩
noncomputable abbrev U4.E :V.Env:=V.mkE V.tys [] [] [] [] [] []
theorem U4.eq (x0:List Zb):V.evBody U4.E U4.con Tryz.f123 ((x0):List Zb)=U4 x0:=by kernel_rfl
theorem U4.ok :V.Valid Tryz.prog 123 U4.con:=
 V.fo V.tab_nil Tryz.func123 (by kernel_rfl) (fun x y h=>(show V.evBody U4.E U4.con Tryz.f123 x=_ from U4.eq x).trans (V.cfl (by kernel_rfl) h))
noncomputable abbrev Xa.con :V.Con:=⟨V.A2,V.eSigned,fun(x:V.D2)=>Xa (V.p2_0 x),[],[(true,17)],[(true,17)],[false,false,false,false,false,false,false,false,true,false,true,false,false,true,false,false,true],[]⟩
noncomputable abbrev Xa.E :V.Env:=V.mkE V.tys [(95,X4.con),(123,U4.con)] [] [(1,5)] [] [] []
noncomputable abbrev Xa.kt (x0:Z5):V.Kt Z5:=V.ktOf Xa.E Xa.con Tryz.f73 (V.fl2 x0)
noncomputable abbrev Xa.s (x0:Z5):V.St:=⟨[(0, .v true (V.lsSigned x0))],[]⟩
theorem Xa.v0 (x0:Z5):V.evBody Xa.E Xa.con Tryz.f73 (V.fl2 x0)=V.evC Xa.E Tryz.f73.ntmps (V.codeOf Tryz.f73) (Xa.kt x0) (Xa.s x0):=by kernel_rfl
theorem Xa.v (x0:Z5):V.evC Xa.E Tryz.f73.ntmps (V.codeOf Tryz.f73) (Xa.kt x0) (Xa.s x0)=Xa x0:=by kernel_rfl
theorem Xa.eq (x0:Z5):V.evBody Xa.E Xa.con Tryz.f73 (V.fl2 x0)=Xa x0:=(Xa.v0 x0).trans (Xa.v x0)
theorem Xa.ok :V.Valid Tryz.prog 73 Xa.con:=
 V.fo (V.tab_cons X4.ok (V.tab_cons U4.ok V.tab_nil)) Tryz.func73 (by kernel_rfl) (fun x y h=>(show V.evBody Xa.E Xa.con Tryz.f73 x=_ from Xa.eq (V.p2_0 x)).trans (V.cfl (by kernel_rfl) h))
noncomputable abbrev Yo.con :V.Con:=⟨(.cons (.sl V.eSigned) .nil),(.cons (.sl V.eSigned) .nil),fun(x:List Z5)=>Yo x,[],[(false,1)],[(false,1)],[true],[]⟩
noncomputable abbrev Yo.E :V.Env:=V.mkE V.tys [(73,Xa.con)] [(6,[3,7,8,9],[(64000038400192,V.eSigned,true)])] [] [] [] []
noncomputable abbrev Yo.kt (x0:List Z5):V.Kt (List Z5):=V.ktOf Yo.E Yo.con Tryz.f71 ((x0):List Z5)
noncomputable abbrev Yo.s6 (x0:List Z5)(v6_1:Int)(v6_2:Int)(v6_3:List Z5):V.St:=⟨[(3, .v false [.ref 64000038400192]),(7, .v false [.val (.sl V.eSigned x0)]),(8, .v false [.vi (v6_1)]),(9, .v false [.vi (v6_2)])],[(64000038400192, .row V.eSigned true v6_3)]⟩
theorem Yo.r6 (x0:List Z5)(R:V.St→Option (List Z5))(v6_1:Int)(v6_2:Int)(v6_3:List Z5):V.loopF Yo.E Tryz.f71.ntmps [1,1,0,1,0] [] (V.codeOf Tryz.f71) (Yo.kt x0) R (Yo.s6 x0 v6_1 v6_2 v6_3)=Yo.g6 x0 (fun v6_1 v6_2 v6_3=>R (Yo.s6 x0 v6_1 v6_2 v6_3)) v6_1 v6_2 v6_3:=by kernel_rfl
theorem Yo.e6 (x0:List Z5):∀(n:Nat) (v6_1:Int) (v6_2:Int) (v6_3:List Z5),V.loopN (V.loopF Yo.E Tryz.f71.ntmps [1,1,0,1,0] [] (V.codeOf Tryz.f71) (Yo.kt x0)) n (Yo.s6 x0 v6_1 v6_2 v6_3)=Yo.l6 x0 n v6_1 v6_2 v6_3:=by
 intro n
 induction n with
 |zero=>intros;rw[V.loopN_z];rfl
 |succ n ih=>
  intro v6_1 v6_2 v6_3
  rw[V.loopN_s,Yo.r6]
  simp only[ih]
  first|exact(Yo.u6 ..).symm|rfl
theorem Yo.v (x0:List Z5):V.evBody Yo.E Yo.con Tryz.f71 ((x0):List Z5)=Yo.b x0 (fun v6_1 v6_2 v6_3=>V.loopN (V.loopF Yo.E Tryz.f71.ntmps [1,1,0,1,0] [] (V.codeOf Tryz.f71) (Yo.kt x0)) V.KK (Yo.s6 x0 v6_1 v6_2 v6_3)):=by kernel_rfl
theorem Yo.eq (x0:List Z5):V.evBody Yo.E Yo.con Tryz.f71 ((x0):List Z5)=Yo x0:=by
 rw[Yo.v]
 simp only[Yo.e6]
 rfl
theorem Yo.ok :V.Valid Tryz.prog 71 Yo.con:=
 V.fo (V.tab_cons Xa.ok V.tab_nil) Tryz.func71 (by kernel_rfl) (fun x y h=>(show V.evBody Yo.E Yo.con Tryz.f71 x=_ from Yo.eq x).trans (V.cfl (by kernel_rfl) h))
noncomputable abbrev U6.con :V.Con:=⟨(.cons (.sl (.cons .str .nil)) .nil),(.cons (.sl (.cons .str .nil)) .nil),fun(x:List ByteArray)=>U6 x,[],[(false,1)],[(false,1)],[true],[]⟩
noncomputable abbrev U6.E :V.Env:=V.mkE V.tys [] [] [] [] [] []
theorem U6.eq (x0:List ByteArray):V.evBody U6.E U6.con Tryz.f124 ((x0):List ByteArray)=U6 x0:=by kernel_rfl
theorem U6.ok :V.Valid Tryz.prog 124 U6.con:=
 V.fo V.tab_nil Tryz.func124 (by kernel_rfl) (fun x y h=>(show V.evBody U6.E U6.con Tryz.f124 x=_ from U6.eq x).trans (V.cfl (by kernel_rfl) h))
noncomputable abbrev WI.con :V.Con:=⟨V.eEntry,V.eEntry,fun(x:ByteArray×Int×Int×List ByteArray)=>WI x,[],[(true,4)],[(true,4)],[false,false,false,true],[]⟩
noncomputable abbrev WI.E :V.Env:=V.mkE V.tys [(124,U6.con)] [] [] [] [] []
theorem WI.eq (x0:Z4):V.evBody WI.E WI.con Tryz.f74 ((x0.1,x0.2.1,x0.2.2.1,x0.2.2.2):ByteArray×Int×Int×List ByteArray)=WI x0:=by kernel_rfl
theorem WI.ok :V.Valid Tryz.prog 74 WI.con:=
 V.fo (V.tab_cons U6.ok V.tab_nil) Tryz.func74 (by kernel_rfl) (fun x y h=>(show V.evBody WI.E WI.con Tryz.f74 x=_ from WI.eq x).trans (V.cfl (by kernel_rfl) h))
noncomputable abbrev Y7.con :V.Con:=⟨(.cons (.sl V.eEntry) .nil),(.cons (.sl V.eEntry) .nil),fun(x:List Z4)=>Y7 x,[],[(false,1)],[(false,1)],[true],[]⟩
noncomputable abbrev Y7.E :V.Env:=V.mkE V.tys [(74,WI.con)] [(6,[3,7,8,9],[(64000038400192,V.eEntry,true)])] [] [] [] []
noncomputable abbrev Y7.kt (x0:List Z4):V.Kt (List Z4):=V.ktOf Y7.E Y7.con Tryz.f36 ((x0):List Z4)
noncomputable abbrev Y7.s6 (x0:List Z4)(v6_1:Int)(v6_2:Int)(v6_3:List Z4):V.St:=⟨[(3, .v false [.ref 64000038400192]),(7, .v false [.val (.sl V.eEntry x0)]),(8, .v false [.vi (v6_1)]),(9, .v false [.vi (v6_2)])],[(64000038400192, .row V.eEntry true v6_3)]⟩
theorem Y7.r6 (x0:List Z4)(R:V.St→Option (List Z4))(v6_1:Int)(v6_2:Int)(v6_3:List Z4):V.loopF Y7.E Tryz.f36.ntmps [1,1,0,1,0] [] (V.codeOf Tryz.f36) (Y7.kt x0) R (Y7.s6 x0 v6_1 v6_2 v6_3)=Y7.g6 x0 (fun v6_1 v6_2 v6_3=>R (Y7.s6 x0 v6_1 v6_2 v6_3)) v6_1 v6_2 v6_3:=by kernel_rfl
theorem Y7.e6 (x0:List Z4):∀(n:Nat) (v6_1:Int) (v6_2:Int) (v6_3:List Z4),V.loopN (V.loopF Y7.E Tryz.f36.ntmps [1,1,0,1,0] [] (V.codeOf Tryz.f36) (Y7.kt x0)) n (Y7.s6 x0 v6_1 v6_2 v6_3)=Y7.l6 x0 n v6_1 v6_2 v6_3:=by
 intro n
 induction n with
 |zero=>intros;rw[V.loopN_z];rfl
 |succ n ih=>
  intro v6_1 v6_2 v6_3
  rw[V.loopN_s,Y7.r6]
  simp only[ih]
  first|exact(Y7.u6 ..).symm|rfl
theorem Y7.v (x0:List Z4):V.evBody Y7.E Y7.con Tryz.f36 ((x0):List Z4)=Y7.b x0 (fun v6_1 v6_2 v6_3=>V.loopN (V.loopF Y7.E Tryz.f36.ntmps [1,1,0,1,0] [] (V.codeOf Tryz.f36) (Y7.kt x0)) V.KK (Y7.s6 x0 v6_1 v6_2 v6_3)):=by kernel_rfl
theorem Y7.eq (x0:List Z4):V.evBody Y7.E Y7.con Tryz.f36 ((x0):List Z4)=Y7 x0:=by
 rw[Y7.v]
 simp only[Y7.e6]
 rfl
theorem Y7.ok :V.Valid Tryz.prog 36 Y7.con:=
 V.fo (V.tab_cons WI.ok V.tab_nil) Tryz.func36 (by kernel_rfl) (fun x y h=>(show V.evBody Y7.E Y7.con Tryz.f36 x=_ from Y7.eq x).trans (V.cfl (by kernel_rfl) h))
noncomputable abbrev W0.con :V.Con:=⟨(.cons (.sl V.eSigned) (.cons (.sl V.eEntry) .nil)),(.cons (.sl V.eSigned) (.cons (.sl V.eEntry) .nil)),fun(x:List Z5×List Z4)=>W0 x,[],[(true,2)],[(true,2)],[true,true],[]⟩
noncomputable abbrev W0.E :V.Env:=V.mkE V.tys [(36,Y7.con),(71,Yo.con)] [] [(1,5)] [] [] []
theorem W0.eq (x0:Zt):V.evBody W0.E W0.con Tryz.f32 ((x0.1,x0.2):List Z5×List Z4)=W0 x0:=by kernel_rfl
theorem W0.ok :V.Valid Tryz.prog 32 W0.con:=
 V.fo (V.tab_cons Y7.ok (V.tab_cons Yo.ok V.tab_nil)) Tryz.func32 (by kernel_rfl) (fun x y h=>(show V.evBody W0.E W0.con Tryz.f32 x=_ from W0.eq x).trans (V.cfl (by kernel_rfl) h))
noncomputable abbrev Yq.con :V.Con:=⟨(.cons (.sl (V.ci .nil)) (V.ci .nil)),(V.ci .nil),fun(x:List Int×Int)=>Yq x.1 x.2,[],[(false,1),(false,1)],[(false,1)],[false],[]⟩
noncomputable abbrev Yq.E :V.Env:=V.mkE V.tys [] [(4,[0,1,7,8],[])] [] [] [] []
noncomputable abbrev Yq.kt (x0:List Int)(x1:Int):V.Kt Int:=V.ktOf Yq.E Yq.con Tryz.f183 ((x0,x1):List Int×Int)
noncomputable abbrev Yq.s4 (x0:List Int)(x1:Int)(v4_2:Int)(v4_3:Int):V.St:=⟨[(0, .v false [.val (.sl (V.ci .nil) x0)]),(1, .v false [.vi (x1)]),(7, .v false [.vi (v4_2)]),(8, .v false [.vi (v4_3)])],[]⟩
theorem Yq.r4 (x0:List Int)(x1:Int)(R:V.St→Option Int)(v4_2:Int)(v4_3:Int):V.loopF Yq.E Tryz.f183.ntmps [1,0,1,0] [] (V.codeOf Tryz.f183) (Yq.kt x0 x1) R (Yq.s4 x0 x1 v4_2 v4_3)=Yq.g4 x0 x1 (fun v4_2 v4_3=>R (Yq.s4 x0 x1 v4_2 v4_3)) v4_2 v4_3:=by kernel_rfl
theorem Yq.e4 (x0:List Int)(x1:Int):∀(n:Nat) (v4_2:Int) (v4_3:Int),V.loopN (V.loopF Yq.E Tryz.f183.ntmps [1,0,1,0] [] (V.codeOf Tryz.f183) (Yq.kt x0 x1)) n (Yq.s4 x0 x1 v4_2 v4_3)=Yq.l4 x0 x1 n v4_2 v4_3:=by
 intro n
 induction n with
 |zero=>intros;rw[V.loopN_z];rfl
 |succ n ih=>
  intro v4_2 v4_3
  rw[V.loopN_s,Yq.r4]
  simp only[ih]
  first|exact(Yq.u4 ..).symm|rfl
theorem Yq.v (x0:List Int)(x1:Int):V.evBody Yq.E Yq.con Tryz.f183 ((x0,x1):List Int×Int)=Yq.b x0 x1 (fun v4_2 v4_3=>V.loopN (V.loopF Yq.E Tryz.f183.ntmps [1,0,1,0] [] (V.codeOf Tryz.f183) (Yq.kt x0 x1)) V.KK (Yq.s4 x0 x1 v4_2 v4_3)):=by kernel_rfl
theorem Yq.eq (x0:List Int)(x1:Int):V.evBody Yq.E Yq.con Tryz.f183 ((x0,x1):List Int×Int)=Yq x0 x1:=by
 rw[Yq.v]
 simp only[Yq.e4]
 rfl
theorem Yq.ok :V.Valid Tryz.prog 183 Yq.con:=
 V.fo V.tab_nil Tryz.func183 (by kernel_rfl) (fun x y h=>(show V.evBody Yq.E Yq.con Tryz.f183 x=_ from Yq.eq x.1 x.2).trans (V.cfl (by kernel_rfl) h))
noncomputable abbrev U9.con :V.Con:=⟨(.cons (.sl (V.ci .nil)) (V.ci .nil)),(.cons .bool .nil),fun(x:List Int×Int)=>U9 x.1 x.2,[],[(false,1),(false,1)],[(false,1)],[false],[]⟩
noncomputable abbrev U9.E :V.Env:=V.mkE V.tys [(183,Yq.con)] [] [] [] [] []
theorem U9.eq (x0:List Int)(x1:Int):V.evBody U9.E U9.con Tryz.f150 ((x0,x1):List Int×Int)=U9 x0 x1:=by kernel_rfl
theorem U9.ok :V.Valid Tryz.prog 150 U9.con:=
 V.fo (V.tab_cons Yq.ok V.tab_nil) Tryz.func150 (by kernel_rfl) (fun x y h=>(show V.evBody U9.E U9.con Tryz.f150 x=_ from U9.eq x.1 x.2).trans (V.cfl (by kernel_rfl) h))
noncomputable abbrev Ym.con :V.Con:=⟨(.cons (.sl (V.ci .nil)) (.cons (.sl (V.ci .nil)) (V.ci (.cons (.sl (V.ci .nil)) .nil)))),(.cons (.sl (V.ci (V.ci .nil))) .nil),fun(x:List Int×List Int×Int×List Int)=>Ym x.1 (x.2.1,x.2.2.1) x.2.2.2,[],[(false,1),(true,2),(false,1)],[(false,1)],[true],[]⟩
noncomputable abbrev Ym.E :V.Env:=V.mkE V.tys [(150,U9.con),(151,Wo.con)] [(6,[0,2,7,12,13,14],[(64000038400448,(V.ci (V.ci .nil)),true)])] [] [] [] []
noncomputable abbrev Ym.kt (x0:List Int)(x1:Zc)(x2:List Int):V.Kt (List Zb):=V.ktOf Ym.E Ym.con Tryz.f96 ((x0,x1.1,x1.2,x2):List Int×List Int×Int×List Int)
noncomputable abbrev Ym.s6 (x0:List Int)(x1:Zc)(x2:List Int)(v6_3:Int)(v6_4:Int)(v6_5:List Zb):V.St:=⟨[(0, .v false [.val (.sl (V.ci .nil) x0)]),(2, .v false [.val (.sl (V.ci .nil) x2)]),(7, .v false [.ref 64000038400448]),(12, .v false [.val (.sl (V.ci .nil) x1.1)]),(13, .v false [.vi (v6_3)]),(14, .v false [.vi (v6_4)])],[(64000038400448, .row (V.ci (V.ci .nil)) true v6_5)]⟩
theorem Ym.r6 (x0:List Int)(x1:Zc)(x2:List Int)(R:V.St→Option (List Zb))(v6_3:Int)(v6_4:Int)(v6_5:List Zb):V.loopF Ym.E Tryz.f96.ntmps [1,1,0,1,0] [] (V.codeOf Tryz.f96) (Ym.kt x0 x1 x2) R (Ym.s6 x0 x1 x2 v6_3 v6_4 v6_5)=Ym.g6 x0 x1 x2 (fun v6_3 v6_4 v6_5=>R (Ym.s6 x0 x1 x2 v6_3 v6_4 v6_5)) v6_3 v6_4 v6_5:=by kernel_rfl
theorem Ym.e6 (x0:List Int)(x1:Zc)(x2:List Int):∀(n:Nat) (v6_3:Int) (v6_4:Int) (v6_5:List Zb),V.loopN (V.loopF Ym.E Tryz.f96.ntmps [1,1,0,1,0] [] (V.codeOf Tryz.f96) (Ym.kt x0 x1 x2)) n (Ym.s6 x0 x1 x2 v6_3 v6_4 v6_5)=Ym.l6 x0 x1 x2 n v6_3 v6_4 v6_5:=by
 intro n
 induction n with
 |zero=>intros;rw[V.loopN_z];rfl
 |succ n ih=>
  intro v6_3 v6_4 v6_5
  rw[V.loopN_s,Ym.r6]
  simp only[ih]
  first|exact(Ym.u6 ..).symm|rfl
theorem Ym.v (x0:List Int)(x1:Zc)(x2:List Int):V.evBody Ym.E Ym.con Tryz.f96 ((x0,x1.1,x1.2,x2):List Int×List Int×Int×List Int)=Ym.b x0 x1 x2 (fun v6_3 v6_4 v6_5=>V.loopN (V.loopF Ym.E Tryz.f96.ntmps [1,1,0,1,0] [] (V.codeOf Tryz.f96) (Ym.kt x0 x1 x2)) V.KK (Ym.s6 x0 x1 x2 v6_3 v6_4 v6_5)):=by kernel_rfl
theorem Ym.eq (x0:List Int)(x1:Zc)(x2:List Int):V.evBody Ym.E Ym.con Tryz.f96 ((x0,x1.1,x1.2,x2):List Int×List Int×Int×List Int)=Ym x0 x1 x2:=by
 rw[Ym.v]
 simp only[Ym.e6]
 rfl
theorem Ym.ok :V.Valid Tryz.prog 96 Ym.con:=
 V.fo (V.tab_cons U9.ok (V.tab_cons Wo.ok V.tab_nil)) Tryz.func96 (by kernel_rfl) (fun x y h=>(show V.evBody Ym.E Ym.con Tryz.f96 x=_ from Ym.eq x.1 (x.2.1,x.2.2.1) x.2.2.2).trans (V.cfl (by kernel_rfl) h))
noncomputable abbrev Xg.con :V.Con:=⟨V.A1,V.eSigned,fun(x:V.D1)=>Xg (V.p1_0 x) (V.p1_1 x) (V.p1_2 x),[],[(false,1),(true,2),(true,16)],[(true,17)],[false,false,false,false,false,false,false,false,true,false,true,false,false,true,false,false,true],[]⟩
noncomputable abbrev Xg.E :V.Env:=V.mkE V.tys [(88,YZ.con),(95,X4.con),(96,Ym.con)] [] [(1,6)] [] [] []
noncomputable abbrev Xg.kt (x0:List Int)(x1:Zc)(x2:Z6):V.Kt Z5:=V.ktOf Xg.E Xg.con Tryz.f52 (V.fl1 x0 x1 x2)
noncomputable abbrev Xg.s (x0:List Int)(x1:Zc)(x2:Z6):V.St:=⟨[(0, .v false [.val (.sl (V.ci .nil) x0)]),(1, .v true [.val (.sl (V.ci .nil) x1.1), .vi (x1.2)]),(2, .v true (V.lsHead x2))],[]⟩
theorem Xg.v0 (x0:List Int)(x1:Zc)(x2:Z6):V.evBody Xg.E Xg.con Tryz.f52 (V.fl1 x0 x1 x2)=V.evC Xg.E Tryz.f52.ntmps (V.codeOf Tryz.f52) (Xg.kt x0 x1 x2) (Xg.s x0 x1 x2):=by kernel_rfl
theorem Xg.v (x0:List Int)(x1:Zc)(x2:Z6):V.evC Xg.E Tryz.f52.ntmps (V.codeOf Tryz.f52) (Xg.kt x0 x1 x2) (Xg.s x0 x1 x2)=Xg x0 x1 x2:=by kernel_rfl
theorem Xg.eq (x0:List Int)(x1:Zc)(x2:Z6):V.evBody Xg.E Xg.con Tryz.f52 (V.fl1 x0 x1 x2)=Xg x0 x1 x2:=(Xg.v0 x0 x1 x2).trans (Xg.v x0 x1 x2)
theorem Xg.ok :V.Valid Tryz.prog 52 Xg.con:=
 V.fo (V.tab_cons YZ.ok (V.tab_cons X4.ok (V.tab_cons Ym.ok V.tab_nil))) Tryz.func52 (by kernel_rfl) (fun x y h=>(show V.evBody Xg.E Xg.con Tryz.f52 x=_ from Xg.eq (V.p1_0 x) (V.p1_1 x) (V.p1_2 x)).trans (V.cfl (by kernel_rfl) h))
noncomputable abbrev Yu.con :V.Con:=⟨V.A8,V.eSigned,fun(x:V.D8)=>Yu (V.p8_0 x) (V.p8_1 x) (V.p8_2 x),[],[(true,16),(true,16),(false,1)],[(true,17)],[false,false,false,false,false,false,false,false,true,false,true,false,false,true,false,false,true],[]⟩
noncomputable abbrev Yu.E :V.Env:=V.mkE V.tys [(52,Xg.con)] [(15,[2,4,6,7],[])] [] [] [] []
noncomputable abbrev Yu.kt (x0:Z6)(x1:Z6)(x2:List Int):V.Kt Z5:=V.ktOf Yu.E Yu.con Tryz.f34 (V.fl8 x0 x1 x2)
noncomputable abbrev Yu.s15 (x1:Z6)(x2:List Int)(v15_30:List Int)(v15_31:Int):V.St:=⟨[(2, .v false [.val (.sl (V.ci .nil) x2)]),(4, .v false [.ptr 64064 0]),(6, .v false [.ptr 64128 0]),(7, .v false [.ptr 128128 0])],[(64064, .box (V.lsHead x1)),(64128, .box [.vi ((0:Int)), .vi ((0:Int)), .vi ((0:Int)), .vi ((0:Int)), .vi ((0:Int)), .vi ((0:Int)), .vi ((0:Int)), .vi ((0:Int)), .nil0, .vi ((0:Int)), .nil0, .vi ((0:Int)), .vi ((0:Int)), .nil0, .vi ((0:Int)), .val (.bool false), .nil0]),(128128, .box [.val (.sl (V.ci .nil) v15_30), .vi (v15_31)])]⟩
theorem Yu.r15 (x0:Z6)(x1:Z6)(x2:List Int)(v15_30:List Int)(v15_31:Int):V.joinF Yu.E Tryz.f34.ntmps [1,1] [] (V.codeOf Tryz.f34) (Yu.kt x0 x1 x2) (Yu.s15 x1 x2 v15_30 v15_31)=Yu.g15 x1 x2 v15_30 v15_31:=by kernel_rfl
theorem Yu.e15 (x0:Z6)(x1:Z6)(x2:List Int)(v15_30:List Int)(v15_31:Int):V.jn (V.joinF Yu.E Tryz.f34.ntmps [1,1] [] (V.codeOf Tryz.f34) (Yu.kt x0 x1 x2)) (Yu.s15 x1 x2 v15_30 v15_31)=Yu.l15 x1 x2 v15_30 v15_31:=by
 rw[V.jn_eq,Yu.r15]
 rfl
noncomputable abbrev Yu.s (x0:Z6)(x1:Z6)(x2:List Int):V.St:=⟨[(0, .v true (V.lsHead x0)),(1, .v true (V.lsHead x1)),(2, .v false [.val (.sl (V.ci .nil) x2)])],[]⟩
theorem Yu.v0 (x0:Z6)(x1:Z6)(x2:List Int):V.evBody Yu.E Yu.con Tryz.f34 (V.fl8 x0 x1 x2)=V.evC Yu.E Tryz.f34.ntmps (V.codeOf Tryz.f34) (Yu.kt x0 x1 x2) (Yu.s x0 x1 x2):=by kernel_rfl
theorem Yu.v (x0:Z6)(x1:Z6)(x2:List Int):V.evC Yu.E Tryz.f34.ntmps (V.codeOf Tryz.f34) (Yu.kt x0 x1 x2) (Yu.s x0 x1 x2)=Yu.b x0 x1 x2 (fun v15_30 v15_31=>V.jn (V.joinF Yu.E Tryz.f34.ntmps [1,1] [] (V.codeOf Tryz.f34) (Yu.kt x0 x1 x2)) (Yu.s15 x1 x2 v15_30 v15_31)):=by kernel_rfl
theorem Yu.eq (x0:Z6)(x1:Z6)(x2:List Int):V.evBody Yu.E Yu.con Tryz.f34 (V.fl8 x0 x1 x2)=Yu x0 x1 x2:=by
 rw[Yu.v0,Yu.v]
 simp only[Yu.e15]
 rfl
theorem Yu.ok :V.Valid Tryz.prog 34 Yu.con:=
 V.fo (V.tab_cons Xg.ok V.tab_nil) Tryz.func34 (by kernel_rfl) (fun x y h=>(show V.evBody Yu.E Yu.con Tryz.f34 x=_ from Yu.eq (V.p8_0 x) (V.p8_1 x) (V.p8_2 x)).trans (V.cfl (by kernel_rfl) h))
noncomputable abbrev Yt.con :V.Con:=⟨V.A9,(.cons (.sl V.eSigned) (V.ci .nil)),fun(x:V.D9)=>Yt (V.p9_0 x) (V.p9_1 x),[],[(false,1),(true,17)],[(false,1),(false,1)],[true,false],[]⟩
noncomputable abbrev Yt.E :V.Env:=V.mkE V.tys [(35,XG.con),(42,Wn.con),(71,Yo.con),(72,Y3.con),(73,Xa.con)] [(7,[0,3,6,17],[])] [(4,3)] [] [] []
noncomputable abbrev Yt.kt (x0:List Z5)(x1:Z5):V.Kt (List Z5×Int):=V.ktOf Yt.E Yt.con Tryz.f33 (V.fl9 x0 x1)
noncomputable abbrev Yt.s7 (x0:List Z5)(x1:Z5)(y1:List Z5)(v7_1:Bool):V.St:=⟨[(0, .v false [.val (.sl V.eSigned x0)]),(3, .v false [.ptr 64000 0]),(6, .v false [.ref 64000044800384]),(17, .v false [.val (.bool v7_1)])],[(64000, .box (V.lsSigned x1)),(64000044800384, .row V.eSigned true y1)]⟩
theorem Yt.r7 (x0:List Z5)(x1:Z5)(y1:List Z5)(v7_1:Bool):V.joinF Yt.E Tryz.f33.ntmps [1,1,0] [] (V.codeOf Tryz.f33) (Yt.kt x0 x1) (Yt.s7 x0 x1 y1 v7_1)=Yt.g7 x0 x1 y1 v7_1:=by kernel_rfl
theorem Yt.e7 (x0:List Z5)(x1:Z5)(y1:List Z5)(v7_1:Bool):V.jn (V.joinF Yt.E Tryz.f33.ntmps [1,1,0] [] (V.codeOf Tryz.f33) (Yt.kt x0 x1)) (Yt.s7 x0 x1 y1 v7_1)=Yt.l7 x0 x1 y1 v7_1:=by
 rw[V.jn_eq,Yt.r7]
 rfl
noncomputable abbrev Yt.s (x0:List Z5)(x1:Z5):V.St:=⟨[(0, .v false [.val (.sl V.eSigned x0)]),(1, .v true (V.lsSigned x1))],[]⟩
theorem Yt.v0 (x0:List Z5)(x1:Z5):V.evBody Yt.E Yt.con Tryz.f33 (V.fl9 x0 x1)=V.evC Yt.E Tryz.f33.ntmps (V.codeOf Tryz.f33) (Yt.kt x0 x1) (Yt.s x0 x1):=by kernel_rfl
theorem Yt.v (x0:List Z5)(x1:Z5):V.evC Yt.E Tryz.f33.ntmps (V.codeOf Tryz.f33) (Yt.kt x0 x1) (Yt.s x0 x1)=Yt.b x0 x1 (fun y1 v7_1=>V.jn (V.joinF Yt.E Tryz.f33.ntmps [1,1,0] [] (V.codeOf Tryz.f33) (Yt.kt x0 x1)) (Yt.s7 x0 x1 y1 v7_1)):=by kernel_rfl
theorem Yt.eq (x0:List Z5)(x1:Z5):V.evBody Yt.E Yt.con Tryz.f33 (V.fl9 x0 x1)=Yt x0 x1:=by
 rw[Yt.v0,Yt.v]
 simp only[Yt.e7]
 rfl
theorem Yt.ok :V.Valid Tryz.prog 33 Yt.con:=
 V.fo (V.tab_cons XG.ok (V.tab_cons Wn.ok (V.tab_cons Yo.ok (V.tab_cons Y3.ok (V.tab_cons Xa.ok V.tab_nil))))) Tryz.func33 (by kernel_rfl) (fun x y h=>(show V.evBody Yt.E Yt.con Tryz.f33 x=_ from Yt.eq (V.p9_0 x) (V.p9_1 x)).trans (V.cfl (by kernel_rfl) h))
noncomputable abbrev Xf.con :V.Con:=⟨V.A10,(.cons (.sl V.eSigned) (.cons (.sl V.eEntry) (V.ci .nil))),fun(x:V.D10)=>Xf (V.p10_0 x) (V.p10_1 x) (V.p10_2 x) (V.p10_3 x),[],[(true,2),(false,1),(true,16),(false,1)],[(true,2),(false,1)],[true,true,false],[]⟩
noncomputable abbrev Xf.E :V.Env:=V.mkE V.tys [(9,XB.con),(32,W0.con),(33,Yt.con),(34,Yu.con),(35,XG.con),(36,Y7.con)] [] [(3,12)] [] [] []
noncomputable abbrev Xf.kt (x0:Zt)(x1:List Int)(x2:Z6)(x3:List Z4):V.Kt XM:=V.ktOf Xf.E Xf.con Tryz.f6 (V.fl10 x0 x1 x2 x3)
noncomputable abbrev Xf.s (x0:Zt)(x1:List Int)(x2:Z6)(x3:List Z4):V.St:=⟨[(0, .v true [.val (.sl V.eSigned x0.1), .val (.sl V.eEntry x0.2)]),(1, .v false [.val (.sl (V.ci .nil) x1)]),(2, .v true (V.lsHead x2)),(3, .v false [.val (.sl V.eEntry x3)])],[]⟩
theorem Xf.v0 (x0:Zt)(x1:List Int)(x2:Z6)(x3:List Z4):V.evBody Xf.E Xf.con Tryz.f6 (V.fl10 x0 x1 x2 x3)=V.evC Xf.E Tryz.f6.ntmps (V.codeOf Tryz.f6) (Xf.kt x0 x1 x2 x3) (Xf.s x0 x1 x2 x3):=by kernel_rfl
theorem Xf.v (x0:Zt)(x1:List Int)(x2:Z6)(x3:List Z4):V.evC Xf.E Tryz.f6.ntmps (V.codeOf Tryz.f6) (Xf.kt x0 x1 x2 x3) (Xf.s x0 x1 x2 x3)=Xf x0 x1 x2 x3:=by kernel_rfl
theorem Xf.eq (x0:Zt)(x1:List Int)(x2:Z6)(x3:List Z4):V.evBody Xf.E Xf.con Tryz.f6 (V.fl10 x0 x1 x2 x3)=Xf x0 x1 x2 x3:=(Xf.v0 x0 x1 x2 x3).trans (Xf.v x0 x1 x2 x3)
theorem Xf.ok :V.Valid Tryz.prog 6 Xf.con:=
 V.fo (V.tab_cons XB.ok (V.tab_cons W0.ok (V.tab_cons Yt.ok (V.tab_cons Yu.ok (V.tab_cons XG.ok (V.tab_cons Y7.ok V.tab_nil)))))) Tryz.func6 (by kernel_rfl) (fun x y h=>(show V.evBody Xf.E Xf.con Tryz.f6 x=_ from Xf.eq (V.p10_0 x) (V.p10_1 x) (V.p10_2 x) (V.p10_3 x)).trans (V.cfl (by kernel_rfl) h))
noncomputable abbrev X9.con :V.Con:=⟨V.A3,(.cons .bool .nil),fun(x:V.D3)=>X9 (V.p3_0 x) (V.p3_1 x),[],[(true,16),(true,16)],[(false,1)],[false],[]⟩
noncomputable abbrev X9.E :V.Env:=V.mkE V.tys [(86,XC.con),(87,ZW.con),(88,YZ.con)] [] [(1,23)] [] [] []
noncomputable abbrev X9.kt (x0:Z6)(x1:Z6):V.Kt Bool:=V.ktOf X9.E X9.con Tryz.f45 (V.fl3 x0 x1)
noncomputable abbrev X9.s (x0:Z6)(x1:Z6):V.St:=⟨[(0, .v true (V.lsHead x0)),(1, .v true (V.lsHead x1))],[]⟩
theorem X9.v0 (x0:Z6)(x1:Z6):V.evBody X9.E X9.con Tryz.f45 (V.fl3 x0 x1)=V.evC X9.E Tryz.f45.ntmps (V.codeOf Tryz.f45) (X9.kt x0 x1) (X9.s x0 x1):=by kernel_rfl
theorem X9.v (x0:Z6)(x1:Z6):V.evC X9.E Tryz.f45.ntmps (V.codeOf Tryz.f45) (X9.kt x0 x1) (X9.s x0 x1)=X9 x0 x1:=by kernel_rfl
theorem X9.eq (x0:Z6)(x1:Z6):V.evBody X9.E X9.con Tryz.f45 (V.fl3 x0 x1)=X9 x0 x1:=(X9.v0 x0 x1).trans (X9.v x0 x1)
theorem X9.ok :V.Valid Tryz.prog 45 X9.con:=
 V.fo (V.tab_cons XC.ok (V.tab_cons ZW.ok (V.tab_cons YZ.ok V.tab_nil))) Tryz.func45 (by kernel_rfl) (fun x y h=>(show V.evBody X9.E X9.con Tryz.f45 x=_ from X9.eq (V.p3_0 x) (V.p3_1 x)).trans (V.cfl (by kernel_rfl) h))
noncomputable abbrev Y5.con :V.Con:=⟨(.cons (.sl (V.ci (V.ci .nil))) (.cons (.sl (V.ci (V.ci .nil))) .nil)),(.cons .bool .nil),fun(x:List Zb×List Zb)=>Y5 x.1 x.2,[],[(false,1),(false,1)],[(false,1)],[false],[]⟩
noncomputable abbrev Y5.E :V.Env:=V.mkE V.tys [] [(8,[0,1,12,13],[])] [(6,8)] [] [] []
noncomputable abbrev Y5.kt (x0:List Zb)(x1:List Zb):V.Kt Bool:=V.ktOf Y5.E Y5.con Tryz.f132 ((x0,x1):List Zb×List Zb)
noncomputable abbrev Y5.s8 (x0:List Zb)(x1:List Zb)(v8_2:Int)(v8_3:Int):V.St:=⟨[(0, .v false [.val (.sl (V.ci (V.ci .nil)) x0)]),(1, .v false [.val (.sl (V.ci (V.ci .nil)) x1)]),(12, .v false [.vi (v8_2)]),(13, .v false [.vi (v8_3)])],[]⟩
theorem Y5.r8 (x0:List Zb)(x1:List Zb)(R:V.St→Option Bool)(v8_2:Int)(v8_3:Int):V.loopF Y5.E Tryz.f132.ntmps [1,1,0,1,0] [] (V.codeOf Tryz.f132) (Y5.kt x0 x1) R (Y5.s8 x0 x1 v8_2 v8_3)=Y5.g8 x0 x1 (fun v8_2 v8_3=>R (Y5.s8 x0 x1 v8_2 v8_3)) v8_2 v8_3:=by kernel_rfl
theorem Y5.e8 (x0:List Zb)(x1:List Zb):∀(n:Nat) (v8_2:Int) (v8_3:Int),V.loopN (V.loopF Y5.E Tryz.f132.ntmps [1,1,0,1,0] [] (V.codeOf Tryz.f132) (Y5.kt x0 x1)) n (Y5.s8 x0 x1 v8_2 v8_3)=Y5.l8 x0 x1 n v8_2 v8_3:=by
 intro n
 induction n with
 |zero=>intros;rw[V.loopN_z];rfl
 |succ n ih=>
  intro v8_2 v8_3
  rw[V.loopN_s,Y5.r8]
  simp only[ih]
  first|exact(Y5.u8 ..).symm|rfl
theorem Y5.v (x0:List Zb)(x1:List Zb):V.evBody Y5.E Y5.con Tryz.f132 ((x0,x1):List Zb×List Zb)=Y5.b x0 x1 (fun v8_2 v8_3=>V.loopN (V.loopF Y5.E Tryz.f132.ntmps [1,1,0,1,0] [] (V.codeOf Tryz.f132) (Y5.kt x0 x1)) V.KK (Y5.s8 x0 x1 v8_2 v8_3)):=by kernel_rfl
theorem Y5.eq (x0:List Zb)(x1:List Zb):V.evBody Y5.E Y5.con Tryz.f132 ((x0,x1):List Zb×List Zb)=Y5 x0 x1:=by
 rw[Y5.v]
 simp only[Y5.e8]
 rfl
theorem Y5.ok :V.Valid Tryz.prog 132 Y5.con:=
 V.fo V.tab_nil Tryz.func132 (by kernel_rfl) (fun x y h=>(show V.evBody Y5.E Y5.con Tryz.f132 x=_ from Y5.eq x.1 x.2).trans (V.cfl (by kernel_rfl) h))
noncomputable abbrev Xp.con :V.Con:=⟨V.A12,(.cons .bool .nil),fun(x:V.D12)=>Xp (V.p12_0 x) (V.p12_1 x),[],[(true,17),(true,17)],[(false,1)],[false],[]⟩
noncomputable abbrev Xp.E :V.Env:=V.mkE V.tys [(45,X9.con),(132,Y5.con)] [] [] [] [] []
noncomputable abbrev Xp.kt (x0:Z5)(x1:Z5):V.Kt Bool:=V.ktOf Xp.E Xp.con Tryz.f81 (V.fl12 x0 x1)
noncomputable abbrev Xp.s (x0:Z5)(x1:Z5):V.St:=⟨[(0, .v true (V.lsSigned x0)),(1, .v true (V.lsSigned x1))],[]⟩
theorem Xp.v0 (x0:Z5)(x1:Z5):V.evBody Xp.E Xp.con Tryz.f81 (V.fl12 x0 x1)=V.evC Xp.E Tryz.f81.ntmps (V.codeOf Tryz.f81) (Xp.kt x0 x1) (Xp.s x0 x1):=by kernel_rfl
theorem Xp.v (x0:Z5)(x1:Z5):V.evC Xp.E Tryz.f81.ntmps (V.codeOf Tryz.f81) (Xp.kt x0 x1) (Xp.s x0 x1)=Xp x0 x1:=by kernel_rfl
theorem Xp.eq (x0:Z5)(x1:Z5):V.evBody Xp.E Xp.con Tryz.f81 (V.fl12 x0 x1)=Xp x0 x1:=(Xp.v0 x0 x1).trans (Xp.v x0 x1)
theorem Xp.ok :V.Valid Tryz.prog 81 Xp.con:=
 V.fo (V.tab_cons X9.ok (V.tab_cons Y5.ok V.tab_nil)) Tryz.func81 (by kernel_rfl) (fun x y h=>(show V.evBody Xp.E Xp.con Tryz.f81 x=_ from Xp.eq (V.p12_0 x) (V.p12_1 x)).trans (V.cfl (by kernel_rfl) h))
noncomputable abbrev YG.con :V.Con:=⟨(.cons (.sl V.eSigned) (.cons (.sl V.eSigned) (.cons (.fn 81 false .nil .nil) .nil))),(.cons .bool .nil),fun(x:List Z5×List Z5×(Unit)×(Unit))=>YG x.1 x.2.1 x.2.2,[],[(false,1),(false,1),(false,1)],[(false,1)],[false],[]⟩
noncomputable abbrev YG.E :V.Env:=V.mkE V.tys [(81,Xp.con)] [(8,[1,2,15,16,17],[])] [] [] [] []
noncomputable abbrev YG.kt (x0:List Z5)(x1:List Z5)(x2:(Unit)×(Unit)):V.Kt Bool:=V.ktOf YG.E YG.con Tryz.f80 ((x0,x1,x2):List Z5×List Z5×(Unit)×(Unit))
noncomputable abbrev YG.s8 (x0:List Z5)(x1:List Z5)(v8_2:Int)(v8_3:Int):V.St:=⟨[(1, .v false [.val (.sl V.eSigned x1)]),(2, .v false [.val (.fn 81 false .nil .nil () ())]),(15, .v false [.val (.sl V.eSigned x0)]),(16, .v false [.vi (v8_2)]),(17, .v false [.vi (v8_3)])],[]⟩
theorem YG.r8 (x0:List Z5)(x1:List Z5)(x2:(Unit)×(Unit))(R:V.St→Option Bool)(v8_2:Int)(v8_3:Int):V.loopF YG.E Tryz.f80.ntmps [1,1,0,1,0] [] (V.codeOf Tryz.f80) (YG.kt x0 x1 x2) R (YG.s8 x0 x1 v8_2 v8_3)=YG.g8 x0 x1 (fun v8_2 v8_3=>R (YG.s8 x0 x1 v8_2 v8_3)) v8_2 v8_3:=by kernel_rfl
theorem YG.e8 (x0:List Z5)(x1:List Z5)(x2:(Unit)×(Unit)):∀(n:Nat) (v8_2:Int) (v8_3:Int),V.loopN (V.loopF YG.E Tryz.f80.ntmps [1,1,0,1,0] [] (V.codeOf Tryz.f80) (YG.kt x0 x1 x2)) n (YG.s8 x0 x1 v8_2 v8_3)=YG.l8 x0 x1 n v8_2 v8_3:=by
 intro n
 induction n with
 |zero=>intros;rw[V.loopN_z];rfl
 |succ n ih=>
  intro v8_2 v8_3
  rw[V.loopN_s,YG.r8]
  simp only[ih]
  first|exact(YG.u8 ..).symm|rfl
theorem YG.v (x0:List Z5)(x1:List Z5)(x2:(Unit)×(Unit)):V.evBody YG.E YG.con Tryz.f80 ((x0,x1,x2):List Z5×List Z5×(Unit)×(Unit))=YG.b x0 x1 x2 (fun v8_2 v8_3=>V.loopN (V.loopF YG.E Tryz.f80.ntmps [1,1,0,1,0] [] (V.codeOf Tryz.f80) (YG.kt x0 x1 x2)) V.KK (YG.s8 x0 x1 v8_2 v8_3)):=by kernel_rfl
theorem YG.eq (x0:List Z5)(x1:List Z5)(x2:(Unit)×(Unit)):V.evBody YG.E YG.con Tryz.f80 ((x0,x1,x2):List Z5×List Z5×(Unit)×(Unit))=YG x0 x1 x2:=by
 rw[YG.v]
 simp only[YG.e8]
 rfl
theorem YG.ok :V.Valid Tryz.prog 80 YG.con:=
 V.fo (V.tab_cons Xp.ok V.tab_nil) Tryz.func80 (by kernel_rfl) (fun x y h=>(show V.evBody YG.E YG.con Tryz.f80 x=_ from YG.eq x.1 x.2.1 x.2.2).trans (V.cfl (by kernel_rfl) h))
noncomputable abbrev U1.con :V.Con:=⟨(.cons (.sl V.eSigned) (.cons (.sl V.eSigned) .nil)),(.cons .bool .nil),fun(x:List Z5×List Z5)=>U1 x.1 x.2,[],[(false,1),(false,1)],[(false,1)],[false],[]⟩
noncomputable abbrev U1.E :V.Env:=V.mkE V.tys [(80,YG.con)] [] [] [] [] []
theorem U1.eq (x0:List Z5)(x1:List Z5):V.evBody U1.E U1.con Tryz.f41 ((x0,x1):List Z5×List Z5)=U1 x0 x1:=by kernel_rfl
theorem U1.ok :V.Valid Tryz.prog 41 U1.con:=
 V.fo (V.tab_cons YG.ok V.tab_nil) Tryz.func41 (by kernel_rfl) (fun x y h=>(show V.evBody U1.E U1.con Tryz.f41 x=_ from U1.eq x.1 x.2).trans (V.cfl (by kernel_rfl) h))
noncomputable abbrev YH.con :V.Con:=⟨(.cons (.sl (.cons .str .nil)) (.cons (.sl (.cons .str .nil)) .nil)),(.cons .bool .nil),fun(x:List ByteArray×List ByteArray)=>YH x.1 x.2,[],[(false,1),(false,1)],[(false,1)],[false],[]⟩
noncomputable abbrev YH.E :V.Env:=V.mkE V.tys [] [(8,[0,1,12,13],[])] [(6,8)] [] [] []
noncomputable abbrev YH.kt (x0:List ByteArray)(x1:List ByteArray):V.Kt Bool:=V.ktOf YH.E YH.con Tryz.f89 ((x0,x1):List ByteArray×List ByteArray)
noncomputable abbrev YH.s8 (x0:List ByteArray)(x1:List ByteArray)(v8_2:Int)(v8_3:Int):V.St:=⟨[(0, .v false [.val (.sl (.cons .str .nil) x0)]),(1, .v false [.val (.sl (.cons .str .nil) x1)]),(12, .v false [.vi (v8_2)]),(13, .v false [.vi (v8_3)])],[]⟩
theorem YH.r8 (x0:List ByteArray)(x1:List ByteArray)(R:V.St→Option Bool)(v8_2:Int)(v8_3:Int):V.loopF YH.E Tryz.f89.ntmps [1,1,0,1,0] [] (V.codeOf Tryz.f89) (YH.kt x0 x1) R (YH.s8 x0 x1 v8_2 v8_3)=YH.g8 x0 x1 (fun v8_2 v8_3=>R (YH.s8 x0 x1 v8_2 v8_3)) v8_2 v8_3:=by kernel_rfl
theorem YH.e8 (x0:List ByteArray)(x1:List ByteArray):∀(n:Nat) (v8_2:Int) (v8_3:Int),V.loopN (V.loopF YH.E Tryz.f89.ntmps [1,1,0,1,0] [] (V.codeOf Tryz.f89) (YH.kt x0 x1)) n (YH.s8 x0 x1 v8_2 v8_3)=YH.l8 x0 x1 n v8_2 v8_3:=by
 intro n
 induction n with
 |zero=>intros;rw[V.loopN_z];rfl
 |succ n ih=>
  intro v8_2 v8_3
  rw[V.loopN_s,YH.r8]
  simp only[ih]
  first|exact(YH.u8 ..).symm|rfl
theorem YH.v (x0:List ByteArray)(x1:List ByteArray):V.evBody YH.E YH.con Tryz.f89 ((x0,x1):List ByteArray×List ByteArray)=YH.b x0 x1 (fun v8_2 v8_3=>V.loopN (V.loopF YH.E Tryz.f89.ntmps [1,1,0,1,0] [] (V.codeOf Tryz.f89) (YH.kt x0 x1)) V.KK (YH.s8 x0 x1 v8_2 v8_3)):=by kernel_rfl
theorem YH.eq (x0:List ByteArray)(x1:List ByteArray):V.evBody YH.E YH.con Tryz.f89 ((x0,x1):List ByteArray×List ByteArray)=YH x0 x1:=by
 rw[YH.v]
 simp only[YH.e8]
 rfl
theorem YH.ok :V.Valid Tryz.prog 89 YH.con:=
 V.fo V.tab_nil Tryz.func89 (by kernel_rfl) (fun x y h=>(show V.evBody YH.E YH.con Tryz.f89 x=_ from YH.eq x.1 x.2).trans (V.cfl (by kernel_rfl) h))
noncomputable abbrev WE.con :V.Con:=⟨(.cons .str (V.ci (V.ci (.cons (.sl (.cons .str .nil)) (.cons .str (V.ci (V.ci (.cons (.sl (.cons .str .nil)) .nil)))))))),(.cons .bool .nil),fun(x:ByteArray×Int×Int×List ByteArray×ByteArray×Int×Int×List ByteArray)=>WE (x.1,x.2.1,x.2.2.1,x.2.2.2.1) x.2.2.2.2,[],[(true,4),(true,4)],[(false,1)],[false],[]⟩
noncomputable abbrev WE.E :V.Env:=V.mkE V.tys [(89,YH.con)] [] [] [] [] []
theorem WE.eq (x0:Z4)(x1:Z4):V.evBody WE.E WE.con Tryz.f47 ((x0.1,x0.2.1,x0.2.2.1,x0.2.2.2,x1.1,x1.2.1,x1.2.2.1,x1.2.2.2):ByteArray×Int×Int×List ByteArray×ByteArray×Int×Int×List ByteArray)=WE x0 x1:=by kernel_rfl
theorem WE.ok :V.Valid Tryz.prog 47 WE.con:=
 V.fo (V.tab_cons YH.ok V.tab_nil) Tryz.func47 (by kernel_rfl) (fun x y h=>(show V.evBody WE.E WE.con Tryz.f47 x=_ from WE.eq (x.1,x.2.1,x.2.2.1,x.2.2.2.1) x.2.2.2.2).trans (V.cfl (by kernel_rfl) h))
noncomputable abbrev YF.con :V.Con:=⟨(.cons (.sl V.eEntry) (.cons (.sl V.eEntry) (.cons (.fn 47 false .nil .nil) .nil))),(.cons .bool .nil),fun(x:List Z4×List Z4×(Unit)×(Unit))=>YF x.1 x.2.1 x.2.2,[],[(false,1),(false,1),(false,1)],[(false,1)],[false],[]⟩
noncomputable abbrev YF.E :V.Env:=V.mkE V.tys [(47,WE.con)] [(8,[1,2,15,16,17],[])] [] [] [] []
noncomputable abbrev YF.kt (x0:List Z4)(x1:List Z4)(x2:(Unit)×(Unit)):V.Kt Bool:=V.ktOf YF.E YF.con Tryz.f46 ((x0,x1,x2):List Z4×List Z4×(Unit)×(Unit))
noncomputable abbrev YF.s8 (x0:List Z4)(x1:List Z4)(v8_2:Int)(v8_3:Int):V.St:=⟨[(1, .v false [.val (.sl V.eEntry x1)]),(2, .v false [.val (.fn 47 false .nil .nil () ())]),(15, .v false [.val (.sl V.eEntry x0)]),(16, .v false [.vi (v8_2)]),(17, .v false [.vi (v8_3)])],[]⟩
theorem YF.r8 (x0:List Z4)(x1:List Z4)(x2:(Unit)×(Unit))(R:V.St→Option Bool)(v8_2:Int)(v8_3:Int):V.loopF YF.E Tryz.f46.ntmps [1,1,0,1,0] [] (V.codeOf Tryz.f46) (YF.kt x0 x1 x2) R (YF.s8 x0 x1 v8_2 v8_3)=YF.g8 x0 x1 (fun v8_2 v8_3=>R (YF.s8 x0 x1 v8_2 v8_3)) v8_2 v8_3:=by kernel_rfl
theorem YF.e8 (x0:List Z4)(x1:List Z4)(x2:(Unit)×(Unit)):∀(n:Nat) (v8_2:Int) (v8_3:Int),V.loopN (V.loopF YF.E Tryz.f46.ntmps [1,1,0,1,0] [] (V.codeOf Tryz.f46) (YF.kt x0 x1 x2)) n (YF.s8 x0 x1 v8_2 v8_3)=YF.l8 x0 x1 n v8_2 v8_3:=by
 intro n
 induction n with
 |zero=>intros;rw[V.loopN_z];rfl
 |succ n ih=>
  intro v8_2 v8_3
  rw[V.loopN_s,YF.r8]
  simp only[ih]
  first|exact(YF.u8 ..).symm|rfl
theorem YF.v (x0:List Z4)(x1:List Z4)(x2:(Unit)×(Unit)):V.evBody YF.E YF.con Tryz.f46 ((x0,x1,x2):List Z4×List Z4×(Unit)×(Unit))=YF.b x0 x1 x2 (fun v8_2 v8_3=>V.loopN (V.loopF YF.E Tryz.f46.ntmps [1,1,0,1,0] [] (V.codeOf Tryz.f46) (YF.kt x0 x1 x2)) V.KK (YF.s8 x0 x1 v8_2 v8_3)):=by kernel_rfl
theorem YF.eq (x0:List Z4)(x1:List Z4)(x2:(Unit)×(Unit)):V.evBody YF.E YF.con Tryz.f46 ((x0,x1,x2):List Z4×List Z4×(Unit)×(Unit))=YF x0 x1 x2:=by
 rw[YF.v]
 simp only[YF.e8]
 rfl
theorem YF.ok :V.Valid Tryz.prog 46 YF.con:=
 V.fo (V.tab_cons WE.ok V.tab_nil) Tryz.func46 (by kernel_rfl) (fun x y h=>(show V.evBody YF.E YF.con Tryz.f46 x=_ from YF.eq x.1 x.2.1 x.2.2).trans (V.cfl (by kernel_rfl) h))
noncomputable abbrev XO.con :V.Con:=⟨(.cons (.sl V.eEntry) (.cons (.sl V.eEntry) .nil)),(.cons .bool .nil),fun(x:List Z4×List Z4)=>XO x.1 x.2,[],[(false,1),(false,1)],[(false,1)],[false],[]⟩
noncomputable abbrev XO.E :V.Env:=V.mkE V.tys [(46,YF.con)] [] [] [] [] []
theorem XO.eq (x0:List Z4)(x1:List Z4):V.evBody XO.E XO.con Tryz.f14 ((x0,x1):List Z4×List Z4)=XO x0 x1:=by kernel_rfl
theorem XO.ok :V.Valid Tryz.prog 14 XO.con:=
 V.fo (V.tab_cons YF.ok V.tab_nil) Tryz.func14 (by kernel_rfl) (fun x y h=>(show V.evBody XO.E XO.con Tryz.f14 x=_ from XO.eq x.1 x.2).trans (V.cfl (by kernel_rfl) h))
noncomputable abbrev WF.con :V.Con:=⟨(.cons (.sl V.eSigned) (.cons (.sl V.eEntry) (.cons (.sl V.eSigned) (.cons (.sl V.eEntry) .nil)))),(.cons .bool .nil),fun(x:List Z5×List Z4×List Z5×List Z4)=>WF (x.1,x.2.1) x.2.2,[],[(true,2),(true,2)],[(false,1)],[false],[]⟩
noncomputable abbrev WF.E :V.Env:=V.mkE V.tys [(14,XO.con),(41,U1.con)] [] [] [] [] []
theorem WF.eq (x0:Zt)(x1:Zt):V.evBody WF.E WF.con Tryz.f8 ((x0.1,x0.2,x1.1,x1.2):List Z5×List Z4×List Z5×List Z4)=WF x0 x1:=by kernel_rfl
theorem WF.ok :V.Valid Tryz.prog 8 WF.con:=
 V.fo (V.tab_cons XO.ok (V.tab_cons U1.ok V.tab_nil)) Tryz.func8 (by kernel_rfl) (fun x y h=>(show V.evBody WF.E WF.con Tryz.f8 x=_ from WF.eq (x.1,x.2.1) x.2.2).trans (V.cfl (by kernel_rfl) h))
noncomputable abbrev W6.con :V.Con:=⟨(.cons (.sl V.eSigned) (.cons (.sl V.eEntry) .nil)),(V.ci .nil),fun(x:List Z5×List Z4)=>W6 x,[],[(true,2)],[(false,1)],[false],[]⟩
noncomputable abbrev W6.E :V.Env:=V.mkE V.tys [(9,XB.con),(35,XG.con)] [] [] [] [] []
theorem W6.eq (x0:Zt):V.evBody W6.E W6.con Tryz.f11 ((x0.1,x0.2):List Z5×List Z4)=W6 x0:=by kernel_rfl
theorem W6.ok :V.Valid Tryz.prog 11 W6.con:=
 V.fo (V.tab_cons XB.ok (V.tab_cons XG.ok V.tab_nil)) Tryz.func11 (by kernel_rfl) (fun x y h=>(show V.evBody W6.E W6.con Tryz.f11 x=_ from W6.eq x).trans (V.cfl (by kernel_rfl) h))
noncomputable abbrev WD.con :V.Con:=⟨(.cons (.sl V.eSigned) (.cons (.sl V.eEntry) .nil)),(V.ci .nil),fun(x:List Z5×List Z4)=>WD x,[],[(true,2)],[(false,1)],[false],[]⟩
noncomputable abbrev WD.E :V.Env:=V.mkE V.tys [(10,XI.con),(25,Xb.con)] [] [] [] [] []
theorem WD.eq (x0:Zt):V.evBody WD.E WD.con Tryz.f12 ((x0.1,x0.2):List Z5×List Z4)=WD x0:=by kernel_rfl
theorem WD.ok :V.Valid Tryz.prog 12 WD.con:=
 V.fo (V.tab_cons XI.ok (V.tab_cons Xb.ok V.tab_nil)) Tryz.func12 (by kernel_rfl) (fun x y h=>(show V.evBody WD.E WD.con Tryz.f12 x=_ from WD.eq x).trans (V.cfl (by kernel_rfl) h))
noncomputable abbrev Yv.con :V.Con:=⟨(.cons (.sl V.eSigned) (.cons (.sl V.eSigned) .nil)),(.cons .bool .nil),fun(x:List Z5×List Z5)=>Yv x.1 x.2,[],[(false,1),(false,1)],[(false,1)],[false],[]⟩
noncomputable abbrev Yv.E :V.Env:=V.mkE V.tys [(45,X9.con)] [(8,[1,12,13,14],[])] [(6,7)] [] [] []
noncomputable abbrev Yv.kt (x0:List Z5)(x1:List Z5):V.Kt Bool:=V.ktOf Yv.E Yv.con Tryz.f13 ((x0,x1):List Z5×List Z5)
noncomputable abbrev Yv.s8 (x0:List Z5)(x1:List Z5)(v8_2:Int)(v8_3:Int):V.St:=⟨[(1, .v false [.val (.sl V.eSigned x1)]),(12, .v false [.val (.sl V.eSigned x0)]),(13, .v false [.vi (v8_2)]),(14, .v false [.vi (v8_3)])],[]⟩
theorem Yv.r8 (x0:List Z5)(x1:List Z5)(R:V.St→Option Bool)(v8_2:Int)(v8_3:Int):V.loopF Yv.E Tryz.f13.ntmps [1,1,0,1,0] [] (V.codeOf Tryz.f13) (Yv.kt x0 x1) R (Yv.s8 x0 x1 v8_2 v8_3)=Yv.g8 x0 x1 (fun v8_2 v8_3=>R (Yv.s8 x0 x1 v8_2 v8_3)) v8_2 v8_3:=by kernel_rfl
theorem Yv.e8 (x0:List Z5)(x1:List Z5):∀(n:Nat) (v8_2:Int) (v8_3:Int),V.loopN (V.loopF Yv.E Tryz.f13.ntmps [1,1,0,1,0] [] (V.codeOf Tryz.f13) (Yv.kt x0 x1)) n (Yv.s8 x0 x1 v8_2 v8_3)=Yv.l8 x0 x1 n v8_2 v8_3:=by
 intro n
 induction n with
 |zero=>intros;rw[V.loopN_z];rfl
 |succ n ih=>
  intro v8_2 v8_3
  rw[V.loopN_s,Yv.r8]
  simp only[ih]
  first|exact(Yv.u8 ..).symm|rfl
theorem Yv.v (x0:List Z5)(x1:List Z5):V.evBody Yv.E Yv.con Tryz.f13 ((x0,x1):List Z5×List Z5)=Yv.b x0 x1 (fun v8_2 v8_3=>V.loopN (V.loopF Yv.E Tryz.f13.ntmps [1,1,0,1,0] [] (V.codeOf Tryz.f13) (Yv.kt x0 x1)) V.KK (Yv.s8 x0 x1 v8_2 v8_3)):=by kernel_rfl
theorem Yv.eq (x0:List Z5)(x1:List Z5):V.evBody Yv.E Yv.con Tryz.f13 ((x0,x1):List Z5×List Z5)=Yv x0 x1:=by
 rw[Yv.v]
 simp only[Yv.e8]
 rfl
theorem Yv.ok :V.Valid Tryz.prog 13 Yv.con:=
 V.fo (V.tab_cons X9.ok V.tab_nil) Tryz.func13 (by kernel_rfl) (fun x y h=>(show V.evBody Yv.E Yv.con Tryz.f13 x=_ from Yv.eq x.1 x.2).trans (V.cfl (by kernel_rfl) h))
noncomputable abbrev Ub.con :V.Con:=⟨(.cons (.sl (.cons (.int .u8) .nil)) .nil),V.eRZoneListListIntInt,fun(x:List Int)=>Ub x,[],[(false,1)],[(true,2),(false,1),(false,1),(false,1),(false,1)],[false,false,true,true,false,false],[]⟩
noncomputable abbrev Ub.E :V.Env:=V.mkE V.tys [(22,ZG.con),(23,Wv.con),(24,YP.con),(28,ZV.con),(48,ZR.con)] [] [] [] [] [(5,[1000])]
theorem Ub.eq (x0:List Int):V.evBody Ub.E Ub.con Tryz.f15 ((x0):List Int)=Ub x0:=by kernel_rfl
theorem Ub.ok :V.Valid Tryz.prog 15 Ub.con:=
 V.fo (V.tab_cons ZG.ok (V.tab_cons Wv.ok (V.tab_cons YP.ok (V.tab_cons ZV.ok (V.tab_cons ZR.ok V.tab_nil))))) Tryz.func15 (by kernel_rfl) (fun x y h=>(show V.evBody Ub.E Ub.con Tryz.f15 x=_ from Ub.eq x).trans (V.cfl (by kernel_rfl) h))
noncomputable abbrev YM.con :V.Con:=⟨(V.ci (V.ci .nil)),(V.ci .nil),fun(x:Int×Int)=>YM x.1 x.2,[],[(false,1),(false,1)],[(false,1)],[false],[]⟩
noncomputable abbrev YM.E :V.Env:=V.mkE V.tys [(82,YD.con)] [(7,[0,1],[])] [] [] [] []
noncomputable abbrev YM.kt (x0:Int)(x1:Int):V.Kt Int:=V.ktOf YM.E YM.con Tryz.f92 ((x0,x1):Int×Int)
noncomputable abbrev YM.s7 (x0:Int)(x1:Int):V.St:=⟨[(0, .v false [.vi (x0)]),(1, .v false [.vi (x1)])],[]⟩
theorem YM.r7 (x0:Int)(x1:Int):V.joinF YM.E Tryz.f92.ntmps [1] [] (V.codeOf Tryz.f92) (YM.kt x0 x1) (YM.s7 x0 x1)=YM.g7 x0 x1:=by kernel_rfl
theorem YM.e7 (x0:Int)(x1:Int):V.jn (V.joinF YM.E Tryz.f92.ntmps [1] [] (V.codeOf Tryz.f92) (YM.kt x0 x1)) (YM.s7 x0 x1)=YM.l7 x0 x1:=by
 rw[V.jn_eq,YM.r7]
 rfl
theorem YM.v (x0:Int)(x1:Int):V.evBody YM.E YM.con Tryz.f92 ((x0,x1):Int×Int)=YM.b x0 x1 (V.jn (V.joinF YM.E Tryz.f92.ntmps [1] [] (V.codeOf Tryz.f92) (YM.kt x0 x1)) (YM.s7 x0 x1)):=by kernel_rfl
theorem YM.eq (x0:Int)(x1:Int):V.evBody YM.E YM.con Tryz.f92 ((x0,x1):Int×Int)=YM x0 x1:=by
 rw[YM.v]
 simp only[YM.e7]
 rfl
theorem YM.ok :V.Valid Tryz.prog 92 YM.con:=
 V.fo (V.tab_cons YD.ok V.tab_nil) Tryz.func92 (by kernel_rfl) (fun x y h=>(show V.evBody YM.E YM.con Tryz.f92 x=_ from YM.eq x.1 x.2).trans (V.cfl (by kernel_rfl) h))
noncomputable abbrev WQ.con :V.Con:=⟨(.cons (.ptr V.eHead) (.cons (.ptr (.cons (.sl V.eEntry) .nil)) .nil)),(.cons (.ptr V.eHead) .nil),fun(x:(Z6)×List Z4)=>WQ x.1 x.2,[(0,true)],[(false,1),(false,1)],[],[],[]⟩
noncomputable abbrev WQ.E :V.Env:=V.mkE V.tys [(85,XY.con)] [] [(0,6)] [] [(0,[1])] []
theorem WQ.eq (x0:(Z6))(x1:List Z4):V.evBody WQ.E WQ.con Tryz.f91 ((x0,x1):(Z6)×List Z4)=WQ x0 x1:=by kernel_rfl
theorem WQ.ok :V.Valid Tryz.prog 91 WQ.con:=
 V.fo (V.tab_cons XY.ok V.tab_nil) Tryz.func91 (by kernel_rfl) (fun x y h=>(show V.evBody WQ.E WQ.con Tryz.f91 x=_ from WQ.eq x.1 x.2).trans (V.cfl (by kernel_rfl) h))
noncomputable abbrev ZS.con :V.Con:=⟨(V.ci (V.ci (V.ci (V.ci (V.ci (V.ci (V.ci (V.ci (.cons (.sl (V.ci .nil)) (V.ci (.cons (.sl (V.ci .nil)) (V.ci (V.ci (.cons (.sl (V.ci .nil)) (V.ci (.cons .bool (V.ci (V.ci (V.ci (.cons (.fn 91 false .nil (.cons (.ptr (.cons (.sl V.eEntry) .nil)) .nil)) .nil)))))))))))))))))))),V.eRHeadBool,fun(x:Int×Int×Int×Int×Int×Int×Int×Int×List Int×Int×List Int×Int×Int×List Int×Int×Bool×Int×Int×Int×(Unit)×(List Z4))=>ZS (x.1,x.2.1,x.2.2.1,x.2.2.2.1,x.2.2.2.2.1,x.2.2.2.2.2.1,x.2.2.2.2.2.2.1,x.2.2.2.2.2.2.2.1,x.2.2.2.2.2.2.2.2.1,x.2.2.2.2.2.2.2.2.2.1,x.2.2.2.2.2.2.2.2.2.2.1,x.2.2.2.2.2.2.2.2.2.2.2.1,x.2.2.2.2.2.2.2.2.2.2.2.2.1,x.2.2.2.2.2.2.2.2.2.2.2.2.2.1,x.2.2.2.2.2.2.2.2.2.2.2.2.2.2.1,x.2.2.2.2.2.2.2.2.2.2.2.2.2.2.2.1) x.2.2.2.2.2.2.2.2.2.2.2.2.2.2.2.2.1 x.2.2.2.2.2.2.2.2.2.2.2.2.2.2.2.2.2.1 x.2.2.2.2.2.2.2.2.2.2.2.2.2.2.2.2.2.2.1 x.2.2.2.2.2.2.2.2.2.2.2.2.2.2.2.2.2.2.2,[],[(true,16),(false,1),(false,1),(false,1),(false,1)],[(true,16),(false,1)],[false,false,false,false,false,false,false,false,true,false,true,false,false,true,false,false,false],[]⟩
noncomputable abbrev ZS.E :V.Env:=V.mkE V.tys [(82,YD.con),(91,WQ.con),(92,YM.con),(94,YY.con),(95,X4.con),(142,Xe.con)] [(5,[1,2,3,4,5,10,27],[]),(17,[10,12,57],[])] [(4,10)] [] [(4,[3,4])] []
noncomputable abbrev ZS.kt (x0:Z6)(x1:Int)(x2:Int)(x3:Int)(x4:(Unit)×(List Z4)):V.Kt ZA:=V.ktOf ZS.E ZS.con Tryz.f90 ((x0.1,x0.2.1,x0.2.2.1,x0.2.2.2.1,x0.2.2.2.2.1,x0.2.2.2.2.2.1,x0.2.2.2.2.2.2.1,x0.2.2.2.2.2.2.2.1,x0.2.2.2.2.2.2.2.2.1,x0.2.2.2.2.2.2.2.2.2.1,x0.2.2.2.2.2.2.2.2.2.2.1,x0.2.2.2.2.2.2.2.2.2.2.2.1,x0.2.2.2.2.2.2.2.2.2.2.2.2.1,x0.2.2.2.2.2.2.2.2.2.2.2.2.2.1,x0.2.2.2.2.2.2.2.2.2.2.2.2.2.2.1,x0.2.2.2.2.2.2.2.2.2.2.2.2.2.2.2,x1,x2,x3,x4):Int×Int×Int×Int×Int×Int×Int×Int×List Int×Int×List Int×Int×Int×List Int×Int×Bool×Int×Int×Int×(Unit)×(List Z4))
noncomputable abbrev ZS.s17 (y6:(Z6))(v17_0:Bool):V.St:=⟨[(10, .v false [.ptr 64064 0]),(12, .v false [.ptr 256128 0]),(57, .v false [.val (.bool v17_0)])],[(64064, .box [.vi ((0:Int)), .vi ((0:Int)), .vi ((0:Int)), .vi ((0:Int)), .vi ((0:Int)), .vi ((0:Int)), .vi ((0:Int)), .vi ((0:Int)), .nil0, .vi ((0:Int)), .nil0, .vi ((0:Int)), .vi ((0:Int)), .nil0, .vi ((0:Int)), .val (.bool false)]),(256128, .box [.vi (y6.1), .vi (y6.2.1), .vi (y6.2.2.1), .vi (y6.2.2.2.1), .vi (y6.2.2.2.2.1), .vi (y6.2.2.2.2.2.1), .vi (y6.2.2.2.2.2.2.1), .vi (y6.2.2.2.2.2.2.2.1), .ref 64000000000016392200, .vi (y6.2.2.2.2.2.2.2.2.2.1), .ref 64000000000016392202, .vi (y6.2.2.2.2.2.2.2.2.2.2.2.1), .vi (y6.2.2.2.2.2.2.2.2.2.2.2.2.1), .ref 64000000000016392205, .vi (y6.2.2.2.2.2.2.2.2.2.2.2.2.2.2.1), .val (.bool y6.2.2.2.2.2.2.2.2.2.2.2.2.2.2.2)]),(64000000000016392200, .row (V.ci .nil) true y6.2.2.2.2.2.2.2.2.1),(64000000000016392202, .row (V.ci .nil) true y6.2.2.2.2.2.2.2.2.2.2.1),(64000000000016392205, .row (V.ci .nil) true y6.2.2.2.2.2.2.2.2.2.2.2.2.2.1)]⟩
noncomputable abbrev ZS.s5 (x0:Z6)(x1:Int)(x2:Int)(x3:Int)(x4:(Unit)×(List Z4))(v5_4:Bool):V.St:=⟨[(1, .v false [.vi (x1)]),(2, .v false [.vi (x2)]),(3, .v false [.vi (x3)]),(4, .v false [.val (.fn 91 false .nil (.cons (.ptr (.cons (.sl V.eEntry) .nil)) .nil) () x4.2)]),(5, .v false [.ptr 64000 0]),(10, .v false [.ptr 64064 0]),(27, .v false [.val (.bool v5_4)])],[(64000, .box (V.lsHead x0)),(64064, .box [.vi ((0:Int)), .vi ((0:Int)), .vi ((0:Int)), .vi ((0:Int)), .vi ((0:Int)), .vi ((0:Int)), .vi ((0:Int)), .vi ((0:Int)), .nil0, .vi ((0:Int)), .nil0, .vi ((0:Int)), .vi ((0:Int)), .nil0, .vi ((0:Int)), .val (.bool false)])]⟩
theorem ZS.r17 (x0:Z6)(x1:Int)(x2:Int)(x3:Int)(x4:(Unit)×(List Z4))(y6:(Z6))(v17_0:Bool):V.joinF ZS.E Tryz.f90.ntmps [1,1,1,1,1,1,0] [] (V.codeOf Tryz.f90) (ZS.kt x0 x1 x2 x3 x4) (ZS.s17 y6 v17_0)=ZS.g17 y6 v17_0:=by kernel_rfl
theorem ZS.e17 (x0:Z6)(x1:Int)(x2:Int)(x3:Int)(x4:(Unit)×(List Z4))(y6:(Z6))(v17_0:Bool):V.jn (V.joinF ZS.E Tryz.f90.ntmps [1,1,1,1,1,1,0] [] (V.codeOf Tryz.f90) (ZS.kt x0 x1 x2 x3 x4)) (ZS.s17 y6 v17_0)=ZS.l17 y6 v17_0:=by
 rw[V.jn_eq,ZS.r17]
 rfl
theorem ZS.r5 (x0:Z6)(x1:Int)(x2:Int)(x3:Int)(x4:(Unit)×(List Z4))(v5_4:Bool):V.joinF ZS.E Tryz.f90.ntmps [1,0] [] (V.codeOf Tryz.f90) (ZS.kt x0 x1 x2 x3 x4) (ZS.s5 x0 x1 x2 x3 x4 v5_4)=ZS.g5 x0 x1 x2 x3 x4 (fun y6 v17_0=>V.jn (V.joinF ZS.E Tryz.f90.ntmps [1,1,1,1,1,1,0] [] (V.codeOf Tryz.f90) (ZS.kt x0 x1 x2 x3 x4)) (ZS.s17 y6 v17_0)) v5_4:=by kernel_rfl
theorem ZS.e5 (x0:Z6)(x1:Int)(x2:Int)(x3:Int)(x4:(Unit)×(List Z4))(v5_4:Bool):V.jn (V.joinF ZS.E Tryz.f90.ntmps [1,0] [] (V.codeOf Tryz.f90) (ZS.kt x0 x1 x2 x3 x4)) (ZS.s5 x0 x1 x2 x3 x4 v5_4)=ZS.l5 x0 x1 x2 x3 x4 v5_4:=by
 rw[V.jn_eq,ZS.r5]
 simp only[ZS.e17]
 rfl
theorem ZS.v (x0:Z6)(x1:Int)(x2:Int)(x3:Int)(x4:(Unit)×(List Z4)):V.evBody ZS.E ZS.con Tryz.f90 ((x0.1,x0.2.1,x0.2.2.1,x0.2.2.2.1,x0.2.2.2.2.1,x0.2.2.2.2.2.1,x0.2.2.2.2.2.2.1,x0.2.2.2.2.2.2.2.1,x0.2.2.2.2.2.2.2.2.1,x0.2.2.2.2.2.2.2.2.2.1,x0.2.2.2.2.2.2.2.2.2.2.1,x0.2.2.2.2.2.2.2.2.2.2.2.1,x0.2.2.2.2.2.2.2.2.2.2.2.2.1,x0.2.2.2.2.2.2.2.2.2.2.2.2.2.1,x0.2.2.2.2.2.2.2.2.2.2.2.2.2.2.1,x0.2.2.2.2.2.2.2.2.2.2.2.2.2.2.2,x1,x2,x3,x4):Int×Int×Int×Int×Int×Int×Int×Int×List Int×Int×List Int×Int×Int×List Int×Int×Bool×Int×Int×Int×(Unit)×(List Z4))=ZS.b x0 x1 x2 x3 x4 (fun v5_4=>V.jn (V.joinF ZS.E Tryz.f90.ntmps [1,0] [] (V.codeOf Tryz.f90) (ZS.kt x0 x1 x2 x3 x4)) (ZS.s5 x0 x1 x2 x3 x4 v5_4)):=by kernel_rfl
theorem ZS.eq (x0:Z6)(x1:Int)(x2:Int)(x3:Int)(x4:(Unit)×(List Z4)):V.evBody ZS.E ZS.con Tryz.f90 ((x0.1,x0.2.1,x0.2.2.1,x0.2.2.2.1,x0.2.2.2.2.1,x0.2.2.2.2.2.1,x0.2.2.2.2.2.2.1,x0.2.2.2.2.2.2.2.1,x0.2.2.2.2.2.2.2.2.1,x0.2.2.2.2.2.2.2.2.2.1,x0.2.2.2.2.2.2.2.2.2.2.1,x0.2.2.2.2.2.2.2.2.2.2.2.1,x0.2.2.2.2.2.2.2.2.2.2.2.2.1,x0.2.2.2.2.2.2.2.2.2.2.2.2.2.1,x0.2.2.2.2.2.2.2.2.2.2.2.2.2.2.1,x0.2.2.2.2.2.2.2.2.2.2.2.2.2.2.2,x1,x2,x3,x4):Int×Int×Int×Int×Int×Int×Int×Int×List Int×Int×List Int×Int×Int×List Int×Int×Bool×Int×Int×Int×(Unit)×(List Z4))=ZS x0 x1 x2 x3 x4:=by
 rw[ZS.v]
 simp only[ZS.e5]
 rfl
theorem ZS.ok :V.Valid Tryz.prog 90 ZS.con:=
 V.fo (V.tab_cons YD.ok (V.tab_cons WQ.ok (V.tab_cons YM.ok (V.tab_cons YY.ok (V.tab_cons X4.ok (V.tab_cons Xe.ok V.tab_nil)))))) Tryz.func90 (by kernel_rfl) (fun x y h=>(show V.evBody ZS.E ZS.con Tryz.f90 x=_ from ZS.eq (x.1,x.2.1,x.2.2.1,x.2.2.2.1,x.2.2.2.2.1,x.2.2.2.2.2.1,x.2.2.2.2.2.2.1,x.2.2.2.2.2.2.2.1,x.2.2.2.2.2.2.2.2.1,x.2.2.2.2.2.2.2.2.2.1,x.2.2.2.2.2.2.2.2.2.2.1,x.2.2.2.2.2.2.2.2.2.2.2.1,x.2.2.2.2.2.2.2.2.2.2.2.2.1,x.2.2.2.2.2.2.2.2.2.2.2.2.2.1,x.2.2.2.2.2.2.2.2.2.2.2.2.2.2.1,x.2.2.2.2.2.2.2.2.2.2.2.2.2.2.2.1) x.2.2.2.2.2.2.2.2.2.2.2.2.2.2.2.2.1 x.2.2.2.2.2.2.2.2.2.2.2.2.2.2.2.2.2.1 x.2.2.2.2.2.2.2.2.2.2.2.2.2.2.2.2.2.2.1 x.2.2.2.2.2.2.2.2.2.2.2.2.2.2.2.2.2.2.2).trans (V.cfl (by kernel_rfl) h))
noncomputable abbrev Xo.con :V.Con:=⟨V.A7,V.eRHeadBool,fun(x:V.D7)=>Xo (V.p7_0 x) (V.p7_1 x) (V.p7_2 x) (V.p7_3 x),[],[(true,16),(false,1),(false,1),(false,1)],[(true,16),(false,1)],[false,false,false,false,false,false,false,false,true,false,true,false,false,true,false,false,false],[]⟩
noncomputable abbrev Xo.E :V.Env:=V.mkE V.tys [(84,ZY.con),(90,ZS.con)] [] [] [] [] []
noncomputable abbrev Xo.kt (x0:Z6)(x1:List Z4)(x2:Int)(x3:Int):V.Kt ZA:=V.ktOf Xo.E Xo.con Tryz.f49 (V.fl7 x0 x1 x2 x3)
noncomputable abbrev Xo.s (x0:Z6)(x1:List Z4)(x2:Int)(x3:Int):V.St:=⟨[(0, .v true (V.lsHead x0)),(1, .v false [.val (.sl V.eEntry x1)]),(2, .v false [.vi (x2)]),(3, .v false [.vi (x3)])],[]⟩
theorem Xo.v0 (x0:Z6)(x1:List Z4)(x2:Int)(x3:Int):V.evBody Xo.E Xo.con Tryz.f49 (V.fl7 x0 x1 x2 x3)=V.evC Xo.E Tryz.f49.ntmps (V.codeOf Tryz.f49) (Xo.kt x0 x1 x2 x3) (Xo.s x0 x1 x2 x3):=by kernel_rfl
theorem Xo.v (x0:Z6)(x1:List Z4)(x2:Int)(x3:Int):V.evC Xo.E Tryz.f49.ntmps (V.codeOf Tryz.f49) (Xo.kt x0 x1 x2 x3) (Xo.s x0 x1 x2 x3)=Xo x0 x1 x2 x3:=by kernel_rfl
theorem Xo.eq (x0:Z6)(x1:List Z4)(x2:Int)(x3:Int):V.evBody Xo.E Xo.con Tryz.f49 (V.fl7 x0 x1 x2 x3)=Xo x0 x1 x2 x3:=(Xo.v0 x0 x1 x2 x3).trans (Xo.v x0 x1 x2 x3)
theorem Xo.ok :V.Valid Tryz.prog 49 Xo.con:=
 V.fo (V.tab_cons ZY.ok (V.tab_cons ZS.ok V.tab_nil)) Tryz.func49 (by kernel_rfl) (fun x y h=>(show V.evBody Xo.E Xo.con Tryz.f49 x=_ from Xo.eq (V.p7_0 x) (V.p7_1 x) (V.p7_2 x) (V.p7_3 x)).trans (V.cfl (by kernel_rfl) h))
noncomputable abbrev Wm.con :V.Con:=⟨V.eRZoneListListIntInt,(.cons (.sl V.eSigned) (.cons (.sl V.eEntry) (V.ci .nil))),fun(x:List Z5×List Z4×List Int×List Z4×Int×Int)=>Wm (x.1,x.2.1) x.2.2.1 x.2.2.2.1 x.2.2.2.2.1 x.2.2.2.2.2,[],[(true,2),(false,1),(false,1),(false,1),(false,1)],[(true,2),(false,1)],[true,true,false],[]⟩
noncomputable abbrev Wm.E :V.Env:=V.mkE V.tys [(6,Xf.con),(9,XB.con),(32,W0.con),(35,XG.con),(49,Xo.con)] [] [] [] [] []
theorem Wm.eq (x0:Zt)(x1:List Int)(x2:List Z4)(x3:Int)(x4:Int):V.evBody Wm.E Wm.con Tryz.f16 ((x0.1,x0.2,x1,x2,x3,x4):List Z5×List Z4×List Int×List Z4×Int×Int)=Wm x0 x1 x2 x3 x4:=by kernel_rfl
theorem Wm.ok :V.Valid Tryz.prog 16 Wm.con:=
 V.fo (V.tab_cons Xf.ok (V.tab_cons XB.ok (V.tab_cons W0.ok (V.tab_cons XG.ok (V.tab_cons Xo.ok V.tab_nil))))) Tryz.func16 (by kernel_rfl) (fun x y h=>(show V.evBody Wm.E Wm.con Tryz.f16 x=_ from Wm.eq (x.1,x.2.1) x.2.2.1 x.2.2.2.1 x.2.2.2.2.1 x.2.2.2.2.2).trans (V.cfl (by kernel_rfl) h))
noncomputable abbrev WZ.con :V.Con:=⟨(.cons (.sl V.eSigned) (.cons (.sl V.eEntry) (.cons (.sl (V.ci .nil)) (V.ci (V.ci .nil))))),(.cons (.sl V.eSigned) (.cons (.sl V.eEntry) (V.ci .nil))),fun(x:List Z5×List Z4×List Int×Int×Int)=>WZ (x.1,x.2.1) x.2.2.1 x.2.2.2.1 x.2.2.2.2,[],[(true,2),(false,1),(false,1),(false,1)],[(true,2),(false,1)],[true,true,false],[]⟩
noncomputable abbrev WZ.E :V.Env:=V.mkE V.tys [(16,Wm.con)] [] [] [] [] []
theorem WZ.eq (x0:Zt)(x1:List Int)(x2:Int)(x3:Int):V.evBody WZ.E WZ.con Tryz.f17 ((x0.1,x0.2,x1,x2,x3):List Z5×List Z4×List Int×Int×Int)=WZ x0 x1 x2 x3:=by kernel_rfl
theorem WZ.ok :V.Valid Tryz.prog 17 WZ.con:=
 V.fo (V.tab_cons Wm.ok V.tab_nil) Tryz.func17 (by kernel_rfl) (fun x y h=>(show V.evBody WZ.E WZ.con Tryz.f17 x=_ from WZ.eq (x.1,x.2.1) x.2.2.1 x.2.2.2.1 x.2.2.2.2).trans (V.cfl (by kernel_rfl) h))
noncomputable abbrev YW.con :V.Con:=⟨V.eRZoneListListIntInt,(.cons (.sl V.eSigned) (.cons (.sl V.eEntry) (V.ci .nil))),fun(x:List Z5×List Z4×List Int×List Z4×Int×Int)=>YW (x.1,x.2.1) x.2.2.1 x.2.2.2.1 x.2.2.2.2.1 x.2.2.2.2.2,[],[(true,2),(false,1),(false,1),(false,1),(false,1)],[(true,2),(false,1)],[true,true,false],[]⟩
noncomputable abbrev YW.E :V.Env:=V.mkE V.tys [(7,X7.con),(10,XI.con),(25,Xb.con),(30,Zj.con),(37,Wa.con)] [(9,[1,2,5,10,14,36],[])] [] [] [] []
noncomputable abbrev YW.kt (x0:Zt)(x1:List Int)(x2:List Z4)(x3:Int)(x4:Int):V.Kt XM:=V.ktOf YW.E YW.con Tryz.f18 ((x0.1,x0.2,x1,x2,x3,x4):List Z5×List Z4×List Int×List Z4×Int×Int)
noncomputable abbrev YW.s9 (x0:Zt)(x1:List Int)(x2:List Z4)(y2:ZA)(v9_2:Bool):V.St:=⟨[(1, .v false [.val (.sl (V.ci .nil) x1)]),(2, .v false [.val (.sl V.eEntry x2)]),(5, .v false [.ptr 64000 0]),(10, .v false [.ptr 64064 0]),(14, .v false [.ptr 192512 0]),(36, .v false [.val (.bool v9_2)])],[(64000, .box [.val (.sl V.eSigned x0.1), .val (.sl V.eEntry x0.2)]),(64064, .box [.nil0, .nil0]),(192512, .box [.vi (y2.1), .vi (y2.2.1), .vi (y2.2.2.1), .vi (y2.2.2.2.1), .vi (y2.2.2.2.2.1), .vi (y2.2.2.2.2.2.1), .vi (y2.2.2.2.2.2.2.1), .vi (y2.2.2.2.2.2.2.2.1), .val (.sl (V.ci .nil) y2.2.2.2.2.2.2.2.2.1), .vi (y2.2.2.2.2.2.2.2.2.2.1), .val (.sl (V.ci .nil) y2.2.2.2.2.2.2.2.2.2.2.1), .vi (y2.2.2.2.2.2.2.2.2.2.2.2.1), .vi (y2.2.2.2.2.2.2.2.2.2.2.2.2.1), .val (.sl (V.ci .nil) y2.2.2.2.2.2.2.2.2.2.2.2.2.2.1), .vi (y2.2.2.2.2.2.2.2.2.2.2.2.2.2.2.1), .val (.bool y2.2.2.2.2.2.2.2.2.2.2.2.2.2.2.2.1)])]⟩
theorem YW.r9 (x0:Zt)(x1:List Int)(x2:List Z4)(x3:Int)(x4:Int)(y2:ZA)(v9_2:Bool):V.joinF YW.E Tryz.f18.ntmps [1,1,1,0] [] (V.codeOf Tryz.f18) (YW.kt x0 x1 x2 x3 x4) (YW.s9 x0 x1 x2 y2 v9_2)=YW.g9 x0 x1 x2 y2 v9_2:=by kernel_rfl
theorem YW.e9 (x0:Zt)(x1:List Int)(x2:List Z4)(x3:Int)(x4:Int)(y2:ZA)(v9_2:Bool):V.jn (V.joinF YW.E Tryz.f18.ntmps [1,1,1,0] [] (V.codeOf Tryz.f18) (YW.kt x0 x1 x2 x3 x4)) (YW.s9 x0 x1 x2 y2 v9_2)=YW.l9 x0 x1 x2 y2 v9_2:=by
 rw[V.jn_eq,YW.r9]
 rfl
theorem YW.v (x0:Zt)(x1:List Int)(x2:List Z4)(x3:Int)(x4:Int):V.evBody YW.E YW.con Tryz.f18 ((x0.1,x0.2,x1,x2,x3,x4):List Z5×List Z4×List Int×List Z4×Int×Int)=YW.b x0 x1 x2 x3 x4 (fun y2 v9_2=>V.jn (V.joinF YW.E Tryz.f18.ntmps [1,1,1,0] [] (V.codeOf Tryz.f18) (YW.kt x0 x1 x2 x3 x4)) (YW.s9 x0 x1 x2 y2 v9_2)):=by kernel_rfl
theorem YW.eq (x0:Zt)(x1:List Int)(x2:List Z4)(x3:Int)(x4:Int):V.evBody YW.E YW.con Tryz.f18 ((x0.1,x0.2,x1,x2,x3,x4):List Z5×List Z4×List Int×List Z4×Int×Int)=YW x0 x1 x2 x3 x4:=by
 rw[YW.v]
 simp only[YW.e9]
 rfl
theorem YW.ok :V.Valid Tryz.prog 18 YW.con:=
 V.fo (V.tab_cons X7.ok (V.tab_cons XI.ok (V.tab_cons Xb.ok (V.tab_cons Zj.ok (V.tab_cons Wa.ok V.tab_nil))))) Tryz.func18 (by kernel_rfl) (fun x y h=>(show V.evBody YW.E YW.con Tryz.f18 x=_ from YW.eq (x.1,x.2.1) x.2.2.1 x.2.2.2.1 x.2.2.2.2.1 x.2.2.2.2.2).trans (V.cfl (by kernel_rfl) h))
noncomputable abbrev Ux.con :V.Con:=⟨(.cons (.sl (.cons (.int .u8) .nil)) .nil),V.eRKeysIntListIntInt,fun(x:List Int)=>Ux x,[],[(false,1)],[(true,2),(false,1),(false,1),(false,1),(false,1)],[true,false,false,true,false,false],[]⟩
noncomputable abbrev Ux.E :V.Env:=V.mkE V.tys [(22,ZG.con),(28,ZV.con),(48,ZR.con),(61,Wl.con)] [] [] [] [] [(6,[1000])]
theorem Ux.eq (x0:List Int):V.evBody Ux.E Ux.con Tryz.f50 ((x0):List Int)=Ux x0:=by kernel_rfl
theorem Ux.ok :V.Valid Tryz.prog 50 Ux.con:=
 V.fo (V.tab_cons ZG.ok (V.tab_cons ZV.ok (V.tab_cons ZR.ok (V.tab_cons Wl.ok V.tab_nil)))) Tryz.func50 (by kernel_rfl) (fun x y h=>(show V.evBody Ux.E Ux.con Tryz.f50 x=_ from Ux.eq x).trans (V.cfl (by kernel_rfl) h))
noncomputable abbrev Uc.con :V.Con:=⟨(.cons (.sl (.cons (.int .u8) .nil)) .nil),V.eRKeysIntListIntInt,fun(x:List Int)=>Uc x,[],[(false,1)],[(true,2),(false,1),(false,1),(false,1),(false,1)],[true,false,false,true,false,false],[]⟩
noncomputable abbrev Uc.E :V.Env:=V.mkE V.tys [(50,Ux.con)] [] [] [] [] []
theorem Uc.eq (x0:List Int):V.evBody Uc.E Uc.con Tryz.f19 ((x0):List Int)=Uc x0:=by kernel_rfl
theorem Uc.ok :V.Valid Tryz.prog 19 Uc.con:=
 V.fo (V.tab_cons Ux.ok V.tab_nil) Tryz.func19 (by kernel_rfl) (fun x y h=>(show V.evBody Uc.E Uc.con Tryz.f19 x=_ from Uc.eq x).trans (V.cfl (by kernel_rfl) h))
noncomputable abbrev YU.con :V.Con:=⟨V.eRKeysIntListIntInt,V.eRHeadBool,fun(x:List Int×Int×Int×List Z4×Int×Int)=>YU (x.1,x.2.1) x.2.2.1 x.2.2.2.1 x.2.2.2.2.1 x.2.2.2.2.2,[],[(true,2),(false,1),(false,1),(false,1),(false,1)],[(true,16),(false,1)],[false,false,false,false,false,false,false,false,true,false,true,false,false,true,false,false,false],[]⟩
noncomputable abbrev YU.E :V.Env:=V.mkE V.tys [(21,XZ.con),(84,ZY.con),(85,XY.con),(92,YM.con),(93,W7.con),(94,YY.con)] [(7,[10,12,35],[])] [(1,16)] [] [] []
noncomputable abbrev YU.kt (x0:Zc)(x1:Int)(x2:List Z4)(x3:Int)(x4:Int):V.Kt ZA:=V.ktOf YU.E YU.con Tryz.f51 ((x0.1,x0.2,x1,x2,x3,x4):List Int×Int×Int×List Z4×Int×Int)
noncomputable abbrev YU.s7 (x1:Int)(x3:Int)(y1:Int)(y2:Int)(y3:Int)(y4:Zc)(v7_0:Bool)(v7_19:Int):V.St:=⟨[(10, .v false [.ptr 64064 0]),(12, .v false [.ptr 128960 0]),(35, .v false [.val (.bool v7_0)])],[(64064, .box [.vi ((0:Int)), .vi ((0:Int)), .vi ((0:Int)), .vi ((0:Int)), .vi ((0:Int)), .vi ((0:Int)), .vi ((0:Int)), .vi ((0:Int)), .nil0, .vi ((0:Int)), .nil0, .vi ((0:Int)), .vi ((0:Int)), .nil0, .vi ((0:Int)), .val (.bool false)]),(128960, .box [.vi (y1), .vi ((0:Int)), .vi ((1:Int)), .vi (x3), .vi (y2), .vi (v7_19), .vi (y3), .vi (x1), .ref 64000000000008253448, .vi (y4.2), .nil0, .vi ((0:Int)), .vi ((0:Int)), .nil0, .vi ((0:Int)), .val (.bool false)]),(64000000000008253448, .row (V.ci .nil) true y4.1)]⟩
theorem YU.r7 (x0:Zc)(x1:Int)(x2:List Z4)(x3:Int)(x4:Int)(y1:Int)(y2:Int)(y3:Int)(y4:Zc)(v7_0:Bool)(v7_19:Int):V.joinF YU.E Tryz.f51.ntmps [1,1,0] [] (V.codeOf Tryz.f51) (YU.kt x0 x1 x2 x3 x4) (YU.s7 x1 x3 y1 y2 y3 y4 v7_0 v7_19)=YU.g7 x1 x3 y1 y2 y3 y4 v7_0 v7_19:=by kernel_rfl
theorem YU.e7 (x0:Zc)(x1:Int)(x2:List Z4)(x3:Int)(x4:Int)(y1:Int)(y2:Int)(y3:Int)(y4:Zc)(v7_0:Bool)(v7_19:Int):V.jn (V.joinF YU.E Tryz.f51.ntmps [1,1,0] [] (V.codeOf Tryz.f51) (YU.kt x0 x1 x2 x3 x4)) (YU.s7 x1 x3 y1 y2 y3 y4 v7_0 v7_19)=YU.l7 x1 x3 y1 y2 y3 y4 v7_0 v7_19:=by
 rw[V.jn_eq,YU.r7]
 rfl
theorem YU.v (x0:Zc)(x1:Int)(x2:List Z4)(x3:Int)(x4:Int):V.evBody YU.E YU.con Tryz.f51 ((x0.1,x0.2,x1,x2,x3,x4):List Int×Int×Int×List Z4×Int×Int)=YU.b x0 x1 x2 x3 x4 (fun y1 y2 y3 y4 v7_0 v7_19=>V.jn (V.joinF YU.E Tryz.f51.ntmps [1,1,0] [] (V.codeOf Tryz.f51) (YU.kt x0 x1 x2 x3 x4)) (YU.s7 x1 x3 y1 y2 y3 y4 v7_0 v7_19)):=by kernel_rfl
theorem YU.eq (x0:Zc)(x1:Int)(x2:List Z4)(x3:Int)(x4:Int):V.evBody YU.E YU.con Tryz.f51 ((x0.1,x0.2,x1,x2,x3,x4):List Int×Int×Int×List Z4×Int×Int)=YU x0 x1 x2 x3 x4:=by
 rw[YU.v]
 simp only[YU.e7]
 rfl
theorem YU.ok :V.Valid Tryz.prog 51 YU.con:=
 V.fo (V.tab_cons XZ.ok (V.tab_cons ZY.ok (V.tab_cons XY.ok (V.tab_cons YM.ok (V.tab_cons W7.ok (V.tab_cons YY.ok V.tab_nil)))))) Tryz.func51 (by kernel_rfl) (fun x y h=>(show V.evBody YU.E YU.con Tryz.f51 x=_ from YU.eq (x.1,x.2.1) x.2.2.1 x.2.2.2.1 x.2.2.2.2.1 x.2.2.2.2.2).trans (V.cfl (by kernel_rfl) h))
noncomputable abbrev WX.con :V.Con:=⟨V.eRKeysIntListIntInt,(.cons (.sl V.eSigned) (.cons (.sl V.eEntry) (.cons .bool .nil))),fun(x:List Int×Int×Int×List Z4×Int×Int)=>WX (x.1,x.2.1) x.2.2.1 x.2.2.2.1 x.2.2.2.2.1 x.2.2.2.2.2,[],[(true,2),(false,1),(false,1),(false,1),(false,1)],[(true,2),(false,1)],[true,true,false],[]⟩
noncomputable abbrev WX.E :V.Env:=V.mkE V.tys [(36,Y7.con),(51,YU.con),(52,Xg.con)] [] [] [] [] []
theorem WX.eq (x0:Zc)(x1:Int)(x2:List Z4)(x3:Int)(x4:Int):V.evBody WX.E WX.con Tryz.f20 ((x0.1,x0.2,x1,x2,x3,x4):List Int×Int×Int×List Z4×Int×Int)=WX x0 x1 x2 x3 x4:=by kernel_rfl
theorem WX.ok :V.Valid Tryz.prog 20 WX.con:=
 V.fo (V.tab_cons Y7.ok (V.tab_cons YU.ok (V.tab_cons Xg.ok V.tab_nil))) Tryz.func20 (by kernel_rfl) (fun x y h=>(show V.evBody WX.E WX.con Tryz.f20 x=_ from WX.eq (x.1,x.2.1) x.2.2.1 x.2.2.2.1 x.2.2.2.2.1 x.2.2.2.2.2).trans (V.cfl (by kernel_rfl) h))
noncomputable abbrev ZB.con :V.Con:=⟨(.cons (.sl (.cons (.int .u8) .nil)) .nil),(.cons .bool .nil),fun(x:List Int)=>ZB x,[],[(false,1)],[(false,1)],[false],[]⟩
noncomputable abbrev ZB.E :V.Env:=V.mkE V.tys [(4,UA.con),(5,Zv.con),(6,Xf.con),(7,X7.con),(8,WF.con),(9,XB.con),(10,XI.con),(11,W6.con),(12,WD.con),(13,Yv.con),(14,XO.con),(15,Ub.con),(16,Wm.con),(17,WZ.con),(18,YW.con),(19,Uc.con),(20,WX.con),(21,XZ.con)] [(17,[0,3,6,7,8],[]),(21,[0],[]),(33,[0],[])] [(6,30),(8,25),(18,17)] [] [] []
noncomputable abbrev ZB.kt (x0:List Int):V.Kt Bool:=V.ktOf ZB.E ZB.con Tryz.f3 ((x0):List Int)
noncomputable abbrev ZB.s33 (x0:List Int):V.St:=⟨[(0, .v false [.val (.sl (.cons (.int .u8) .nil) x0)])],[]⟩
noncomputable abbrev ZB.s21 (x0:List Int):V.St:=⟨[(0, .v false [.val (.sl (.cons (.int .u8) .nil) x0)])],[]⟩
noncomputable abbrev ZB.s17 (x0:List Int)(y2:ZF)(y3:XM):V.St:=⟨[(0, .v false [.val (.sl (.cons (.int .u8) .nil) x0)]),(3, .v false [.ptr 256448 0]),(6, .v false [.val (.sl V.eEntry y2.2.2.2.2.2.2.2.2.2.2.2.2.2.2.2.2.2.2.2)]),(7, .v false [.ptr 320512 0]),(8, .v false [.vi (y3.2.2)])],[(256448, .box [.val (.sl V.eSigned y2.1), .val (.sl V.eEntry y2.2.1)]),(320512, .box [.ref 64000000000020512768, .ref 64000000000020512769]),(64000000000020512768, .row V.eSigned true y3.1),(64000000000020512769, .row V.eEntry true y3.2.1)]⟩
theorem ZB.r33 (x0:List Int):V.joinF ZB.E Tryz.f3.ntmps [1,1,1,1,1,1,1,1,1,1,1] [] (V.codeOf Tryz.f3) (ZB.kt x0) (ZB.s33 x0)=ZB.g33 x0:=by kernel_rfl
theorem ZB.e33 (x0:List Int):V.jn (V.joinF ZB.E Tryz.f3.ntmps [1,1,1,1,1,1,1,1,1,1,1] [] (V.codeOf Tryz.f3) (ZB.kt x0)) (ZB.s33 x0)=ZB.l33 x0:=by
 rw[V.jn_eq,ZB.r33]
 rfl
theorem ZB.r21 (x0:List Int):V.joinF ZB.E Tryz.f3.ntmps [1,1,1,1,1,1] [] (V.codeOf Tryz.f3) (ZB.kt x0) (ZB.s21 x0)=ZB.g21 x0 (V.jn (V.joinF ZB.E Tryz.f3.ntmps [1,1,1,1,1,1,1,1,1,1,1] [] (V.codeOf Tryz.f3) (ZB.kt x0)) (ZB.s33 x0)):=by kernel_rfl
theorem ZB.e21 (x0:List Int):V.jn (V.joinF ZB.E Tryz.f3.ntmps [1,1,1,1,1,1] [] (V.codeOf Tryz.f3) (ZB.kt x0)) (ZB.s21 x0)=ZB.l21 x0:=by
 rw[V.jn_eq,ZB.r21]
 simp only[ZB.e33]
 rfl
theorem ZB.r17 (x0:List Int)(y2:ZF)(y3:XM):V.joinF ZB.E Tryz.f3.ntmps [1,1,1,1,1] [] (V.codeOf Tryz.f3) (ZB.kt x0) (ZB.s17 x0 y2 y3)=ZB.g17 x0 y2 y3 (V.jn (V.joinF ZB.E Tryz.f3.ntmps [1,1,1,1,1,1] [] (V.codeOf Tryz.f3) (ZB.kt x0)) (ZB.s21 x0)):=by kernel_rfl
theorem ZB.e17 (x0:List Int)(y2:ZF)(y3:XM):V.jn (V.joinF ZB.E Tryz.f3.ntmps [1,1,1,1,1] [] (V.codeOf Tryz.f3) (ZB.kt x0)) (ZB.s17 x0 y2 y3)=ZB.l17 x0 y2 y3:=by
 rw[V.jn_eq,ZB.r17]
 simp only[ZB.e21]
 rfl
theorem ZB.v (x0:List Int):V.evBody ZB.E ZB.con Tryz.f3 ((x0):List Int)=ZB.b x0 (fun y2 y3=>V.jn (V.joinF ZB.E Tryz.f3.ntmps [1,1,1,1,1] [] (V.codeOf Tryz.f3) (ZB.kt x0)) (ZB.s17 x0 y2 y3)):=by kernel_rfl
theorem ZB.eq (x0:List Int):V.evBody ZB.E ZB.con Tryz.f3 ((x0):List Int)=ZB x0:=by
 rw[ZB.v]
 simp only[ZB.e17]
 rfl
theorem ZB.ok :V.Valid Tryz.prog 3 ZB.con:=
 V.fo (V.tab_cons UA.ok (V.tab_cons Zv.ok (V.tab_cons Xf.ok (V.tab_cons X7.ok (V.tab_cons WF.ok (V.tab_cons XB.ok (V.tab_cons XI.ok (V.tab_cons W6.ok (V.tab_cons WD.ok (V.tab_cons Yv.ok (V.tab_cons XO.ok (V.tab_cons Ub.ok (V.tab_cons Wm.ok (V.tab_cons WZ.ok (V.tab_cons YW.ok (V.tab_cons Uc.ok (V.tab_cons WX.ok (V.tab_cons XZ.ok V.tab_nil)))))))))))))))))) Tryz.func3 (by kernel_rfl) (fun x y h=>(show V.evBody ZB.E ZB.con Tryz.f3 x=_ from ZB.eq x).trans (V.cfl (by kernel_rfl) h))
end Go.Proofs.YtkadeffepgcceadGreat
