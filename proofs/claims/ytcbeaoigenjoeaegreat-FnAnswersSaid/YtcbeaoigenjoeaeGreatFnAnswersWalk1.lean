/- That the functions compute it, part 1. -/
import Derived.Test.YtcbeaoigenjoeaeGreatFnAnswersWalk0
noncomputable section
namespace Go.Proofs.YtcbeaoigenjoeaeGreat.V
open Tryz
set_option linter.unusedVariables false
set_option maxRecDepth 100000
abbrev Q1.con :V.Con:=⟨(.cons (.sl (.cons (.int .u8) .nil)) .nil),(.cons (.sl V.eSigned) (.cons (.sl V.eEntry) (.cons .str .nil))),λ(x:List Int)=>Q1 x,[],[(false,1)],[(true,2),(false,1)],[false,false,false],[]⟩
abbrev Q1.E :Env:=V.mkE V.tys [(20,ZG.con),(21,Qa.con),(22,X1.con)] [] [] [] [] [(3,[1000])]
theorem Q1.eq (x0:List Int):V.evBody Q1.E Q1.con f5 ((x0):List Int)=Q1 x0:=by kernel_rfl
theorem Q1.ok :V.Valid prog 5 Q1.con:=
 V.fo (tab_cons ZG.ok (tab_cons Qa.ok (tab_cons X1.ok tab_nil))) func5 (by kernel_rfl) (λx y h=>(show V.evBody Q1.E Q1.con f5 x=_ from Q1.eq x).trans (V.cfl (by kernel_rfl) h))
abbrev Ya.con :V.Con:=⟨(ci (ci (ci .nil))),(.cons .bool .nil),λ(x:Int×Int×Int)=>Ya x.1 x.2.1 x.2.2,[],[(false,1),(false,1),(false,1)],[(false,1)],[false],[]⟩
abbrev Ya.E :Env:=V.mkE V.tys [] [] [] [] [] []
theorem Ya.eq (x0:Int)(x1:Int)(x2:Int):V.evBody Ya.E Ya.con f58 ((x0,x1,x2):Int×Int×Int)=Ya x0 x1 x2:=by kernel_rfl
theorem Ya.ok :V.Valid prog 58 Ya.con:=
 V.fo tab_nil func58 (by kernel_rfl) (λx y h=>(show V.evBody Ya.E Ya.con f58 x=_ from Ya.eq x.1 x.2.1 x.2.2).trans (V.cfl (by kernel_rfl) h))
abbrev Wz.con :V.Con:=⟨(ci .nil),(.cons .bool .nil),λ(x:Int)=>Wz x,[],[(false,1)],[(false,1)],[false],[]⟩
abbrev Wz.E :Env:=V.mkE V.tys [(58,Ya.con)] [] [] [] [] []
theorem Wz.eq (x0:Int):V.evBody Wz.E Wz.con f146 ((x0):Int)=Wz x0:=by kernel_rfl
theorem Wz.ok :V.Valid prog 146 Wz.con:=
 V.fo (tab_cons Ya.ok tab_nil) func146 (by kernel_rfl) (λx y h=>(show V.evBody Wz.E Wz.con f146 x=_ from Wz.eq x).trans (V.cfl (by kernel_rfl) h))
abbrev XW.con :V.Con:=⟨V.A0,(.cons .bool .nil),λ(x:V.D0)=>XW (V.p0_0 x),[],[(true,16)],[(false,1)],[false],[]⟩
abbrev XW.E :Env:=V.mkE V.tys [] [] [] [] [] []
abbrev XW.kt (x0:Z5):Kt Bool:=ktOf XW.E XW.con f198 (V.fl0 x0)
abbrev XW.s (x0:Z5):St:=⟨[(0, .v true (V.lsHead x0))],[]⟩
theorem XW.v0 (x0:Z5):V.evBody XW.E XW.con f198 (V.fl0 x0)=evC XW.E f198.ntmps (codeOf f198) (XW.kt x0) (XW.s x0):=by kernel_rfl
theorem XW.v (x0:Z5):evC XW.E f198.ntmps (codeOf f198) (XW.kt x0) (XW.s x0)=XW x0:=by kernel_rfl
theorem XW.eq (x0:Z5):V.evBody XW.E XW.con f198 (V.fl0 x0)=XW x0:=(XW.v0 x0).trans (XW.v x0)
theorem XW.ok :V.Valid prog 198 XW.con:=
 V.fo tab_nil func198 (by kernel_rfl) (λx y h=>(show V.evBody XW.E XW.con f198 x=_ from XW.eq (V.p0_0 x)).trans (V.cfl (by kernel_rfl) h))
abbrev YF.con :V.Con:=⟨(.cons (.sl (ci .nil)) .nil),(.cons .bool .nil),λ(x:List Int)=>YF x,[],[(false,1)],[(false,1)],[false],[]⟩
abbrev YF.E :Env:=V.mkE V.tys [] [(4,[0,5,6],[])] [(4,12)] [] [] []
abbrev YF.kt (x0:List Int):Kt Bool:=ktOf YF.E YF.con f217 ((x0):List Int)
abbrev YF.s4 (x0:List Int)(aJ:Int)(aG:Int):St:=⟨[(0, .v false [.val (.sl (ci .nil) x0)]),(5, .v false [.vi (aJ)]),(6, .v false [.vi (aG)])],[]⟩
theorem YF.r4 (x0:List Int)(R:St->Option Bool)(aJ:Int)(aG:Int):loopF YF.E f217.ntmps [1,0,1,0] [] (codeOf f217) (YF.kt x0) R (YF.s4 x0 aJ aG)=YF.g4 x0 (λaJ aG=>R (YF.s4 x0 aJ aG)) aJ aG:=by kernel_rfl
theorem YF.e4 (x0:List Int):∀(n:Nat) (aJ:Int) (aG:Int),loopN (loopF YF.E f217.ntmps [1,0,1,0] [] (codeOf f217) (YF.kt x0)) n (YF.s4 x0 aJ aG)=YF.l4 x0 n aJ aG:=by
 intro n
 induction n with
 |zero=>intros;rw[loopN_z];rfl
 |succ n ih=>
  intro aJ aG
  rw[loopN_s,YF.r4]
  simp only[ih]
  first|exact(YF.u4 ..).symm|rfl
theorem YF.v (x0:List Int):V.evBody YF.E YF.con f217 ((x0):List Int)=YF.b x0 (λaJ aG=>loopN (loopF YF.E f217.ntmps [1,0,1,0] [] (codeOf f217) (YF.kt x0)) V.KK (YF.s4 x0 aJ aG)):=by kernel_rfl
theorem YF.eq (x0:List Int):V.evBody YF.E YF.con f217 ((x0):List Int)=YF x0:=by
 rw[YF.v]
 simp only[YF.e4]
 rfl
theorem YF.ok :V.Valid prog 217 YF.con:=
 V.fo tab_nil func217 (by kernel_rfl) (λx y h=>(show V.evBody YF.E YF.con f217 x=_ from YF.eq x).trans (V.cfl (by kernel_rfl) h))
abbrev WO.con :V.Con:=⟨(ci .nil),(.cons .bool .nil),λ(x:Int)=>WO x,[],[(false,1)],[(false,1)],[false],[]⟩
abbrev WO.E :Env:=V.mkE V.tys [(58,Ya.con)] [] [] [] [] []
theorem WO.eq (x0:Int):V.evBody WO.E WO.con f218 ((x0):Int)=WO x0:=by kernel_rfl
theorem WO.ok :V.Valid prog 218 WO.con:=
 V.fo (tab_cons Ya.ok tab_nil) func218 (by kernel_rfl) (λx y h=>(show V.evBody WO.E WO.con f218 x=_ from WO.eq x).trans (V.cfl (by kernel_rfl) h))
abbrev Wy.con :V.Con:=⟨(.cons (.sl (ci .nil)) (ci .nil)),(.cons .bool .nil),λ(x:List Int×Int)=>Wy x,[],[(true,2)],[(false,1)],[false],[]⟩
abbrev Wy.E :Env:=V.mkE V.tys [(58,Ya.con),(217,YF.con),(218,WO.con)] [] [] [] [] []
theorem Wy.eq (x0:Za):V.evBody Wy.E Wy.con f199 ((x0.1,x0.2):List Int×Int)=Wy x0:=by kernel_rfl
theorem Wy.ok :V.Valid prog 199 Wy.con:=
 V.fo (tab_cons Ya.ok (tab_cons YF.ok (tab_cons WO.ok tab_nil))) func199 (by kernel_rfl) (λx y h=>(show V.evBody Wy.E Wy.con f199 x=_ from Wy.eq x).trans (V.cfl (by kernel_rfl) h))
abbrev W8.con :V.Con:=⟨(.cons (.sl (ci .nil)) (ci .nil)),(.cons .bool .nil),λ(x:List Int×Int)=>W8 x,[],[(true,2)],[(false,1)],[false],[]⟩
abbrev W8.E :Env:=V.mkE V.tys [] [] [] [] [] []
theorem W8.eq (x0:Za):V.evBody W8.E W8.con f202 ((x0.1,x0.2):List Int×Int)=W8 x0:=by kernel_rfl
theorem W8.ok :V.Valid prog 202 W8.con:=
 V.fo tab_nil func202 (by kernel_rfl) (λx y h=>(show V.evBody W8.E W8.con f202 x=_ from W8.eq x).trans (V.cfl (by kernel_rfl) h))
abbrev US.con :V.Con:=⟨(.cons (.sl (ci .nil)) (ci .nil)),(.cons .bool .nil),λ(x:List Int×Int)=>US x,[],[(true,2)],[(false,1)],[false],[]⟩
abbrev US.E :Env:=V.mkE V.tys [(199,Wy.con),(202,W8.con)] [] [] [] [] []
theorem US.eq (x0:Za):V.evBody US.E US.con f200 ((x0.1,x0.2):List Int×Int)=US x0:=by kernel_rfl
theorem US.ok :V.Valid prog 200 US.con:=
 V.fo (tab_cons Wy.ok (tab_cons W8.ok tab_nil)) func200 (by kernel_rfl) (λx y h=>(show V.evBody US.E US.con f200 x=_ from US.eq x).trans (V.cfl (by kernel_rfl) h))
abbrev Qh.con :V.Con:=⟨(ci (.cons (.sl (ci .nil)) (ci .nil))),(.cons .bool .nil),λ(x:Int×List Int×Int)=>Qh x.1 x.2,[],[(false,1),(true,2)],[(false,1)],[false],[]⟩
abbrev Qh.E :Env:=V.mkE V.tys [(58,Ya.con),(202,W8.con)] [] [] [] [] []
theorem Qh.eq (x0:Int)(x1:Za):V.evBody Qh.E Qh.con f201 ((x0,x1.1,x1.2):Int×List Int×Int)=Qh x0 x1:=by kernel_rfl
theorem Qh.ok :V.Valid prog 201 Qh.con:=
 V.fo (tab_cons Ya.ok (tab_cons W8.ok tab_nil)) func201 (by kernel_rfl) (λx y h=>(show V.evBody Qh.E Qh.con f201 x=_ from Qh.eq x.1 x.2).trans (V.cfl (by kernel_rfl) h))
abbrev Xr.con :V.Con:=⟨V.A0,(.cons .bool .nil),λ(x:V.D0)=>Xr (V.p0_0 x),[],[(true,16)],[(false,1)],[false],[]⟩
abbrev Xr.E :Env:=V.mkE V.tys [(58,Ya.con),(146,Wz.con),(198,XW.con),(199,Wy.con),(200,US.con),(201,Qh.con),(202,W8.con)] [] [] [] [] []
abbrev Xr.kt (x0:Z5):Kt Bool:=ktOf Xr.E Xr.con f176 (V.fl0 x0)
abbrev Xr.s (x0:Z5):St:=⟨[(0, .v true (V.lsHead x0))],[]⟩
theorem Xr.v0 (x0:Z5):V.evBody Xr.E Xr.con f176 (V.fl0 x0)=evC Xr.E f176.ntmps (codeOf f176) (Xr.kt x0) (Xr.s x0):=by kernel_rfl
theorem Xr.v (x0:Z5):evC Xr.E f176.ntmps (codeOf f176) (Xr.kt x0) (Xr.s x0)=Xr x0:=by kernel_rfl
theorem Xr.eq (x0:Z5):V.evBody Xr.E Xr.con f176 (V.fl0 x0)=Xr x0:=(Xr.v0 x0).trans (Xr.v x0)
theorem Xr.ok :V.Valid prog 176 Xr.con:=
 V.fo (tab_cons Ya.ok (tab_cons Wz.ok (tab_cons XW.ok (tab_cons Wy.ok (tab_cons US.ok (tab_cons Qh.ok (tab_cons W8.ok tab_nil))))))) func176 (by kernel_rfl) (λx y h=>(show V.evBody Xr.E Xr.con f176 x=_ from Xr.eq (V.p0_0 x)).trans (V.cfl (by kernel_rfl) h))
abbrev Wr.con :V.Con:=⟨(.cons (.sl (ci .nil)) (ci .nil)),(.cons (.sl (ci .nil)) .nil),λ(x:List Int×Int)=>Wr x,[],[(true,2)],[(false,1)],[true],[]⟩
abbrev Wr.E :Env:=V.mkE V.tys [] [] [] [] [] []
theorem Wr.eq (x0:Za):V.evBody Wr.E Wr.con f186 ((x0.1,x0.2):List Int×Int)=Wr x0:=by kernel_rfl
theorem Wr.ok :V.Valid prog 186 Wr.con:=
 V.fo tab_nil func186 (by kernel_rfl) (λx y h=>(show V.evBody Wr.E Wr.con f186 x=_ from Wr.eq x).trans (V.cfl (by kernel_rfl) h))
abbrev Ui.con :V.Con:=⟨(ci (ci .nil)),(ci .nil),λ(x:Int×Int)=>Ui x.1 x.2,[],[(false,1),(false,1)],[(false,1)],[false],[]⟩
abbrev Ui.E :Env:=V.mkE V.tys [(58,Ya.con)] [] [] [] [] []
theorem Ui.eq (x0:Int)(x1:Int):V.evBody Ui.E Ui.con f180 ((x0,x1):Int×Int)=Ui x0 x1:=by kernel_rfl
theorem Ui.ok :V.Valid prog 180 Ui.con:=
 V.fo (tab_cons Ya.ok tab_nil) func180 (by kernel_rfl) (λx y h=>(show V.evBody Ui.E Ui.con f180 x=_ from Ui.eq x.1 x.2).trans (V.cfl (by kernel_rfl) h))
abbrev Y5.con :V.Con:=⟨(.cons (.sl (ci .nil)) .nil),(ci .nil),λ(x:List Int)=>Y5 x,[],[(false,1)],[(false,1)],[false],[]⟩
abbrev Y5.E :Env:=V.mkE V.tys [(180,Ui.con)] [(6,[3,6,7,8],[])] [] [] [] []
abbrev Y5.kt (x0:List Int):Kt Int:=ktOf Y5.E Y5.con f144 ((x0):List Int)
abbrev Y5.s6 (x0:List Int)(aI:Int)(aA:Int)(aE:Int):St:=⟨[(3, .v false [.vi (aI)]),(6, .v false [.val (.sl (ci .nil) x0)]),(7, .v false [.vi (aA)]),(8, .v false [.vi (aE)])],[]⟩
theorem Y5.r6 (x0:List Int)(R:St->Option Int)(aI:Int)(aA:Int)(aE:Int):loopF Y5.E f144.ntmps [1,1,0,1,0] [] (codeOf f144) (Y5.kt x0) R (Y5.s6 x0 aI aA aE)=Y5.g6 x0 (λaI aA aE=>R (Y5.s6 x0 aI aA aE)) aI aA aE:=by kernel_rfl
theorem Y5.e6 (x0:List Int):∀(n:Nat) (aI:Int) (aA:Int) (aE:Int),loopN (loopF Y5.E f144.ntmps [1,1,0,1,0] [] (codeOf f144) (Y5.kt x0)) n (Y5.s6 x0 aI aA aE)=Y5.l6 x0 n aI aA aE:=by
 intro n
 induction n with
 |zero=>intros;rw[loopN_z];rfl
 |succ n ih=>
  intro aI aA aE
  rw[loopN_s,Y5.r6]
  simp only[ih]
  first|exact(Y5.u6 ..).symm|rfl
theorem Y5.v (x0:List Int):V.evBody Y5.E Y5.con f144 ((x0):List Int)=Y5.b x0 (λaI aA aE=>loopN (loopF Y5.E f144.ntmps [1,1,0,1,0] [] (codeOf f144) (Y5.kt x0)) V.KK (Y5.s6 x0 aI aA aE)):=by kernel_rfl
theorem Y5.eq (x0:List Int):V.evBody Y5.E Y5.con f144 ((x0):List Int)=Y5 x0:=by
 rw[Y5.v]
 simp only[Y5.e6]
 rfl
theorem Y5.ok :V.Valid prog 144 Y5.con:=
 V.fo (tab_cons Ui.ok tab_nil) func144 (by kernel_rfl) (λx y h=>(show V.evBody Y5.E Y5.con f144 x=_ from Y5.eq x).trans (V.cfl (by kernel_rfl) h))
abbrev UR.con :V.Con:=⟨(.cons (.sl (ci .nil)) (ci (ci .nil))),(ci .nil),λ(x:List Int×Int×Int)=>UR (x.1,x.2.1) x.2.2,[],[(true,2),(false,1)],[(false,1)],[false],[]⟩
abbrev UR.E :Env:=V.mkE V.tys [(144,Y5.con),(186,Wr.con)] [] [] [] [] []
theorem UR.eq (x0:Za)(x1:Int):V.evBody UR.E UR.con f177 ((x0.1,x0.2,x1):List Int×Int×Int)=UR x0 x1:=by kernel_rfl
theorem UR.ok :V.Valid prog 177 UR.con:=
 V.fo (tab_cons Y5.ok (tab_cons Wr.ok tab_nil)) func177 (by kernel_rfl) (λx y h=>(show V.evBody UR.E UR.con f177 x=_ from UR.eq (x.1,x.2.1) x.2.2).trans (V.cfl (by kernel_rfl) h))
abbrev UA.con :V.Con:=⟨(.cons .bool .nil),(ci .nil),λ(x:Bool)=>UA x,[],[(false,1)],[(false,1)],[false],[]⟩
abbrev UA.E :Env:=V.mkE V.tys [] [] [] [] [] []
theorem UA.eq (x0:Bool):V.evBody UA.E UA.con f187 ((x0):Bool)=UA x0:=by kernel_rfl
theorem UA.ok :V.Valid prog 187 UA.con:=
 V.fo tab_nil func187 (by kernel_rfl) (λx y h=>(show V.evBody UA.E UA.con f187 x=_ from UA.eq x).trans (V.cfl (by kernel_rfl) h))
abbrev X6.con :V.Con:=⟨(.cons (.sl (ci .nil)) (ci .nil)),(.cons (.sl (ci .nil)) .nil),λ(x:List Int×Int)=>X6 x.1 x.2,[],[(false,1),(false,1)],[(false,1)],[true],[0]⟩
abbrev X6.E :Env:=V.mkE V.tys [] [(7,[0,1],[])] [] [] [] []
abbrev X6.kt (x0:List Int)(x1:Int):Kt (List Int):=ktOf X6.E X6.con f211 ((x0,x1):List Int×Int)
abbrev X6.s7 (x1:Int):St:=⟨[(0, .v false [.nil0]),(1, .v false [.vi (x1)])],[]⟩
theorem X6.r7 (x0:List Int)(x1:Int):joinF X6.E f211.ntmps [1] [] (codeOf f211) (X6.kt x0 x1) (X6.s7 x1)=X6.g7 x1:=by kernel_rfl
theorem X6.e7 (x0:List Int)(x1:Int):jn (joinF X6.E f211.ntmps [1] [] (codeOf f211) (X6.kt x0 x1)) (X6.s7 x1)=X6.l7 x1:=by
 rw[jn_eq,X6.r7]
 rfl
theorem X6.v (x0:List Int)(x1:Int):V.evBody X6.E X6.con f211 ((x0,x1):List Int×Int)=X6.b x0 x1 (jn (joinF X6.E f211.ntmps [1] [] (codeOf f211) (X6.kt x0 x1)) (X6.s7 x1)):=by kernel_rfl
theorem X6.eq (x0:List Int)(x1:Int):V.evBody X6.E X6.con f211 ((x0,x1):List Int×Int)=X6 x0 x1:=by
 rw[X6.v]
 simp only[X6.e7]
 rfl
theorem X6.ok :V.Valid prog 211 X6.con:=
 V.fo tab_nil func211 (by kernel_rfl) (λx y h=>(show V.evBody X6.E X6.con f211 x=_ from X6.eq x.1 x.2).trans (V.cfl (by kernel_rfl) h))
abbrev ZA.con :V.Con:=⟨(.cons (.sl (.cons (.sl (ci .nil)) .nil)) .nil),(.cons (.sl (ci .nil)) .nil),λ(x:List (List Int))=>ZA x,[],[(false,1)],[(false,1)],[true],[]⟩
abbrev ZA.E :Env:=V.mkE V.tys [(211,X6.con)] [(6,[0,3,9,10,11],[]),(22,[6,25,26,27],[])] [] [] [] []
abbrev ZA.kt (x0:List (List Int)):Kt (List Int):=ktOf ZA.E ZA.con f185 ((x0):List (List Int))
abbrev ZA.s22 (x0:List (List Int))(cY:Int)(cO:Int)(cS:List Int):St:=⟨[(6, .v false [.ref 64000140800384]),(25, .v false [.val (.sl (.cons (.sl (ci .nil)) .nil) x0)]),(26, .v false [.vi (cY)]),(27, .v false [.vi (cO)])],[(64000140800384, .row (ci .nil) true cS)]⟩
abbrev ZA.s6 (x0:List (List Int))(aD:Int)(aE:Int)(aK:Int):St:=⟨[(0, .v false [.val (.sl (.cons (.sl (ci .nil)) .nil) x0)]),(3, .v false [.vi (aD)]),(9, .v false [.val (.sl (.cons (.sl (ci .nil)) .nil) x0)]),(10, .v false [.vi (aE)]),(11, .v false [.vi (aK)])],[]⟩
theorem ZA.r22 (x0:List (List Int))(R:St->Option (List Int))(cY:Int)(cO:Int)(cS:List Int):loopF ZA.E f185.ntmps [1,1,1,1,0,1,0] [] (codeOf f185) (ZA.kt x0) R (ZA.s22 x0 cY cO cS)=ZA.g22 x0 (λcY cO cS=>R (ZA.s22 x0 cY cO cS)) cY cO cS:=by kernel_rfl
theorem ZA.e22 (x0:List (List Int)):∀(n:Nat) (cY:Int) (cO:Int) (cS:List Int),loopN (loopF ZA.E f185.ntmps [1,1,1,1,0,1,0] [] (codeOf f185) (ZA.kt x0)) n (ZA.s22 x0 cY cO cS)=ZA.l22 x0 n cY cO cS:=by
 intro n
 induction n with
 |zero=>intros;rw[loopN_z];rfl
 |succ n ih=>
  intro cY cO cS
  rw[loopN_s,ZA.r22]
  simp only[ih]
  first|exact(ZA.u22 ..).symm|rfl
theorem ZA.r6 (x0:List (List Int))(R:St->Option (List Int))(aD:Int)(aE:Int)(aK:Int):loopF ZA.E f185.ntmps [1,1,0,1,0] [] (codeOf f185) (ZA.kt x0) R (ZA.s6 x0 aD aE aK)=ZA.g6 x0 (λaD aE aK=>R (ZA.s6 x0 aD aE aK)) (λcY cO cS=>loopN (loopF ZA.E f185.ntmps [1,1,1,1,0,1,0] [] (codeOf f185) (ZA.kt x0)) V.KK (ZA.s22 x0 cY cO cS)) aD aE aK:=by kernel_rfl
theorem ZA.e6 (x0:List (List Int)):∀(n:Nat) (aD:Int) (aE:Int) (aK:Int),loopN (loopF ZA.E f185.ntmps [1,1,0,1,0] [] (codeOf f185) (ZA.kt x0)) n (ZA.s6 x0 aD aE aK)=ZA.l6 x0 n aD aE aK:=by
 intro n
 induction n with
 |zero=>intros;rw[loopN_z];rfl
 |succ n ih=>
  intro aD aE aK
  rw[loopN_s,ZA.r6]
  simp only[ZA.e22,ih]
  first|exact(ZA.u6 ..).symm|rfl
theorem ZA.v (x0:List (List Int)):V.evBody ZA.E ZA.con f185 ((x0):List (List Int))=ZA.b x0 (λaD aE aK=>loopN (loopF ZA.E f185.ntmps [1,1,0,1,0] [] (codeOf f185) (ZA.kt x0)) V.KK (ZA.s6 x0 aD aE aK)):=by kernel_rfl
theorem ZA.eq (x0:List (List Int)):V.evBody ZA.E ZA.con f185 ((x0):List (List Int))=ZA x0:=by
 rw[ZA.v]
 simp only[ZA.e6]
 rfl
theorem ZA.ok :V.Valid prog 185 ZA.con:=
 V.fo (tab_cons X6.ok tab_nil) func185 (by kernel_rfl) (λx y h=>(show V.evBody ZA.E ZA.con f185 x=_ from ZA.eq x).trans (V.cfl (by kernel_rfl) h))
abbrev Xm.con :V.Con:=⟨V.A0,(.cons (.sl (ci .nil)) .nil),λ(x:V.D0)=>Xm (V.p0_0 x),[],[(true,16)],[(false,1)],[true],[]⟩
abbrev Xm.E :Env:=V.mkE V.tys [(185,ZA.con),(186,Wr.con),(187,UA.con)] [] [(1,33)] [] [] []
abbrev Xm.kt (x0:Z5):Kt (List Int):=ktOf Xm.E Xm.con f150 (V.fl0 x0)
abbrev Xm.s (x0:Z5):St:=⟨[(0, .v true (V.lsHead x0))],[]⟩
theorem Xm.v0 (x0:Z5):V.evBody Xm.E Xm.con f150 (V.fl0 x0)=evC Xm.E f150.ntmps (codeOf f150) (Xm.kt x0) (Xm.s x0):=by kernel_rfl
theorem Xm.v (x0:Z5):evC Xm.E f150.ntmps (codeOf f150) (Xm.kt x0) (Xm.s x0)=Xm x0:=by kernel_rfl
theorem Xm.eq (x0:Z5):V.evBody Xm.E Xm.con f150 (V.fl0 x0)=Xm x0:=(Xm.v0 x0).trans (Xm.v x0)
theorem Xm.ok :V.Valid prog 150 Xm.con:=
 V.fo (tab_cons ZA.ok (tab_cons Wr.ok (tab_cons UA.ok tab_nil))) func150 (by kernel_rfl) (λx y h=>(show V.evBody Xm.E Xm.con f150 x=_ from Xm.eq (V.p0_0 x)).trans (V.cfl (by kernel_rfl) h))
abbrev UO.con :V.Con:=⟨(ci (.cons (.sl (ci .nil)) .nil)),(ci .nil),λ(x:Int×List Int)=>UO x.1 x.2,[],[(false,1),(false,1)],[(false,1)],[false],[]⟩
abbrev UO.E :Env:=V.mkE V.tys [(144,Y5.con),(185,ZA.con)] [] [] [128320] [] []
theorem UO.eq (x0:Int)(x1:List Int):V.evBody UO.E UO.con f227 ((x0,x1):Int×List Int)=UO x0 x1:=by kernel_rfl
theorem UO.ok :V.Valid prog 227 UO.con:=
 V.fo (tab_cons Y5.ok (tab_cons ZA.ok tab_nil)) func227 (by kernel_rfl) (λx y h=>(show V.evBody UO.E UO.con f227 x=_ from UO.eq x.1 x.2).trans (V.cfl (by kernel_rfl) h))
abbrev UQ.con :V.Con:=⟨(ci (.cons (.sl (ci .nil)) .nil)),(ci .nil),λ(x:Int×List Int)=>UQ x.1 x.2,[],[(false,1),(false,1)],[(false,1)],[false],[]⟩
abbrev UQ.E :Env:=V.mkE V.tys [(227,UO.con)] [] [] [] [] []
theorem UQ.eq (x0:Int)(x1:List Int):V.evBody UQ.E UQ.con f226 ((x0,x1):Int×List Int)=UQ x0 x1:=by kernel_rfl
theorem UQ.ok :V.Valid prog 226 UQ.con:=
 V.fo (tab_cons UO.ok tab_nil) func226 (by kernel_rfl) (λx y h=>(show V.evBody UQ.E UQ.con f226 x=_ from UQ.eq x.1 x.2).trans (V.cfl (by kernel_rfl) h))
abbrev UL.con :V.Con:=⟨(ci (ci (.cons (.sl (ci .nil)) .nil))),(.cons .bool .nil),λ(x:Int×Int×List Int)=>UL (x.1,x.2.1) x.2.2,[],[(true,2),(false,1)],[(false,1)],[false],[]⟩
abbrev UL.E :Env:=V.mkE V.tys [(218,WO.con),(226,UQ.con)] [] [(1,10)] [] [] []
theorem UL.eq (x0:Z7)(x1:List Int):V.evBody UL.E UL.con f224 ((x0.1,x0.2,x1):Int×Int×List Int)=UL x0 x1:=by kernel_rfl
theorem UL.ok :V.Valid prog 224 UL.con:=
 V.fo (tab_cons WO.ok (tab_cons UQ.ok tab_nil)) func224 (by kernel_rfl) (λx y h=>(show V.evBody UL.E UL.con f224 x=_ from UL.eq (x.1,x.2.1) x.2.2).trans (V.cfl (by kernel_rfl) h))
abbrev Qe.con :V.Con:=⟨(ci (ci (.cons (.ptr (ci .nil)) (.cons (.ptr (.cons (.sl (ci .nil)) .nil)) .nil)))),(.cons .bool .nil),λ(x:Int×Int×Int×List Int)=>Qe (x.1,x.2.1) x.2.2.1 x.2.2.2,[],[(true,2),(false,1),(false,1)],[(false,1)],[false],[]⟩
abbrev Qe.E :Env:=V.mkE V.tys [(224,UL.con)] [] [] [] [] []
theorem Qe.eq (x0:Z7)(x1:Int)(x2:List Int):V.evBody Qe.E Qe.con f223 ((x0.1,x0.2,x1,x2):Int×Int×Int×List Int)=Qe x0 x1 x2:=by kernel_rfl
theorem Qe.ok :V.Valid prog 223 Qe.con:=
 V.fo (tab_cons UL.ok tab_nil) func223 (by kernel_rfl) (λx y h=>(show V.evBody Qe.E Qe.con f223 x=_ from Qe.eq (x.1,x.2.1) x.2.2.1 x.2.2.2).trans (V.cfl (by kernel_rfl) h))
abbrev Yq.con :V.Con:=⟨(.cons (.sl (ci (ci .nil))) (.cons (.fn 223 false .nil (.cons (.ptr (ci .nil)) (.cons (.ptr (.cons (.sl (ci .nil)) .nil)) .nil))) .nil)),(ci .nil),λ(x:List Z7×(Unit)×(Int×List Int))=>Yq x.1 x.2,[],[(false,1),(false,1)],[(false,1)],[false],[]⟩
abbrev Yq.E :Env:=V.mkE V.tys [(223,Qe.con)] [(4,[0,1,7,8],[])] [] [] [] []
abbrev Yq.kt (x0:List Z7)(x1:(Unit)×(Int×List Int)):Kt Int:=ktOf Yq.E Yq.con f225 ((x0,x1):List Z7×(Unit)×(Int×List Int))
abbrev Yq.s4 (x0:List Z7)(x1:(Unit)×(Int×List Int))(aG:Int)(aN:Int):St:=⟨[(0, .v false [.val (.sl (ci (ci .nil)) x0)]),(1, .v false [.val (.fn 223 false .nil (.cons (.ptr (ci .nil)) (.cons (.ptr (.cons (.sl (ci .nil)) .nil)) .nil)) () x1.2)]),(7, .v false [.vi (aG)]),(8, .v false [.vi (aN)])],[]⟩
theorem Yq.r4 (x0:List Z7)(x1:(Unit)×(Int×List Int))(R:St->Option Int)(aG:Int)(aN:Int):loopF Yq.E f225.ntmps [1,0,1,0] [] (codeOf f225) (Yq.kt x0 x1) R (Yq.s4 x0 x1 aG aN)=Yq.g4 x0 x1 (λaG aN=>R (Yq.s4 x0 x1 aG aN)) aG aN:=by kernel_rfl
theorem Yq.e4 (x0:List Z7)(x1:(Unit)×(Int×List Int)):∀(n:Nat) (aG:Int) (aN:Int),loopN (loopF Yq.E f225.ntmps [1,0,1,0] [] (codeOf f225) (Yq.kt x0 x1)) n (Yq.s4 x0 x1 aG aN)=Yq.l4 x0 x1 n aG aN:=by
 intro n
 induction n with
 |zero=>intros;rw[loopN_z];rfl
 |succ n ih=>
  intro aG aN
  rw[loopN_s,Yq.r4]
  simp only[ih]
  first|exact(Yq.u4 ..).symm|rfl
theorem Yq.v (x0:List Z7)(x1:(Unit)×(Int×List Int)):V.evBody Yq.E Yq.con f225 ((x0,x1):List Z7×(Unit)×(Int×List Int))=Yq.b x0 x1 (λaG aN=>loopN (loopF Yq.E f225.ntmps [1,0,1,0] [] (codeOf f225) (Yq.kt x0 x1)) V.KK (Yq.s4 x0 x1 aG aN)):=by kernel_rfl
theorem Yq.eq (x0:List Z7)(x1:(Unit)×(Int×List Int)):V.evBody Yq.E Yq.con f225 ((x0,x1):List Z7×(Unit)×(Int×List Int))=Yq x0 x1:=by
 rw[Yq.v]
 simp only[Yq.e4]
 rfl
theorem Yq.ok :V.Valid prog 225 Yq.con:=
 V.fo (tab_cons Qe.ok tab_nil) func225 (by kernel_rfl) (λx y h=>(show V.evBody Yq.E Yq.con f225 x=_ from Yq.eq x.1 x.2).trans (V.cfl (by kernel_rfl) h))
abbrev UY.con :V.Con:=⟨(.cons (.sl (ci (ci .nil))) (.cons (.fn 223 false .nil (.cons (.ptr (ci .nil)) (.cons (.ptr (.cons (.sl (ci .nil)) .nil)) .nil))) .nil)),(.cons .bool .nil),λ(x:List Z7×(Unit)×(Int×List Int))=>UY x.1 x.2,[],[(false,1),(false,1)],[(false,1)],[false],[]⟩
abbrev UY.E :Env:=V.mkE V.tys [(225,Yq.con)] [] [] [] [] []
theorem UY.eq (x0:List Z7)(x1:(Unit)×(Int×List Int)):V.evBody UY.E UY.con f222 ((x0,x1):List Z7×(Unit)×(Int×List Int))=UY x0 x1:=by kernel_rfl
theorem UY.ok :V.Valid prog 222 UY.con:=
 V.fo (tab_cons Yq.ok tab_nil) func222 (by kernel_rfl) (λx y h=>(show V.evBody UY.E UY.con f222 x=_ from UY.eq x.1 x.2).trans (V.cfl (by kernel_rfl) h))
abbrev YD.con :V.Con:=⟨(.cons (.sl (ci .nil)) (ci (.cons (.sl (ci .nil)) (.cons (.sl (ci (ci .nil))) .nil)))),(ci .nil),λ(x:List Int×Int×List Int×List Z7)=>YD (x.1,x.2.1) x.2.2.1 x.2.2.2,[],[(true,2),(false,1),(false,1)],[(false,1)],[false],[]⟩
abbrev YD.E :Env:=V.mkE V.tys [(222,UY.con)] [(6,[2,4,7,11,12,13],[])] [] [] [] []
abbrev YD.kt (x0:Za)(x1:List Int)(x2:List Z7):Kt Int:=ktOf YD.E YD.con f219 ((x0.1,x0.2,x1,x2):List Int×Int×List Int×List Z7)
abbrev YD.s6 (x0:Za)(x1:List Int)(x2:List Z7)(aD:Int)(aE:Int)(aK:Int):St:=⟨[(2, .v false [.val (.sl (ci (ci .nil)) x2)]),(4, .v false [.ptr 64064 0]),(7, .v false [.vi (aD)]),(11, .v false [.val (.sl (ci .nil) x0.1)]),(12, .v false [.vi (aE)]),(13, .v false [.vi (aK)])],[(64064, .box [.val (.sl (ci .nil) x1)])]⟩
theorem YD.r6 (x0:Za)(x1:List Int)(x2:List Z7)(R:St->Option Int)(aD:Int)(aE:Int)(aK:Int):loopF YD.E f219.ntmps [1,1,0,1,0] [] (codeOf f219) (YD.kt x0 x1 x2) R (YD.s6 x0 x1 x2 aD aE aK)=YD.g6 x0 x1 x2 (λaD aE aK=>R (YD.s6 x0 x1 x2 aD aE aK)) aD aE aK:=by kernel_rfl
theorem YD.e6 (x0:Za)(x1:List Int)(x2:List Z7):∀(n:Nat) (aD:Int) (aE:Int) (aK:Int),loopN (loopF YD.E f219.ntmps [1,1,0,1,0] [] (codeOf f219) (YD.kt x0 x1 x2)) n (YD.s6 x0 x1 x2 aD aE aK)=YD.l6 x0 x1 x2 n aD aE aK:=by
 intro n
 induction n with
 |zero=>intros;rw[loopN_z];rfl
 |succ n ih=>
  intro aD aE aK
  rw[loopN_s,YD.r6]
  simp only[ih]
  first|exact(YD.u6 ..).symm|rfl
theorem YD.v (x0:Za)(x1:List Int)(x2:List Z7):V.evBody YD.E YD.con f219 ((x0.1,x0.2,x1,x2):List Int×Int×List Int×List Z7)=YD.b x0 x1 x2 (λaD aE aK=>loopN (loopF YD.E f219.ntmps [1,1,0,1,0] [] (codeOf f219) (YD.kt x0 x1 x2)) V.KK (YD.s6 x0 x1 x2 aD aE aK)):=by kernel_rfl
theorem YD.eq (x0:Za)(x1:List Int)(x2:List Z7):V.evBody YD.E YD.con f219 ((x0.1,x0.2,x1,x2):List Int×Int×List Int×List Z7)=YD x0 x1 x2:=by
 rw[YD.v]
 simp only[YD.e6]
 rfl
theorem YD.ok :V.Valid prog 219 YD.con:=
 V.fo (tab_cons UY.ok tab_nil) func219 (by kernel_rfl) (λx y h=>(show V.evBody YD.E YD.con f219 x=_ from YD.eq (x.1,x.2.1) x.2.2.1 x.2.2.2).trans (V.cfl (by kernel_rfl) h))
abbrev UM.con :V.Con:=⟨(.cons (.sl (ci .nil)) (ci (.cons (.sl (ci .nil)) (.cons (.sl (ci (ci .nil))) .nil)))),(.cons .bool .nil),λ(x:List Int×Int×List Int×List Z7)=>UM (x.1,x.2.1) x.2.2.1 x.2.2.2,[],[(true,2),(false,1),(false,1)],[(false,1)],[false],[]⟩
abbrev UM.E :Env:=V.mkE V.tys [(199,Wy.con),(219,YD.con)] [] [(1,9)] [] [] []
theorem UM.eq (x0:Za)(x1:List Int)(x2:List Z7):V.evBody UM.E UM.con f203 ((x0.1,x0.2,x1,x2):List Int×Int×List Int×List Z7)=UM x0 x1 x2:=by kernel_rfl
theorem UM.ok :V.Valid prog 203 UM.con:=
 V.fo (tab_cons Wy.ok (tab_cons YD.ok tab_nil)) func203 (by kernel_rfl) (λx y h=>(show V.evBody UM.E UM.con f203 x=_ from UM.eq (x.1,x.2.1) x.2.2.1 x.2.2.2).trans (V.cfl (by kernel_rfl) h))
abbrev Xi.con :V.Con:=⟨V.A11,(.cons .bool .nil),λ(x:V.D11)=>Xi (V.p11_0 x) (V.p11_1 x),[],[(true,17),(true,2)],[(false,1)],[false],[]⟩
abbrev Xi.E :Env:=V.mkE V.tys [(150,Xm.con),(203,UM.con)] [] [(1,6)] [] [] []
abbrev Xi.kt (x0:Z4)(x1:Za):Kt Bool:=ktOf Xi.E Xi.con f178 (V.fl11 x0 x1)
abbrev Xi.s (x0:Z4)(x1:Za):St:=⟨[(0, .v true (V.lsSigned x0)),(1, .v true [.val (.sl (ci .nil) x1.1), .vi (x1.2)])],[]⟩
theorem Xi.v0 (x0:Z4)(x1:Za):V.evBody Xi.E Xi.con f178 (V.fl11 x0 x1)=evC Xi.E f178.ntmps (codeOf f178) (Xi.kt x0 x1) (Xi.s x0 x1):=by kernel_rfl
theorem Xi.v (x0:Z4)(x1:Za):evC Xi.E f178.ntmps (codeOf f178) (Xi.kt x0 x1) (Xi.s x0 x1)=Xi x0 x1:=by kernel_rfl
theorem Xi.eq (x0:Z4)(x1:Za):V.evBody Xi.E Xi.con f178 (V.fl11 x0 x1)=Xi x0 x1:=(Xi.v0 x0 x1).trans (Xi.v x0 x1)
theorem Xi.ok :V.Valid prog 178 Xi.con:=
 V.fo (tab_cons Xm.ok (tab_cons UM.ok tab_nil)) func178 (by kernel_rfl) (λx y h=>(show V.evBody Xi.E Xi.con f178 x=_ from Xi.eq (V.p11_0 x) (V.p11_1 x)).trans (V.cfl (by kernel_rfl) h))
abbrev XH.con :V.Con:=⟨V.A2,(.cons .bool .nil),λ(x:V.D2)=>XH (V.p2_0 x),[],[(true,17)],[(false,1)],[false],[]⟩
abbrev XH.E :Env:=V.mkE V.tys [(176,Xr.con),(177,UR.con),(178,Xi.con)] [] [(2,31)] [] [] []
abbrev XH.kt (x0:Z4):Kt Bool:=ktOf XH.E XH.con f140 (V.fl2 x0)
abbrev XH.s (x0:Z4):St:=⟨[(0, .v true (V.lsSigned x0))],[]⟩
theorem XH.v0 (x0:Z4):V.evBody XH.E XH.con f140 (V.fl2 x0)=evC XH.E f140.ntmps (codeOf f140) (XH.kt x0) (XH.s x0):=by kernel_rfl
theorem XH.v (x0:Z4):evC XH.E f140.ntmps (codeOf f140) (XH.kt x0) (XH.s x0)=XH x0:=by kernel_rfl
theorem XH.eq (x0:Z4):V.evBody XH.E XH.con f140 (V.fl2 x0)=XH x0:=(XH.v0 x0).trans (XH.v x0)
theorem XH.ok :V.Valid prog 140 XH.con:=
 V.fo (tab_cons Xr.ok (tab_cons UR.ok (tab_cons Xi.ok tab_nil))) func140 (by kernel_rfl) (λx y h=>(show V.evBody XH.E XH.con f140 x=_ from XH.eq (V.p2_0 x)).trans (V.cfl (by kernel_rfl) h))
abbrev XG.con :V.Con:=⟨V.A0,(ci .nil),λ(x:V.D0)=>XG (V.p0_0 x),[],[(true,16)],[(false,1)],[false],[]⟩
abbrev XG.E :Env:=V.mkE V.tys [(144,Y5.con),(150,Xm.con)] [] [] [] [] []
abbrev XG.kt (x0:Z5):Kt Int:=ktOf XG.E XG.con f220 (V.fl0 x0)
abbrev XG.s (x0:Z5):St:=⟨[(0, .v true (V.lsHead x0))],[]⟩
theorem XG.v0 (x0:Z5):V.evBody XG.E XG.con f220 (V.fl0 x0)=evC XG.E f220.ntmps (codeOf f220) (XG.kt x0) (XG.s x0):=by kernel_rfl
theorem XG.v (x0:Z5):evC XG.E f220.ntmps (codeOf f220) (XG.kt x0) (XG.s x0)=XG x0:=by kernel_rfl
theorem XG.eq (x0:Z5):V.evBody XG.E XG.con f220 (V.fl0 x0)=XG x0:=(XG.v0 x0).trans (XG.v x0)
theorem XG.ok :V.Valid prog 220 XG.con:=
 V.fo (tab_cons Y5.ok (tab_cons Xm.ok tab_nil)) func220 (by kernel_rfl) (λx y h=>(show V.evBody XG.E XG.con f220 x=_ from XG.eq (V.p0_0 x)).trans (V.cfl (by kernel_rfl) h))
abbrev XJ.con :V.Con:=⟨V.A3,(.cons .bool .nil),λ(x:V.D3)=>XJ (V.p3_0 x) (V.p3_1 x),[],[(true,16),(true,16)],[(false,1)],[false],[]⟩
abbrev XJ.E :Env:=V.mkE V.tys [(220,XG.con)] [] [(1,25)] [] [] []
abbrev XJ.kt (x0:Z5)(x1:Z5):Kt Bool:=ktOf XJ.E XJ.con f204 (V.fl3 x0 x1)
abbrev XJ.s (x0:Z5)(x1:Z5):St:=⟨[(0, .v true (V.lsHead x0)),(1, .v true (V.lsHead x1))],[]⟩
theorem XJ.v0 (x0:Z5)(x1:Z5):V.evBody XJ.E XJ.con f204 (V.fl3 x0 x1)=evC XJ.E f204.ntmps (codeOf f204) (XJ.kt x0 x1) (XJ.s x0 x1):=by kernel_rfl
theorem XJ.v (x0:Z5)(x1:Z5):evC XJ.E f204.ntmps (codeOf f204) (XJ.kt x0 x1) (XJ.s x0 x1)=XJ x0 x1:=by kernel_rfl
theorem XJ.eq (x0:Z5)(x1:Z5):V.evBody XJ.E XJ.con f204 (V.fl3 x0 x1)=XJ x0 x1:=(XJ.v0 x0 x1).trans (XJ.v x0 x1)
theorem XJ.ok :V.Valid prog 204 XJ.con:=
 V.fo (tab_cons XG.ok tab_nil) func204 (by kernel_rfl) (λx y h=>(show V.evBody XJ.E XJ.con f204 x=_ from XJ.eq (V.p3_0 x) (V.p3_1 x)).trans (V.cfl (by kernel_rfl) h))
abbrev XL.con :V.Con:=⟨V.A4,(ci .nil),λ(x:V.D4)=>XL (V.p4_0 x) (V.p4_1 x),[],[(true,16),(true,17)],[(false,1)],[false],[]⟩
abbrev XL.E :Env:=V.mkE V.tys [(178,Xi.con)] [] [] [] [] []
abbrev XL.kt (x0:Z5)(x1:Z4):Kt Int:=ktOf XL.E XL.con f205 (V.fl4 x0 x1)
abbrev XL.s (x0:Z5)(x1:Z4):St:=⟨[(0, .v true (V.lsHead x0)),(1, .v true (V.lsSigned x1))],[]⟩
theorem XL.v0 (x0:Z5)(x1:Z4):V.evBody XL.E XL.con f205 (V.fl4 x0 x1)=evC XL.E f205.ntmps (codeOf f205) (XL.kt x0 x1) (XL.s x0 x1):=by kernel_rfl
theorem XL.v (x0:Z5)(x1:Z4):evC XL.E f205.ntmps (codeOf f205) (XL.kt x0 x1) (XL.s x0 x1)=XL x0 x1:=by kernel_rfl
theorem XL.eq (x0:Z5)(x1:Z4):V.evBody XL.E XL.con f205 (V.fl4 x0 x1)=XL x0 x1:=(XL.v0 x0 x1).trans (XL.v x0 x1)
theorem XL.ok :V.Valid prog 205 XL.con:=
 V.fo (tab_cons Xi.ok tab_nil) func205 (by kernel_rfl) (λx y h=>(show V.evBody XL.E XL.con f205 x=_ from XL.eq (V.p4_0 x) (V.p4_1 x)).trans (V.cfl (by kernel_rfl) h))
abbrev Y8.con :V.Con:=⟨(.cons (.sl (ci .nil)) (.cons (.sl (ci .nil)) .nil)),(.cons .bool .nil),λ(x:List Int×List Int)=>Y8 x.1 x.2,[],[(false,1),(false,1)],[(false,1)],[false],[]⟩
abbrev Y8.E :Env:=V.mkE V.tys [] [(8,[0,1,12,13],[])] [(6,8)] [] [] []
abbrev Y8.kt (x0:List Int)(x1:List Int):Kt Bool:=ktOf Y8.E Y8.con f69 ((x0,x1):List Int×List Int)
abbrev Y8.s8 (x0:List Int)(x1:List Int)(aF:Int)(aM:Int):St:=⟨[(0, .v false [.val (.sl (ci .nil) x0)]),(1, .v false [.val (.sl (ci .nil) x1)]),(12, .v false [.vi (aF)]),(13, .v false [.vi (aM)])],[]⟩
theorem Y8.r8 (x0:List Int)(x1:List Int)(R:St->Option Bool)(aF:Int)(aM:Int):loopF Y8.E f69.ntmps [1,1,0,1,0] [] (codeOf f69) (Y8.kt x0 x1) R (Y8.s8 x0 x1 aF aM)=Y8.g8 x0 x1 (λaF aM=>R (Y8.s8 x0 x1 aF aM)) aF aM:=by kernel_rfl
theorem Y8.e8 (x0:List Int)(x1:List Int):∀(n:Nat) (aF:Int) (aM:Int),loopN (loopF Y8.E f69.ntmps [1,1,0,1,0] [] (codeOf f69) (Y8.kt x0 x1)) n (Y8.s8 x0 x1 aF aM)=Y8.l8 x0 x1 n aF aM:=by
 intro n
 induction n with
 |zero=>intros;rw[loopN_z];rfl
 |succ n ih=>
  intro aF aM
  rw[loopN_s,Y8.r8]
  simp only[ih]
  first|exact(Y8.u8 ..).symm|rfl
theorem Y8.v (x0:List Int)(x1:List Int):V.evBody Y8.E Y8.con f69 ((x0,x1):List Int×List Int)=Y8.b x0 x1 (λaF aM=>loopN (loopF Y8.E f69.ntmps [1,1,0,1,0] [] (codeOf f69) (Y8.kt x0 x1)) V.KK (Y8.s8 x0 x1 aF aM)):=by kernel_rfl
theorem Y8.eq (x0:List Int)(x1:List Int):V.evBody Y8.E Y8.con f69 ((x0,x1):List Int×List Int)=Y8 x0 x1:=by
 rw[Y8.v]
 simp only[Y8.e8]
 rfl
theorem Y8.ok :V.Valid prog 69 Y8.con:=
 V.fo tab_nil func69 (by kernel_rfl) (λx y h=>(show V.evBody Y8.E Y8.con f69 x=_ from Y8.eq x.1 x.2).trans (V.cfl (by kernel_rfl) h))
abbrev W7.con :V.Con:=⟨(.cons (.sl (ci .nil)) (ci (.cons (.sl (ci .nil)) (ci .nil)))),(.cons .bool .nil),λ(x:List Int×Int×List Int×Int)=>W7 (x.1,x.2.1) x.2.2,[],[(true,2),(true,2)],[(false,1)],[false],[]⟩
abbrev W7.E :Env:=V.mkE V.tys [(69,Y8.con)] [] [] [] [] []
theorem W7.eq (x0:Za)(x1:Za):V.evBody W7.E W7.con f149 ((x0.1,x0.2,x1.1,x1.2):List Int×Int×List Int×Int)=W7 x0 x1:=by kernel_rfl
theorem W7.ok :V.Valid prog 149 W7.con:=
 V.fo (tab_cons Y8.ok tab_nil) func149 (by kernel_rfl) (λx y h=>(show V.evBody W7.E W7.con f149 x=_ from W7.eq (x.1,x.2.1) x.2.2).trans (V.cfl (by kernel_rfl) h))
abbrev Xz.con :V.Con:=⟨V.A3,(.cons .bool .nil),λ(x:V.D3)=>Xz (V.p3_0 x) (V.p3_1 x),[],[(true,16),(true,16)],[(false,1)],[false],[]⟩
abbrev Xz.E :Env:=V.mkE V.tys [] [] [] [] [] []
abbrev Xz.kt (x0:Z5)(x1:Z5):Kt Bool:=ktOf Xz.E Xz.con f221 (V.fl3 x0 x1)
abbrev Xz.s (x0:Z5)(x1:Z5):St:=⟨[(0, .v true (V.lsHead x0)),(1, .v true (V.lsHead x1))],[]⟩
theorem Xz.v0 (x0:Z5)(x1:Z5):V.evBody Xz.E Xz.con f221 (V.fl3 x0 x1)=evC Xz.E f221.ntmps (codeOf f221) (Xz.kt x0 x1) (Xz.s x0 x1):=by kernel_rfl
theorem Xz.v (x0:Z5)(x1:Z5):evC Xz.E f221.ntmps (codeOf f221) (Xz.kt x0 x1) (Xz.s x0 x1)=Xz x0 x1:=by kernel_rfl
theorem Xz.eq (x0:Z5)(x1:Z5):V.evBody Xz.E Xz.con f221 (V.fl3 x0 x1)=Xz x0 x1:=(Xz.v0 x0 x1).trans (Xz.v x0 x1)
theorem Xz.ok :V.Valid prog 221 Xz.con:=
 V.fo tab_nil func221 (by kernel_rfl) (λx y h=>(show V.evBody Xz.E Xz.con f221 x=_ from Xz.eq (V.p3_0 x) (V.p3_1 x)).trans (V.cfl (by kernel_rfl) h))
abbrev ZI.con :V.Con:=⟨V.A4,(ci .nil),λ(x:V.D4)=>ZI (V.p4_0 x) (V.p4_1 x),[],[(true,16),(true,17)],[(false,1)],[false],[]⟩
abbrev ZI.E :Env:=V.mkE V.tys [(149,W7.con),(178,Xi.con),(202,W8.con),(221,Xz.con)] [(11,[2,3,5,11],[]),(15,[2,3,25],[])] [] [] [] []
abbrev ZI.kt (x0:Z5)(x1:Z4):Kt Int:=ktOf ZI.E ZI.con f206 (V.fl4 x0 x1)
abbrev ZI.s15 (x0:Z5)(x1:Z4)(eM:Bool):St:=⟨[(2, .v false [.ptr 64000 0]),(3, .v false [.ptr 64064 0]),(25, .v false [.val (.bool eM)])],[(64000, .box (V.lsHead x0)),(64064, .box (V.lsSigned x1))]⟩
abbrev ZI.s11 (x0:Z5)(x1:Z4)(eG:Bool):St:=⟨[(2, .v false [.ptr 64000 0]),(3, .v false [.ptr 64064 0]),(5, .v false [.ptr 128128 0]),(11, .v false [.val (.bool eG)])],[(64000, .box (V.lsHead x0)),(64064, .box (V.lsSigned x1)),(128128, .box [.vi (x1.1), .vi (x1.2.1), .vi (x1.2.2.1), .vi (x1.2.2.2.1), .vi (x1.2.2.2.2.1), .vi (x1.2.2.2.2.2.1), .vi (x1.2.2.2.2.2.2.1), .vi (x1.2.2.2.2.2.2.2.1), .val (.sl (ci .nil) x1.2.2.2.2.2.2.2.2.1), .vi (x1.2.2.2.2.2.2.2.2.2.1), .val (.sl (ci .nil) x1.2.2.2.2.2.2.2.2.2.2.1), .vi (x1.2.2.2.2.2.2.2.2.2.2.2.1), .vi (x1.2.2.2.2.2.2.2.2.2.2.2.2.1), .val (.sl (ci .nil) x1.2.2.2.2.2.2.2.2.2.2.2.2.2.1), .vi (x1.2.2.2.2.2.2.2.2.2.2.2.2.2.2.1), .val (.bool x1.2.2.2.2.2.2.2.2.2.2.2.2.2.2.2.1)])]⟩
theorem ZI.r15 (x0:Z5)(x1:Z4)(eM:Bool):joinF ZI.E f206.ntmps [1,1,0,0,1,1,1,1] [] (codeOf f206) (ZI.kt x0 x1) (ZI.s15 x0 x1 eM)=ZI.g15 x0 x1 eM:=by kernel_rfl
theorem ZI.e15 (x0:Z5)(x1:Z4)(eM:Bool):jn (joinF ZI.E f206.ntmps [1,1,0,0,1,1,1,1] [] (codeOf f206) (ZI.kt x0 x1)) (ZI.s15 x0 x1 eM)=ZI.l15 x0 x1 eM:=by
 rw[jn_eq,ZI.r15]
 rfl
theorem ZI.r11 (x0:Z5)(x1:Z4)(eG:Bool):joinF ZI.E f206.ntmps [1,1,0,0,1,1] [] (codeOf f206) (ZI.kt x0 x1) (ZI.s11 x0 x1 eG)=ZI.g11 x0 x1 (λeM=>jn (joinF ZI.E f206.ntmps [1,1,0,0,1,1,1,1] [] (codeOf f206) (ZI.kt x0 x1)) (ZI.s15 x0 x1 eM)) eG:=by kernel_rfl
theorem ZI.e11 (x0:Z5)(x1:Z4)(eG:Bool):jn (joinF ZI.E f206.ntmps [1,1,0,0,1,1] [] (codeOf f206) (ZI.kt x0 x1)) (ZI.s11 x0 x1 eG)=ZI.l11 x0 x1 eG:=by
 rw[jn_eq,ZI.r11]
 simp only[ZI.e15]
 rfl
abbrev ZI.s (x0:Z5)(x1:Z4):St:=⟨[(0, .v true (V.lsHead x0)),(1, .v true (V.lsSigned x1))],[]⟩
theorem ZI.v0 (x0:Z5)(x1:Z4):V.evBody ZI.E ZI.con f206 (V.fl4 x0 x1)=evC ZI.E f206.ntmps (codeOf f206) (ZI.kt x0 x1) (ZI.s x0 x1):=by kernel_rfl
theorem ZI.v (x0:Z5)(x1:Z4):evC ZI.E f206.ntmps (codeOf f206) (ZI.kt x0 x1) (ZI.s x0 x1)=ZI.b x0 x1 (λeG=>jn (joinF ZI.E f206.ntmps [1,1,0,0,1,1] [] (codeOf f206) (ZI.kt x0 x1)) (ZI.s11 x0 x1 eG)):=by kernel_rfl
theorem ZI.eq (x0:Z5)(x1:Z4):V.evBody ZI.E ZI.con f206 (V.fl4 x0 x1)=ZI x0 x1:=by
 rw[ZI.v0,ZI.v]
 simp only[ZI.e11]
 rfl
theorem ZI.ok :V.Valid prog 206 ZI.con:=
 V.fo (tab_cons W7.ok (tab_cons Xi.ok (tab_cons W8.ok (tab_cons Xz.ok tab_nil)))) func206 (by kernel_rfl) (λx y h=>(show V.evBody ZI.E ZI.con f206 x=_ from ZI.eq (V.p4_0 x) (V.p4_1 x)).trans (V.cfl (by kernel_rfl) h))
abbrev ZJ.con :V.Con:=⟨V.A4,(ci .nil),λ(x:V.D4)=>ZJ (V.p4_0 x) (V.p4_1 x),[],[(true,16),(true,17)],[(false,1)],[false],[]⟩
abbrev ZJ.E :Env:=V.mkE V.tys [(149,W7.con),(178,Xi.con),(202,W8.con),(221,Xz.con)] [(7,[2,3,5,6],[]),(13,[2,3,37],[])] [] [] [] []
abbrev ZJ.kt (x0:Z5)(x1:Z4):Kt Int:=ktOf ZJ.E ZJ.con f207 (V.fl4 x0 x1)
abbrev ZJ.s13 (x0:Z5)(x1:Z4)(eJ:Bool):St:=⟨[(2, .v false [.ptr 64000 0]),(3, .v false [.ptr 64064 0]),(37, .v false [.val (.bool eJ)])],[(64000, .box (V.lsHead x0)),(64064, .box (V.lsSigned x1))]⟩
abbrev ZJ.s7 (x0:Z5)(x1:Z4)(fF:Bool):St:=⟨[(2, .v false [.ptr 64000 0]),(3, .v false [.ptr 64064 0]),(5, .v false [.ptr 128128 0]),(6, .v false [.val (.bool fF)])],[(64000, .box (V.lsHead x0)),(64064, .box (V.lsSigned x1)),(128128, .box [.vi (x1.1), .vi (x1.2.1), .vi (x1.2.2.1), .vi (x1.2.2.2.1), .vi (x1.2.2.2.2.1), .vi (x1.2.2.2.2.2.1), .vi (x1.2.2.2.2.2.2.1), .vi (x1.2.2.2.2.2.2.2.1), .val (.sl (ci .nil) x1.2.2.2.2.2.2.2.2.1), .vi (x1.2.2.2.2.2.2.2.2.2.1), .val (.sl (ci .nil) x1.2.2.2.2.2.2.2.2.2.2.1), .vi (x1.2.2.2.2.2.2.2.2.2.2.2.1), .vi (x1.2.2.2.2.2.2.2.2.2.2.2.2.1), .val (.sl (ci .nil) x1.2.2.2.2.2.2.2.2.2.2.2.2.2.1), .vi (x1.2.2.2.2.2.2.2.2.2.2.2.2.2.2.1), .val (.bool x1.2.2.2.2.2.2.2.2.2.2.2.2.2.2.2.1)])]⟩
theorem ZJ.r13 (x0:Z5)(x1:Z4)(eJ:Bool):joinF ZJ.E f207.ntmps [1,1,1,0,0,1,1] [] (codeOf f207) (ZJ.kt x0 x1) (ZJ.s13 x0 x1 eJ)=ZJ.g13 x0 x1 eJ:=by kernel_rfl
theorem ZJ.e13 (x0:Z5)(x1:Z4)(eJ:Bool):jn (joinF ZJ.E f207.ntmps [1,1,1,0,0,1,1] [] (codeOf f207) (ZJ.kt x0 x1)) (ZJ.s13 x0 x1 eJ)=ZJ.l13 x0 x1 eJ:=by
 rw[jn_eq,ZJ.r13]
 rfl
theorem ZJ.r7 (x0:Z5)(x1:Z4)(fF:Bool):joinF ZJ.E f207.ntmps [1,1] [] (codeOf f207) (ZJ.kt x0 x1) (ZJ.s7 x0 x1 fF)=ZJ.g7 x0 x1 (λeJ=>jn (joinF ZJ.E f207.ntmps [1,1,1,0,0,1,1] [] (codeOf f207) (ZJ.kt x0 x1)) (ZJ.s13 x0 x1 eJ)) fF:=by kernel_rfl
theorem ZJ.e7 (x0:Z5)(x1:Z4)(fF:Bool):jn (joinF ZJ.E f207.ntmps [1,1] [] (codeOf f207) (ZJ.kt x0 x1)) (ZJ.s7 x0 x1 fF)=ZJ.l7 x0 x1 fF:=by
 rw[jn_eq,ZJ.r7]
 simp only[ZJ.e13]
 rfl
abbrev ZJ.s (x0:Z5)(x1:Z4):St:=⟨[(0, .v true (V.lsHead x0)),(1, .v true (V.lsSigned x1))],[]⟩
theorem ZJ.v0 (x0:Z5)(x1:Z4):V.evBody ZJ.E ZJ.con f207 (V.fl4 x0 x1)=evC ZJ.E f207.ntmps (codeOf f207) (ZJ.kt x0 x1) (ZJ.s x0 x1):=by kernel_rfl
theorem ZJ.v (x0:Z5)(x1:Z4):evC ZJ.E f207.ntmps (codeOf f207) (ZJ.kt x0 x1) (ZJ.s x0 x1)=ZJ.b x0 x1 (λfF=>jn (joinF ZJ.E f207.ntmps [1,1] [] (codeOf f207) (ZJ.kt x0 x1)) (ZJ.s7 x0 x1 fF)):=by kernel_rfl
theorem ZJ.eq (x0:Z5)(x1:Z4):V.evBody ZJ.E ZJ.con f207 (V.fl4 x0 x1)=ZJ x0 x1:=by
 rw[ZJ.v0,ZJ.v]
 simp only[ZJ.e7]
 rfl
theorem ZJ.ok :V.Valid prog 207 ZJ.con:=
 V.fo (tab_cons W7.ok (tab_cons Xi.ok (tab_cons W8.ok (tab_cons Xz.ok tab_nil)))) func207 (by kernel_rfl) (λx y h=>(show V.evBody ZJ.E ZJ.con f207 x=_ from ZJ.eq (V.p4_0 x) (V.p4_1 x)).trans (V.cfl (by kernel_rfl) h))
abbrev Yo.con :V.Con:=⟨V.A4,(ci .nil),λ(x:V.D4)=>Yo (V.p4_0 x) (V.p4_1 x),[],[(true,16),(true,17)],[(false,1)],[false],[]⟩
abbrev Yo.E :Env:=V.mkE V.tys [(176,Xr.con),(204,XJ.con),(205,XL.con),(206,ZI.con),(207,ZJ.con)] [(5,[2,3,5],[])] [] [] [] []
abbrev Yo.kt (x0:Z5)(x1:Z4):Kt Int:=ktOf Yo.E Yo.con f179 (V.fl4 x0 x1)
abbrev Yo.s5 (x0:Z5)(x1:Z4)(bM:Bool):St:=⟨[(2, .v false [.ptr 64000 0]),(3, .v false [.ptr 64064 0]),(5, .v false [.val (.bool bM)])],[(64000, .box (V.lsHead x0)),(64064, .box (V.lsSigned x1))]⟩
theorem Yo.r5 (x0:Z5)(x1:Z4)(bM:Bool):joinF Yo.E f179.ntmps [1,0,0] [] (codeOf f179) (Yo.kt x0 x1) (Yo.s5 x0 x1 bM)=Yo.g5 x0 x1 bM:=by kernel_rfl
theorem Yo.e5 (x0:Z5)(x1:Z4)(bM:Bool):jn (joinF Yo.E f179.ntmps [1,0,0] [] (codeOf f179) (Yo.kt x0 x1)) (Yo.s5 x0 x1 bM)=Yo.l5 x0 x1 bM:=by
 rw[jn_eq,Yo.r5]
 rfl
abbrev Yo.s (x0:Z5)(x1:Z4):St:=⟨[(0, .v true (V.lsHead x0)),(1, .v true (V.lsSigned x1))],[]⟩
theorem Yo.v0 (x0:Z5)(x1:Z4):V.evBody Yo.E Yo.con f179 (V.fl4 x0 x1)=evC Yo.E f179.ntmps (codeOf f179) (Yo.kt x0 x1) (Yo.s x0 x1):=by kernel_rfl
theorem Yo.v (x0:Z5)(x1:Z4):evC Yo.E f179.ntmps (codeOf f179) (Yo.kt x0 x1) (Yo.s x0 x1)=Yo.b x0 x1 (λbM=>jn (joinF Yo.E f179.ntmps [1,0,0] [] (codeOf f179) (Yo.kt x0 x1)) (Yo.s5 x0 x1 bM)):=by kernel_rfl
theorem Yo.eq (x0:Z5)(x1:Z4):V.evBody Yo.E Yo.con f179 (V.fl4 x0 x1)=Yo x0 x1:=by
 rw[Yo.v0,Yo.v]
 simp only[Yo.e5]
 rfl
theorem Yo.ok :V.Valid prog 179 Yo.con:=
 V.fo (tab_cons Xr.ok (tab_cons XJ.ok (tab_cons XL.ok (tab_cons ZI.ok (tab_cons ZJ.ok tab_nil))))) func179 (by kernel_rfl) (λx y h=>(show V.evBody Yo.E Yo.con f179 x=_ from Yo.eq (V.p4_0 x) (V.p4_1 x)).trans (V.cfl (by kernel_rfl) h))
abbrev XI.con :V.Con:=⟨V.A4,(.cons .bool .nil),λ(x:V.D4)=>XI (V.p4_0 x) (V.p4_1 x),[],[(true,16),(true,17)],[(false,1)],[false],[]⟩
abbrev XI.E :Env:=V.mkE V.tys [(179,Yo.con)] [] [] [] [] []
abbrev XI.kt (x0:Z5)(x1:Z4):Kt Bool:=ktOf XI.E XI.con f141 (V.fl4 x0 x1)
abbrev XI.s (x0:Z5)(x1:Z4):St:=⟨[(0, .v true (V.lsHead x0)),(1, .v true (V.lsSigned x1))],[]⟩
theorem XI.v0 (x0:Z5)(x1:Z4):V.evBody XI.E XI.con f141 (V.fl4 x0 x1)=evC XI.E f141.ntmps (codeOf f141) (XI.kt x0 x1) (XI.s x0 x1):=by kernel_rfl
theorem XI.v (x0:Z5)(x1:Z4):evC XI.E f141.ntmps (codeOf f141) (XI.kt x0 x1) (XI.s x0 x1)=XI x0 x1:=by kernel_rfl
theorem XI.eq (x0:Z5)(x1:Z4):V.evBody XI.E XI.con f141 (V.fl4 x0 x1)=XI x0 x1:=(XI.v0 x0 x1).trans (XI.v x0 x1)
theorem XI.ok :V.Valid prog 141 XI.con:=
 V.fo (tab_cons Yo.ok tab_nil) func141 (by kernel_rfl) (λx y h=>(show V.evBody XI.E XI.con f141 x=_ from XI.eq (V.p4_0 x) (V.p4_1 x)).trans (V.cfl (by kernel_rfl) h))
abbrev Yw.con :V.Con:=⟨(.cons (.sl V.eSigned) .nil),(ci .nil),λ(x:List Z4)=>Yw x,[],[(false,1)],[(false,1)],[false],[]⟩
abbrev Yw.E :Env:=V.mkE V.tys [(140,XH.con),(141,XI.con)] [(4,[0,5,6,7],[])] [(4,18)] [] [] []
abbrev Yw.kt (x0:List Z4):Kt Int:=ktOf Yw.E Yw.con f102 ((x0):List Z4)
abbrev Yw.s4 (x0:List Z4)(aG:Int)(aN:Int):St:=⟨[(0, .v false [.val (.sl V.eSigned x0)]),(5, .v false [.val (.sl V.eSigned x0)]),(6, .v false [.vi (aG)]),(7, .v false [.vi (aN)])],[]⟩
theorem Yw.r4 (x0:List Z4)(R:St->Option Int)(aG:Int)(aN:Int):loopF Yw.E f102.ntmps [1,0,1,0] [] (codeOf f102) (Yw.kt x0) R (Yw.s4 x0 aG aN)=Yw.g4 x0 (λaG aN=>R (Yw.s4 x0 aG aN)) aG aN:=by kernel_rfl
theorem Yw.e4 (x0:List Z4):∀(n:Nat) (aG:Int) (aN:Int),loopN (loopF Yw.E f102.ntmps [1,0,1,0] [] (codeOf f102) (Yw.kt x0)) n (Yw.s4 x0 aG aN)=Yw.l4 x0 n aG aN:=by
 intro n
 induction n with
 |zero=>intros;rw[loopN_z];rfl
 |succ n ih=>
  intro aG aN
  rw[loopN_s,Yw.r4]
  simp only[ih]
  first|exact(Yw.u4 ..).symm|rfl
theorem Yw.v (x0:List Z4):V.evBody Yw.E Yw.con f102 ((x0):List Z4)=Yw.b x0 (λaG aN=>loopN (loopF Yw.E f102.ntmps [1,0,1,0] [] (codeOf f102) (Yw.kt x0)) V.KK (Yw.s4 x0 aG aN)):=by kernel_rfl
theorem Yw.eq (x0:List Z4):V.evBody Yw.E Yw.con f102 ((x0):List Z4)=Yw x0:=by
 rw[Yw.v]
 simp only[Yw.e4]
 rfl
theorem Yw.ok :V.Valid prog 102 Yw.con:=
 V.fo (tab_cons XH.ok (tab_cons XI.ok tab_nil)) func102 (by kernel_rfl) (λx y h=>(show V.evBody Yw.E Yw.con f102 x=_ from Yw.eq x).trans (V.cfl (by kernel_rfl) h))
abbrev U1.con :V.Con:=⟨(.cons (.sl V.eSigned) .nil),(.cons .bool .nil),λ(x:List Z4)=>U1 x,[],[(false,1)],[(false,1)],[false],[]⟩
abbrev U1.E :Env:=V.mkE V.tys [(58,Ya.con),(102,Yw.con)] [] [] [] [] []
theorem U1.eq (x0:List Z4):V.evBody U1.E U1.con f55 ((x0):List Z4)=U1 x0:=by kernel_rfl
theorem U1.ok :V.Valid prog 55 U1.con:=
 V.fo (tab_cons Ya.ok (tab_cons Yw.ok tab_nil)) func55 (by kernel_rfl) (λx y h=>(show V.evBody U1.E U1.con f55 x=_ from U1.eq x).trans (V.cfl (by kernel_rfl) h))
abbrev U4.con :V.Con:=⟨(.cons (.sl V.eSigned) .nil),V.eHead,λ(x:List Z4)=>U4 x,[],[(false,1)],[(true,16)],[false,false,false,false,false,false,false,false,false,false,false,false,false,false,false,false],[]⟩
abbrev U4.E :Env:=V.mkE V.tys [] [] [] [] [] []
theorem U4.eq (x0:List Z4):V.evBody U4.E U4.con f56 ((x0):List Z4)=U4 x0:=by kernel_rfl
theorem U4.ok :V.Valid prog 56 U4.con:=
 V.fo tab_nil func56 (by kernel_rfl) (λx y h=>(show V.evBody U4.E U4.con f56 x=_ from U4.eq x).trans (V.cfl (by kernel_rfl) h))
abbrev ZZ.con :V.Con:=⟨(.cons .str .nil),(.cons .bool .nil),λ(x:ByteArray)=>ZZ x,[],[(false,1)],[(false,1)],[false],[]⟩
abbrev ZZ.E :Env:=V.mkE V.tys [(58,Ya.con)] [(4,[0,6,7],[])] [] [] [] []
abbrev ZZ.kt (x0:ByteArray):Kt Bool:=ktOf ZZ.E ZZ.con f24 ((x0):ByteArray)
abbrev ZZ.s4 (x0:ByteArray)(aJ:Int)(aG:Int):St:=⟨[(0, .v false [.val (.str x0)]),(6, .v false [.vi (aJ)]),(7, .v false [.vi (aG)])],[]⟩
theorem ZZ.r4 (x0:ByteArray)(R:St->Option Bool)(aJ:Int)(aG:Int):loopF ZZ.E f24.ntmps [1,0,1,0] [] (codeOf f24) (ZZ.kt x0) R (ZZ.s4 x0 aJ aG)=ZZ.g4 x0 (λaJ aG=>R (ZZ.s4 x0 aJ aG)) aJ aG:=by kernel_rfl
theorem ZZ.e4 (x0:ByteArray):∀(n:Nat) (aJ:Int) (aG:Int),loopN (loopF ZZ.E f24.ntmps [1,0,1,0] [] (codeOf f24) (ZZ.kt x0)) n (ZZ.s4 x0 aJ aG)=ZZ.l4 x0 n aJ aG:=by
 intro n
 induction n with
 |zero=>intros;rw[loopN_z];rfl
 |succ n ih=>
  intro aJ aG
  rw[loopN_s,ZZ.r4]
  simp only[ih]
  first|exact(ZZ.u4 ..).symm|rfl
theorem ZZ.v (x0:ByteArray):V.evBody ZZ.E ZZ.con f24 ((x0):ByteArray)=ZZ.b x0 (λaJ aG=>loopN (loopF ZZ.E f24.ntmps [1,0,1,0] [] (codeOf f24) (ZZ.kt x0)) V.KK (ZZ.s4 x0 aJ aG)):=by kernel_rfl
theorem ZZ.eq (x0:ByteArray):V.evBody ZZ.E ZZ.con f24 ((x0):ByteArray)=ZZ x0:=by
 rw[ZZ.v]
 simp only[ZZ.e4]
 rfl
theorem ZZ.ok :V.Valid prog 24 ZZ.con:=
 V.fo (tab_cons Ya.ok tab_nil) func24 (by kernel_rfl) (λx y h=>(show V.evBody ZZ.E ZZ.con f24 x=_ from ZZ.eq x).trans (V.cfl (by kernel_rfl) h))
abbrev Qg.con :V.Con:=⟨(.cons .str .nil),(.cons .bool .nil),λ(x:ByteArray)=>Qg x,[],[(false,1)],[(false,1)],[false],[]⟩
abbrev Qg.E :Env:=V.mkE V.tys [(24,ZZ.con)] [] [] [] [] []
theorem Qg.eq (x0:ByteArray):V.evBody Qg.E Qg.con f183 ((x0):ByteArray)=Qg x0:=by kernel_rfl
theorem Qg.ok :V.Valid prog 183 Qg.con:=
 V.fo (tab_cons ZZ.ok tab_nil) func183 (by kernel_rfl) (λx y h=>(show V.evBody Qg.E Qg.con f183 x=_ from Qg.eq x).trans (V.cfl (by kernel_rfl) h))
abbrev X4.con :V.Con:=⟨(.cons (.sl (.cons .str .nil)) (.cons (.fn 183 false .nil .nil) .nil)),(ci .nil),λ(x:List ByteArray×(Unit)×(Unit))=>X4 x.1 x.2,[],[(false,1),(false,1)],[(false,1)],[false],[]⟩
abbrev X4.E :Env:=V.mkE V.tys [(183,Qg.con)] [(4,[0,1,7,8],[])] [] [] [] []
abbrev X4.kt (x0:List ByteArray)(x1:(Unit)×(Unit)):Kt Int:=ktOf X4.E X4.con f209 ((x0,x1):List ByteArray×(Unit)×(Unit))
abbrev X4.s4 (x0:List ByteArray)(aJ:Int)(aG:Int):St:=⟨[(0, .v false [.val (.sl (.cons .str .nil) x0)]),(1, .v false [.val (.fn 183 false .nil .nil () ())]),(7, .v false [.vi (aJ)]),(8, .v false [.vi (aG)])],[]⟩
theorem X4.r4 (x0:List ByteArray)(x1:(Unit)×(Unit))(R:St->Option Int)(aJ:Int)(aG:Int):loopF X4.E f209.ntmps [1,0,1,0] [] (codeOf f209) (X4.kt x0 x1) R (X4.s4 x0 aJ aG)=X4.g4 x0 (λaJ aG=>R (X4.s4 x0 aJ aG)) aJ aG:=by kernel_rfl
theorem X4.e4 (x0:List ByteArray)(x1:(Unit)×(Unit)):∀(n:Nat) (aJ:Int) (aG:Int),loopN (loopF X4.E f209.ntmps [1,0,1,0] [] (codeOf f209) (X4.kt x0 x1)) n (X4.s4 x0 aJ aG)=X4.l4 x0 n aJ aG:=by
 intro n
 induction n with
 |zero=>intros;rw[loopN_z];rfl
 |succ n ih=>
  intro aJ aG
  rw[loopN_s,X4.r4]
  simp only[ih]
  first|exact(X4.u4 ..).symm|rfl
theorem X4.v (x0:List ByteArray)(x1:(Unit)×(Unit)):V.evBody X4.E X4.con f209 ((x0,x1):List ByteArray×(Unit)×(Unit))=X4.b x0 x1 (λaJ aG=>loopN (loopF X4.E f209.ntmps [1,0,1,0] [] (codeOf f209) (X4.kt x0 x1)) V.KK (X4.s4 x0 aJ aG)):=by kernel_rfl
theorem X4.eq (x0:List ByteArray)(x1:(Unit)×(Unit)):V.evBody X4.E X4.con f209 ((x0,x1):List ByteArray×(Unit)×(Unit))=X4 x0 x1:=by
 rw[X4.v]
 simp only[X4.e4]
 rfl
theorem X4.ok :V.Valid prog 209 X4.con:=
 V.fo (tab_cons Qg.ok tab_nil) func209 (by kernel_rfl) (λx y h=>(show V.evBody X4.E X4.con f209 x=_ from X4.eq x.1 x.2).trans (V.cfl (by kernel_rfl) h))
abbrev UZ.con :V.Con:=⟨(.cons (.sl (.cons .str .nil)) (.cons (.fn 183 false .nil .nil) .nil)),(.cons .bool .nil),λ(x:List ByteArray×(Unit)×(Unit))=>UZ x.1 x.2,[],[(false,1),(false,1)],[(false,1)],[false],[]⟩
abbrev UZ.E :Env:=V.mkE V.tys [(209,X4.con)] [] [] [] [] []
theorem UZ.eq (x0:List ByteArray)(x1:(Unit)×(Unit)):V.evBody UZ.E UZ.con f182 ((x0,x1):List ByteArray×(Unit)×(Unit))=UZ x0 x1:=by kernel_rfl
theorem UZ.ok :V.Valid prog 182 UZ.con:=
 V.fo (tab_cons X4.ok tab_nil) func182 (by kernel_rfl) (λx y h=>(show V.evBody UZ.E UZ.con f182 x=_ from UZ.eq x.1 x.2).trans (V.cfl (by kernel_rfl) h))
abbrev UK.con :V.Con:=⟨(.cons (.sl (.cons .str .nil)) .nil),(.cons .bool .nil),λ(x:List ByteArray)=>UK x,[],[(false,1)],[(false,1)],[false],[]⟩
abbrev UK.E :Env:=V.mkE V.tys [(58,Ya.con),(182,UZ.con)] [] [] [] [] []
theorem UK.eq (x0:List ByteArray):V.evBody UK.E UK.con f147 ((x0):List ByteArray)=UK x0:=by kernel_rfl
theorem UK.ok :V.Valid prog 147 UK.con:=
 V.fo (tab_cons Ya.ok (tab_cons UZ.ok tab_nil)) func147 (by kernel_rfl) (λx y h=>(show V.evBody UK.E UK.con f147 x=_ from UK.eq x).trans (V.cfl (by kernel_rfl) h))
abbrev U2.con :V.Con:=⟨V.eEntry,(.cons .bool .nil),λ(x:ByteArray×Int×Int×List ByteArray)=>U2 x,[],[(true,4)],[(false,1)],[false],[]⟩
abbrev U2.E :Env:=V.mkE V.tys [(24,ZZ.con),(58,Ya.con),(146,Wz.con),(147,UK.con)] [] [] [] [] []
theorem U2.eq (x0:Z0):V.evBody U2.E U2.con f107 ((x0.1,x0.2.1,x0.2.2.1,x0.2.2.2):ByteArray×Int×Int×List ByteArray)=U2 x0:=by kernel_rfl
theorem U2.ok :V.Valid prog 107 U2.con:=
 V.fo (tab_cons ZZ.ok (tab_cons Ya.ok (tab_cons Wz.ok (tab_cons UK.ok tab_nil)))) func107 (by kernel_rfl) (λx y h=>(show V.evBody U2.E U2.con f107 x=_ from U2.eq x).trans (V.cfl (by kernel_rfl) h))
abbrev Z0K.con :V.Con:=⟨.cons .str (.cons .str .nil), .cons (.int .i64) .nil,λ(x:ByteArray×ByteArray)=>Z0K x.1 x.2,[],[(false,1),(false,1)],[(false,1)],[false],[]⟩
theorem Z0K.ok :V.Valid prog 184 Z0K.con:=
 cmp_valid (ρ:=⟨λn=>bif Nat.beq n 213 then 184 else 210,λt=>bif Nat.beq t 3 then 3 else 9,λx=>x⟩) {mixed:=V.mixed,f213:=by kernel_rfl,f265:=by kernel_rfl,t3:=by kernel_rfl,a3:=λw=>rfl,z3:=λw=>rfl,v3:=λw=>rfl,t9:=by kernel_rfl,a9:=λw=>rfl,z9:=λw=>rfl,v9:=λw=>rfl}
abbrev Qp.con :V.Con:=⟨(.cons .str (.cons .str .nil)),(ci .nil),λ(x:ByteArray×ByteArray)=>Qp x.1 x.2,[],[(false,1),(false,1)],[(false,1)],[false],[]⟩
abbrev Qp.E :Env:=V.mkE V.tys [(184,Z0K.con)] [] [] [] [] []
theorem Qp.eq (x0:ByteArray)(x1:ByteArray):V.evBody Qp.E Qp.con f148 ((x0,x1):ByteArray×ByteArray)=Qp x0 x1:=by kernel_rfl
theorem Qp.ok :V.Valid prog 148 Qp.con:=
 V.fo (tab_cons Z0K.ok tab_nil) func148 (by kernel_rfl) (λx y h=>(show V.evBody Qp.E Qp.con f148 x=_ from Qp.eq x.1 x.2).trans (V.cfl (by kernel_rfl) h))
abbrev Wq.con :V.Con:=⟨(.cons .str (.cons .str .nil)),(ci .nil),λ(x:ByteArray×ByteArray)=>Wq x.1 x.2,[],[(false,1),(false,1)],[(false,1)],[false],[]⟩
abbrev Wq.E :Env:=V.mkE V.tys [(148,Qp.con)] [] [] [] [] []
theorem Wq.eq (x0:ByteArray)(x1:ByteArray):V.evBody Wq.E Wq.con f108 ((x0,x1):ByteArray×ByteArray)=Wq x0 x1:=by kernel_rfl
theorem Wq.ok :V.Valid prog 108 Wq.con:=
 V.fo (tab_cons Qp.ok tab_nil) func108 (by kernel_rfl) (λx y h=>(show V.evBody Wq.E Wq.con f108 x=_ from Wq.eq x.1 x.2).trans (V.cfl (by kernel_rfl) h))
abbrev Yl.con :V.Con:=⟨(.cons (.sl V.eEntry) .nil),(.cons .bool .nil),λ(x:List Z0)=>Yl x,[],[(false,1)],[(false,1)],[false],[]⟩
abbrev Yl.E :Env:=V.mkE V.tys [(107,U2.con),(108,Wq.con)] [(4,[0,5,6,7],[])] [(4,15)] [] [] []
abbrev Yl.kt (x0:List Z0):Kt Bool:=ktOf Yl.E Yl.con f65 ((x0):List Z0)
abbrev Yl.s4 (x0:List Z0)(aG:Int)(aN:Int):St:=⟨[(0, .v false [.val (.sl V.eEntry x0)]),(5, .v false [.val (.sl V.eEntry x0)]),(6, .v false [.vi (aG)]),(7, .v false [.vi (aN)])],[]⟩
theorem Yl.r4 (x0:List Z0)(R:St->Option Bool)(aG:Int)(aN:Int):loopF Yl.E f65.ntmps [1,0,1,0] [] (codeOf f65) (Yl.kt x0) R (Yl.s4 x0 aG aN)=Yl.g4 x0 (λaG aN=>R (Yl.s4 x0 aG aN)) aG aN:=by kernel_rfl
theorem Yl.e4 (x0:List Z0):∀(n:Nat) (aG:Int) (aN:Int),loopN (loopF Yl.E f65.ntmps [1,0,1,0] [] (codeOf f65) (Yl.kt x0)) n (Yl.s4 x0 aG aN)=Yl.l4 x0 n aG aN:=by
 intro n
 induction n with
 |zero=>intros;rw[loopN_z];rfl
 |succ n ih=>
  intro aG aN
  rw[loopN_s,Yl.r4]
  simp only[ih]
  first|exact(Yl.u4 ..).symm|rfl
theorem Yl.v (x0:List Z0):V.evBody Yl.E Yl.con f65 ((x0):List Z0)=Yl.b x0 (λaG aN=>loopN (loopF Yl.E f65.ntmps [1,0,1,0] [] (codeOf f65) (Yl.kt x0)) V.KK (Yl.s4 x0 aG aN)):=by kernel_rfl
theorem Yl.eq (x0:List Z0):V.evBody Yl.E Yl.con f65 ((x0):List Z0)=Yl x0:=by
 rw[Yl.v]
 simp only[Yl.e4]
 rfl
theorem Yl.ok :V.Valid prog 65 Yl.con:=
 V.fo (tab_cons U2.ok (tab_cons Wq.ok tab_nil)) func65 (by kernel_rfl) (λx y h=>(show V.evBody Yl.E Yl.con f65 x=_ from Yl.eq x).trans (V.cfl (by kernel_rfl) h))
abbrev YR.con :V.Con:=⟨(.cons (.sl (.cons (.int .u8) .nil)) .nil),(.cons (.sl (ci .nil)) .nil),λ(x:List Int)=>YR x,[],[(false,1)],[(false,1)],[true],[]⟩
abbrev YR.E :Env:=V.mkE V.tys [] [(6,[3,9,10,11],[])] [] [] [] []
abbrev YR.kt (x0:List Int):Kt (List Int):=ktOf YR.E YR.con f208 ((x0):List Int)
abbrev YR.s6 (x0:List Int)(aD:Int)(aA:Int)(aE:List Int):St:=⟨[(3, .v false [.ref 64000038400192]),(9, .v false [.val (.sl (.cons (.int .u8) .nil) x0)]),(10, .v false [.vi (aD)]),(11, .v false [.vi (aA)])],[(64000038400192, .row (ci .nil) true aE)]⟩
theorem YR.r6 (x0:List Int)(R:St->Option (List Int))(aD:Int)(aA:Int)(aE:List Int):loopF YR.E f208.ntmps [1,1,0,1,0] [] (codeOf f208) (YR.kt x0) R (YR.s6 x0 aD aA aE)=YR.g6 x0 (λaD aA aE=>R (YR.s6 x0 aD aA aE)) aD aA aE:=by kernel_rfl
theorem YR.e6 (x0:List Int):∀(n:Nat) (aD:Int) (aA:Int) (aE:List Int),loopN (loopF YR.E f208.ntmps [1,1,0,1,0] [] (codeOf f208) (YR.kt x0)) n (YR.s6 x0 aD aA aE)=YR.l6 x0 n aD aA aE:=by
 intro n
 induction n with
 |zero=>intros;rw[loopN_z];rfl
 |succ n ih=>
  intro aD aA aE
  rw[loopN_s,YR.r6]
  simp only[ih]
  first|exact(YR.u6 ..).symm|rfl
theorem YR.v (x0:List Int):V.evBody YR.E YR.con f208 ((x0):List Int)=YR.b x0 (λaD aA aE=>loopN (loopF YR.E f208.ntmps [1,1,0,1,0] [] (codeOf f208) (YR.kt x0)) V.KK (YR.s6 x0 aD aA aE)):=by kernel_rfl
theorem YR.eq (x0:List Int):V.evBody YR.E YR.con f208 ((x0):List Int)=YR x0:=by
 rw[YR.v]
 simp only[YR.e6]
 rfl
theorem YR.ok :V.Valid prog 208 YR.con:=
 V.fo tab_nil func208 (by kernel_rfl) (λx y h=>(show V.evBody YR.E YR.con f208 x=_ from YR.eq x).trans (V.cfl (by kernel_rfl) h))
abbrev Uh.con :V.Con:=⟨(.cons .str .nil),(.cons (.sl (ci .nil)) .nil),λ(x:ByteArray)=>Uh x,[],[(false,1)],[(false,1)],[true],[]⟩
abbrev Uh.E :Env:=V.mkE V.tys [(208,YR.con)] [] [] [] [] []
theorem Uh.eq (x0:ByteArray):V.evBody Uh.E Uh.con f181 ((x0):ByteArray)=Uh x0:=by kernel_rfl
theorem Uh.ok :V.Valid prog 181 Uh.con:=
 V.fo (tab_cons YR.ok tab_nil) func181 (by kernel_rfl) (λx y h=>(show V.evBody Uh.E Uh.con f181 x=_ from Uh.eq x).trans (V.cfl (by kernel_rfl) h))
abbrev YS.con :V.Con:=⟨V.eEntry,(.cons (.sl (ci .nil)) .nil),λ(x:ByteArray×Int×Int×List ByteArray)=>YS x,[],[(true,4)],[(false,1)],[true],[]⟩
abbrev YS.E :Env:=V.mkE V.tys [(181,Uh.con)] [(6,[3,19,20,21],[])] [(1,11)] [] [] []
abbrev YS.kt (x0:Z0):Kt (List Int):=ktOf YS.E YS.con f145 ((x0.1,x0.2.1,x0.2.2.1,x0.2.2.2):ByteArray×Int×Int×List ByteArray)
abbrev YS.s6 (x0:Z0)(aD:Int)(aA:Int)(aE:List Int):St:=⟨[(3, .v false [.ref 64000038400192]),(19, .v false [.val (.sl (.cons .str .nil) x0.2.2.2)]),(20, .v false [.vi (aD)]),(21, .v false [.vi (aA)])],[(64000038400192, .row (ci .nil) true aE)]⟩
theorem YS.r6 (x0:Z0)(R:St->Option (List Int))(aD:Int)(aA:Int)(aE:List Int):loopF YS.E f145.ntmps [1,1,0,1,0] [] (codeOf f145) (YS.kt x0) R (YS.s6 x0 aD aA aE)=YS.g6 x0 (λaD aA aE=>R (YS.s6 x0 aD aA aE)) aD aA aE:=by kernel_rfl
theorem YS.e6 (x0:Z0):∀(n:Nat) (aD:Int) (aA:Int) (aE:List Int),loopN (loopF YS.E f145.ntmps [1,1,0,1,0] [] (codeOf f145) (YS.kt x0)) n (YS.s6 x0 aD aA aE)=YS.l6 x0 n aD aA aE:=by
 intro n
 induction n with
 |zero=>intros;rw[loopN_z];rfl
 |succ n ih=>
  intro aD aA aE
  rw[loopN_s,YS.r6]
  simp only[ih]
  first|exact(YS.u6 ..).symm|rfl
theorem YS.v (x0:Z0):V.evBody YS.E YS.con f145 ((x0.1,x0.2.1,x0.2.2.1,x0.2.2.2):ByteArray×Int×Int×List ByteArray)=YS.b x0 (λaD aA aE=>loopN (loopF YS.E f145.ntmps [1,1,0,1,0] [] (codeOf f145) (YS.kt x0)) V.KK (YS.s6 x0 aD aA aE)):=by kernel_rfl
theorem YS.eq (x0:Z0):V.evBody YS.E YS.con f145 ((x0.1,x0.2.1,x0.2.2.1,x0.2.2.2):ByteArray×Int×Int×List ByteArray)=YS x0:=by
 rw[YS.v]
 simp only[YS.e6]
 rfl
theorem YS.ok :V.Valid prog 145 YS.con:=
 V.fo (tab_cons Uh.ok tab_nil) func145 (by kernel_rfl) (λx y h=>(show V.evBody YS.E YS.con f145 x=_ from YS.eq x).trans (V.cfl (by kernel_rfl) h))
abbrev WL.con :V.Con:=⟨V.eEntry,(ci .nil),λ(x:ByteArray×Int×Int×List ByteArray)=>WL x,[],[(true,4)],[(false,1)],[false],[]⟩
abbrev WL.E :Env:=V.mkE V.tys [(144,Y5.con),(145,YS.con)] [] [] [] [] []
theorem WL.eq (x0:Z0):V.evBody WL.E WL.con f106 ((x0.1,x0.2.1,x0.2.2.1,x0.2.2.2):ByteArray×Int×Int×List ByteArray)=WL x0:=by kernel_rfl
theorem WL.ok :V.Valid prog 106 WL.con:=
 V.fo (tab_cons Y5.ok (tab_cons YS.ok tab_nil)) func106 (by kernel_rfl) (λx y h=>(show V.evBody WL.E WL.con f106 x=_ from WL.eq x).trans (V.cfl (by kernel_rfl) h))
abbrev YE.con :V.Con:=⟨(.cons (.sl V.eEntry) .nil),(.cons (.sl (ci .nil)) .nil),λ(x:List Z0)=>YE x,[],[(false,1)],[(false,1)],[true],[]⟩
abbrev YE.E :Env:=V.mkE V.tys [(106,WL.con)] [(6,[3,7,8,9],[(64000038400192,(ci .nil),true)])] [] [] [] []
abbrev YE.kt (x0:List Z0):Kt (List Int):=ktOf YE.E YE.con f64 ((x0):List Z0)
abbrev YE.s6 (x0:List Z0)(aD:Int)(aA:Int)(aE:List Int):St:=⟨[(3, .v false [.ref 64000038400192]),(7, .v false [.val (.sl V.eEntry x0)]),(8, .v false [.vi (aD)]),(9, .v false [.vi (aA)])],[(64000038400192, .row (ci .nil) true aE)]⟩
theorem YE.r6 (x0:List Z0)(R:St->Option (List Int))(aD:Int)(aA:Int)(aE:List Int):loopF YE.E f64.ntmps [1,1,0,1,0] [] (codeOf f64) (YE.kt x0) R (YE.s6 x0 aD aA aE)=YE.g6 x0 (λaD aA aE=>R (YE.s6 x0 aD aA aE)) aD aA aE:=by kernel_rfl
theorem YE.e6 (x0:List Z0):∀(n:Nat) (aD:Int) (aA:Int) (aE:List Int),loopN (loopF YE.E f64.ntmps [1,1,0,1,0] [] (codeOf f64) (YE.kt x0)) n (YE.s6 x0 aD aA aE)=YE.l6 x0 n aD aA aE:=by
 intro n
 induction n with
 |zero=>intros;rw[loopN_z];rfl
 |succ n ih=>
  intro aD aA aE
  rw[loopN_s,YE.r6]
  simp only[ih]
  first|exact(YE.u6 ..).symm|rfl
theorem YE.v (x0:List Z0):V.evBody YE.E YE.con f64 ((x0):List Z0)=YE.b x0 (λaD aA aE=>loopN (loopF YE.E f64.ntmps [1,1,0,1,0] [] (codeOf f64) (YE.kt x0)) V.KK (YE.s6 x0 aD aA aE)):=by kernel_rfl
theorem YE.eq (x0:List Z0):V.evBody YE.E YE.con f64 ((x0):List Z0)=YE x0:=by
 rw[YE.v]
 simp only[YE.e6]
 rfl
theorem YE.ok :V.Valid prog 64 YE.con:=
 V.fo (tab_cons WL.ok tab_nil) func64 (by kernel_rfl) (λx y h=>(show V.evBody YE.E YE.con f64 x=_ from YE.eq x).trans (V.cfl (by kernel_rfl) h))
abbrev WH.con :V.Con:=⟨(.cons (.sl (ci .nil)) .nil),(ci .nil),λ(x:List Int)=>WH x,[],[(false,1)],[(false,1)],[false],[]⟩
abbrev WH.E :Env:=V.mkE V.tys [(144,Y5.con)] [] [] [] [] []
theorem WH.eq (x0:List Int):V.evBody WH.E WH.con f160 ((x0):List Int)=WH x0:=by kernel_rfl
theorem WH.ok :V.Valid prog 160 WH.con:=
 V.fo (tab_cons Y5.ok tab_nil) func160 (by kernel_rfl) (λx y h=>(show V.evBody WH.E WH.con f160 x=_ from WH.eq x).trans (V.cfl (by kernel_rfl) h))
abbrev WM.con :V.Con:=⟨(ci (ci .nil)),(ci .nil),λ(x:Int×Int)=>WM x.1 x.2,[],[(false,1),(false,1)],[(false,1)],[false],[]⟩
abbrev WM.E :Env:=V.mkE V.tys [(160,WH.con)] [] [] [] [] []
theorem WM.eq (x0:Int)(x1:Int):V.evBody WM.E WM.con f143 ((x0,x1):Int×Int)=WM x0 x1:=by kernel_rfl
theorem WM.ok :V.Valid prog 143 WM.con:=
 V.fo (tab_cons WH.ok tab_nil) func143 (by kernel_rfl) (λx y h=>(show V.evBody WM.E WM.con f143 x=_ from WM.eq x.1 x.2).trans (V.cfl (by kernel_rfl) h))
abbrev Yp.con :V.Con:=⟨(.cons (.sl (ci .nil)) .nil),(.cons (.sl (ci .nil)) .nil),λ(x:List Int)=>Yp x,[],[(false,1)],[(false,1)],[true],[]⟩
abbrev Yp.E :Env:=V.mkE V.tys [(143,WM.con)] [(6,[0,3,4],[(64000038400192,(ci .nil),true)])] [(6,12)] [] [] []
abbrev Yp.kt (x0:List Int):Kt (List Int):=ktOf Yp.E Yp.con f105 ((x0):List Int)
abbrev Yp.s6 (x0:List Int)(aD:Int)(aA:List Int):St:=⟨[(0, .v false [.val (.sl (ci .nil) x0)]),(3, .v false [.ref 64000038400192]),(4, .v false [.vi (aD)])],[(64000038400192, .row (ci .nil) true aA)]⟩
theorem Yp.r6 (x0:List Int)(R:St->Option (List Int))(aD:Int)(aA:List Int):loopF Yp.E f105.ntmps [1,1,0,1,0] [] (codeOf f105) (Yp.kt x0) R (Yp.s6 x0 aD aA)=Yp.g6 x0 (λaD aA=>R (Yp.s6 x0 aD aA)) aD aA:=by kernel_rfl
theorem Yp.e6 (x0:List Int):∀(n:Nat) (aD:Int) (aA:List Int),loopN (loopF Yp.E f105.ntmps [1,1,0,1,0] [] (codeOf f105) (Yp.kt x0)) n (Yp.s6 x0 aD aA)=Yp.l6 x0 n aD aA:=by
 intro n
 induction n with
 |zero=>intros;rw[loopN_z];rfl
 |succ n ih=>
  intro aD aA
  rw[loopN_s,Yp.r6]
  simp only[ih]
  first|exact(Yp.u6 ..).symm|rfl
theorem Yp.v (x0:List Int):V.evBody Yp.E Yp.con f105 ((x0):List Int)=Yp.b x0 (λaD aA=>loopN (loopF Yp.E f105.ntmps [1,1,0,1,0] [] (codeOf f105) (Yp.kt x0)) V.KK (Yp.s6 x0 aD aA)):=by kernel_rfl
theorem Yp.eq (x0:List Int):V.evBody Yp.E Yp.con f105 ((x0):List Int)=Yp x0:=by
 rw[Yp.v]
 simp only[Yp.e6]
 rfl
theorem Yp.ok :V.Valid prog 105 Yp.con:=
 V.fo (tab_cons WM.ok tab_nil) func105 (by kernel_rfl) (λx y h=>(show V.evBody Yp.E Yp.con f105 x=_ from Yp.eq x).trans (V.cfl (by kernel_rfl) h))
abbrev YL.con :V.Con:=⟨(.cons (.sl (ci .nil)) .nil),(ci .nil),λ(x:List Int)=>YL x,[],[(false,1)],[(false,1)],[false],[]⟩
abbrev YL.E :Env:=V.mkE V.tys [(105,Yp.con),(160,WH.con)] [(6,[0],[(0,(ci .nil),false)])] [] [] [] []
abbrev YL.kt (x0:List Int):Kt Int:=ktOf YL.E YL.con f142 ((x0):List Int)
abbrev YL.s6 (aI:List Int):St:=⟨[(0, .v false [.val (.sl (ci .nil) aI)])],[]⟩
theorem YL.r6 (x0:List Int)(R:St->Option Int)(aI:List Int):loopF YL.E f142.ntmps [1,1,0,0] [] (codeOf f142) (YL.kt x0) R (YL.s6 aI)=YL.g6 (λaI=>R (YL.s6 aI)) aI:=by kernel_rfl
theorem YL.e6 (x0:List Int):∀(n:Nat) (aI:List Int),loopN (loopF YL.E f142.ntmps [1,1,0,0] [] (codeOf f142) (YL.kt x0)) n (YL.s6 aI)=YL.l6 n aI:=by
 intro n
 induction n with
 |zero=>intros;rw[loopN_z];rfl
 |succ n ih=>
  intro aI
  rw[loopN_s,YL.r6]
  simp only[ih]
  first|exact(YL.u6 ..).symm|rfl
theorem YL.v (x0:List Int):V.evBody YL.E YL.con f142 ((x0):List Int)=YL.b x0 (λaI=>loopN (loopF YL.E f142.ntmps [1,1,0,0] [] (codeOf f142) (YL.kt x0)) V.KK (YL.s6 aI)):=by kernel_rfl
theorem YL.eq (x0:List Int):V.evBody YL.E YL.con f142 ((x0):List Int)=YL x0:=by
 rw[YL.v]
 simp only[YL.e6]
 rfl
theorem YL.ok :V.Valid prog 142 YL.con:=
 V.fo (tab_cons Yp.ok (tab_cons WH.ok tab_nil)) func142 (by kernel_rfl) (λx y h=>(show V.evBody YL.E YL.con f142 x=_ from YL.eq x).trans (V.cfl (by kernel_rfl) h))
abbrev Um.con :V.Con:=⟨(ci (ci .nil)),(ci .nil),λ(x:Int×Int)=>Um x.1 x.2,[],[(false,1),(false,1)],[(false,1)],[false],[]⟩
abbrev Um.E :Env:=V.mkE V.tys [(160,WH.con)] [] [] [] [] []
theorem Um.eq (x0:Int)(x1:Int):V.evBody Um.E Um.con f121 ((x0,x1):Int×Int)=Um x0 x1:=by kernel_rfl
theorem Um.ok :V.Valid prog 121 Um.con:=
 V.fo (tab_cons WH.ok tab_nil) func121 (by kernel_rfl) (λx y h=>(show V.evBody Um.E Um.con f121 x=_ from Um.eq x.1 x.2).trans (V.cfl (by kernel_rfl) h))
abbrev U3.con :V.Con:=⟨(.cons (.sl V.eEntry) .nil),(ci .nil),λ(x:List Z0)=>U3 x,[],[(false,1)],[(false,1)],[false],[]⟩
abbrev U3.E :Env:=V.mkE V.tys [(64,YE.con),(121,Um.con),(142,YL.con)] [] [] [] [] []
theorem U3.eq (x0:List Z0):V.evBody U3.E U3.con f103 ((x0):List Z0)=U3 x0:=by kernel_rfl
theorem U3.ok :V.Valid prog 103 U3.con:=
 V.fo (tab_cons YE.ok (tab_cons Um.ok (tab_cons YL.ok tab_nil))) func103 (by kernel_rfl) (λx y h=>(show V.evBody U3.E U3.con f103 x=_ from U3.eq x).trans (V.cfl (by kernel_rfl) h))
abbrev UJ.con :V.Con:=⟨(ci (.cons (.sl V.eEntry) .nil)),(.cons .bool .nil),λ(x:Int×List Z0)=>UJ x.1 x.2,[],[(false,1),(false,1)],[(false,1)],[false],[]⟩
abbrev UJ.E :Env:=V.mkE V.tys [(65,Yl.con),(103,U3.con)] [] [] [] [] []
theorem UJ.eq (x0:Int)(x1:List Z0):V.evBody UJ.E UJ.con f57 ((x0,x1):Int×List Z0)=UJ x0 x1:=by kernel_rfl
theorem UJ.ok :V.Valid prog 57 UJ.con:=
 V.fo (tab_cons Yl.ok (tab_cons U3.ok tab_nil)) func57 (by kernel_rfl) (λx y h=>(show V.evBody UJ.E UJ.con f57 x=_ from UJ.eq x.1 x.2).trans (V.cfl (by kernel_rfl) h))
abbrev UN.con :V.Con:=⟨(.cons (.sl V.eSigned) (.cons (.sl V.eEntry) .nil)),(.cons .bool .nil),λ(x:List Z4×List Z0)=>UN x,[],[(true,2)],[(false,1)],[false],[]⟩
abbrev UN.E :Env:=V.mkE V.tys [(55,U1.con),(56,U4.con),(57,UJ.con)] [] [] [] [] []
theorem UN.eq (x0:Zm):V.evBody UN.E UN.con f23 ((x0.1,x0.2):List Z4×List Z0)=UN x0:=by kernel_rfl
theorem UN.ok :V.Valid prog 23 UN.con:=
 V.fo (tab_cons U1.ok (tab_cons U4.ok (tab_cons UJ.ok tab_nil))) func23 (by kernel_rfl) (λx y h=>(show V.evBody UN.E UN.con f23 x=_ from UN.eq x).trans (V.cfl (by kernel_rfl) h))
abbrev UW.con :V.Con:=⟨(.cons (.sl (ci .nil)) .nil),(.cons (.sl (ci .nil)) .nil),λ(x:List Int)=>UW x,[],[(false,1)],[(false,1)],[true],[]⟩
abbrev UW.E :Env:=V.mkE V.tys [] [] [] [] [] []
theorem UW.eq (x0:List Int):V.evBody UW.E UW.con f159 ((x0):List Int)=UW x0:=by kernel_rfl
theorem UW.ok :V.Valid prog 159 UW.con:=
 V.fo tab_nil func159 (by kernel_rfl) (λx y h=>(show V.evBody UW.E UW.con f159 x=_ from UW.eq x).trans (V.cfl (by kernel_rfl) h))
abbrev Uj.con :V.Con:=⟨(.cons (.sl (ci .nil)) (ci .nil)),(.cons (.sl (ci .nil)) (ci .nil)),λ(x:List Int×Int)=>Uj x,[],[(true,2)],[(true,2)],[true,false],[]⟩
abbrev Uj.E :Env:=V.mkE V.tys [(159,UW.con)] [] [(1,5)] [] [] []
theorem Uj.eq (x0:Za):V.evBody Uj.E Uj.con f119 ((x0.1,x0.2):List Int×Int)=Uj x0:=by kernel_rfl
theorem Uj.ok :V.Valid prog 119 Uj.con:=
 V.fo (tab_cons UW.ok tab_nil) func119 (by kernel_rfl) (λx y h=>(show V.evBody Uj.E Uj.con f119 x=_ from Uj.eq x).trans (V.cfl (by kernel_rfl) h))
abbrev Xx.con :V.Con:=⟨V.A0,V.eHead,λ(x:V.D0)=>Xx (V.p0_0 x),[],[(true,16)],[(true,16)],[false,false,false,false,false,false,false,false,true,false,true,false,false,true,false,false],[]⟩
abbrev Xx.E :Env:=V.mkE V.tys [(119,Uj.con)] [] [(1,10)] [] [] []
abbrev Xx.kt (x0:Z5):Kt Z5:=ktOf Xx.E Xx.con f79 (V.fl0 x0)
abbrev Xx.s (x0:Z5):St:=⟨[(0, .v true (V.lsHead x0))],[]⟩
theorem Xx.v0 (x0:Z5):V.evBody Xx.E Xx.con f79 (V.fl0 x0)=evC Xx.E f79.ntmps (codeOf f79) (Xx.kt x0) (Xx.s x0):=by kernel_rfl
theorem Xx.v (x0:Z5):evC Xx.E f79.ntmps (codeOf f79) (Xx.kt x0) (Xx.s x0)=Xx x0:=by kernel_rfl
theorem Xx.eq (x0:Z5):V.evBody Xx.E Xx.con f79 (V.fl0 x0)=Xx x0:=(Xx.v0 x0).trans (Xx.v x0)
theorem Xx.ok :V.Valid prog 79 Xx.con:=
 V.fo (tab_cons Uj.ok tab_nil) func79 (by kernel_rfl) (λx y h=>(show V.evBody Xx.E Xx.con f79 x=_ from Xx.eq (V.p0_0 x)).trans (V.cfl (by kernel_rfl) h))
abbrev UV.con :V.Con:=⟨(.cons (.sl (ci (ci .nil))) .nil),(.cons (.sl (ci (ci .nil))) .nil),λ(x:List Z7)=>UV x,[],[(false,1)],[(false,1)],[true],[]⟩
abbrev UV.E :Env:=V.mkE V.tys [] [] [] [] [] []
theorem UV.eq (x0:List Z7):V.evBody UV.E UV.con f104 ((x0):List Z7)=UV x0:=by kernel_rfl
theorem UV.ok :V.Valid prog 104 UV.con:=
 V.fo tab_nil func104 (by kernel_rfl) (λx y h=>(show V.evBody UV.E UV.con f104 x=_ from UV.eq x).trans (V.cfl (by kernel_rfl) h))
abbrev XC.con :V.Con:=⟨V.A2,V.eSigned,λ(x:V.D2)=>XC (V.p2_0 x),[],[(true,17)],[(true,17)],[false,false,false,false,false,false,false,false,true,false,true,false,false,true,false,false,true],[]⟩
abbrev XC.E :Env:=V.mkE V.tys [(79,Xx.con),(104,UV.con)] [] [(1,5)] [] [] []
abbrev XC.kt (x0:Z4):Kt Z4:=ktOf XC.E XC.con f59 (V.fl2 x0)
abbrev XC.s (x0:Z4):St:=⟨[(0, .v true (V.lsSigned x0))],[]⟩
theorem XC.v0 (x0:Z4):V.evBody XC.E XC.con f59 (V.fl2 x0)=evC XC.E f59.ntmps (codeOf f59) (XC.kt x0) (XC.s x0):=by kernel_rfl
theorem XC.v (x0:Z4):evC XC.E f59.ntmps (codeOf f59) (XC.kt x0) (XC.s x0)=XC x0:=by kernel_rfl
theorem XC.eq (x0:Z4):V.evBody XC.E XC.con f59 (V.fl2 x0)=XC x0:=(XC.v0 x0).trans (XC.v x0)
theorem XC.ok :V.Valid prog 59 XC.con:=
 V.fo (tab_cons Xx.ok (tab_cons UV.ok tab_nil)) func59 (by kernel_rfl) (λx y h=>(show V.evBody XC.E XC.con f59 x=_ from XC.eq (V.p2_0 x)).trans (V.cfl (by kernel_rfl) h))
abbrev YU.con :V.Con:=⟨(.cons (.sl V.eSigned) .nil),(.cons (.sl V.eSigned) .nil),λ(x:List Z4)=>YU x,[],[(false,1)],[(false,1)],[true],[]⟩
abbrev YU.E :Env:=V.mkE V.tys [(59,XC.con)] [(6,[3,7,8,9],[(64000038400192,V.eSigned,true)])] [] [] [] []
abbrev YU.kt (x0:List Z4):Kt (List Z4):=ktOf YU.E YU.con f25 ((x0):List Z4)
abbrev YU.s6 (x0:List Z4)(aD:Int)(aA:Int)(aE:List Z4):St:=⟨[(3, .v false [.ref 64000038400192]),(7, .v false [.val (.sl V.eSigned x0)]),(8, .v false [.vi (aD)]),(9, .v false [.vi (aA)])],[(64000038400192, .row V.eSigned true aE)]⟩
theorem YU.r6 (x0:List Z4)(R:St->Option (List Z4))(aD:Int)(aA:Int)(aE:List Z4):loopF YU.E f25.ntmps [1,1,0,1,0] [] (codeOf f25) (YU.kt x0) R (YU.s6 x0 aD aA aE)=YU.g6 x0 (λaD aA aE=>R (YU.s6 x0 aD aA aE)) aD aA aE:=by kernel_rfl
theorem YU.e6 (x0:List Z4):∀(n:Nat) (aD:Int) (aA:Int) (aE:List Z4),loopN (loopF YU.E f25.ntmps [1,1,0,1,0] [] (codeOf f25) (YU.kt x0)) n (YU.s6 x0 aD aA aE)=YU.l6 x0 n aD aA aE:=by
 intro n
 induction n with
 |zero=>intros;rw[loopN_z];rfl
 |succ n ih=>
  intro aD aA aE
  rw[loopN_s,YU.r6]
  simp only[ih]
  first|exact(YU.u6 ..).symm|rfl
theorem YU.v (x0:List Z4):V.evBody YU.E YU.con f25 ((x0):List Z4)=YU.b x0 (λaD aA aE=>loopN (loopF YU.E f25.ntmps [1,1,0,1,0] [] (codeOf f25) (YU.kt x0)) V.KK (YU.s6 x0 aD aA aE)):=by kernel_rfl
theorem YU.eq (x0:List Z4):V.evBody YU.E YU.con f25 ((x0):List Z4)=YU x0:=by
 rw[YU.v]
 simp only[YU.e6]
 rfl
theorem YU.ok :V.Valid prog 25 YU.con:=
 V.fo (tab_cons XC.ok tab_nil) func25 (by kernel_rfl) (λx y h=>(show V.evBody YU.E YU.con f25 x=_ from YU.eq x).trans (V.cfl (by kernel_rfl) h))
abbrev Qf.con :V.Con:=⟨(.cons .str (ci (ci (.cons (.sl (.cons .str .nil)) (.cons (.ptr (.cons .str .nil)) .nil))))),(.cons .bool .nil),λ(x:ByteArray×Int×Int×List ByteArray×ByteArray)=>Qf (x.1,x.2.1,x.2.2.1,x.2.2.2.1) x.2.2.2.2,[],[(true,4),(false,1)],[(false,1)],[false],[]⟩
abbrev Qf.E :Env:=V.mkE V.tys [] [] [] [] [] []
theorem Qf.eq (x0:Z0)(x1:ByteArray):V.evBody Qf.E Qf.con f61 ((x0.1,x0.2.1,x0.2.2.1,x0.2.2.2,x1):ByteArray×Int×Int×List ByteArray×ByteArray)=Qf x0 x1:=by kernel_rfl
theorem Qf.ok :V.Valid prog 61 Qf.con:=
 V.fo tab_nil func61 (by kernel_rfl) (λx y h=>(show V.evBody Qf.E Qf.con f61 x=_ from Qf.eq (x.1,x.2.1,x.2.2.1,x.2.2.2.1) x.2.2.2.2).trans (V.cfl (by kernel_rfl) h))
abbrev X3.con :V.Con:=⟨(.cons (.sl V.eEntry) (.cons (.fn 61 false .nil (.cons (.ptr (.cons .str .nil)) .nil)) .nil)),(ci .nil),λ(x:List Z0×(Unit)×(ByteArray))=>X3 x.1 x.2,[],[(false,1),(false,1)],[(false,1)],[false],[]⟩
abbrev X3.E :Env:=V.mkE V.tys [(61,Qf.con)] [(4,[0,1,7,8],[])] [] [] [] []
abbrev X3.kt (x0:List Z0)(x1:(Unit)×(ByteArray)):Kt Int:=ktOf X3.E X3.con f60 ((x0,x1):List Z0×(Unit)×(ByteArray))
abbrev X3.s4 (x0:List Z0)(x1:(Unit)×(ByteArray))(aG:Int)(aN:Int):St:=⟨[(0, .v false [.val (.sl V.eEntry x0)]),(1, .v false [.val (.fn 61 false .nil (.cons (.ptr (.cons .str .nil)) .nil) () x1.2)]),(7, .v false [.vi (aG)]),(8, .v false [.vi (aN)])],[]⟩
theorem X3.r4 (x0:List Z0)(x1:(Unit)×(ByteArray))(R:St->Option Int)(aG:Int)(aN:Int):loopF X3.E f60.ntmps [1,0,1,0] [] (codeOf f60) (X3.kt x0 x1) R (X3.s4 x0 x1 aG aN)=X3.g4 x0 x1 (λaG aN=>R (X3.s4 x0 x1 aG aN)) aG aN:=by kernel_rfl
theorem X3.e4 (x0:List Z0)(x1:(Unit)×(ByteArray)):∀(n:Nat) (aG:Int) (aN:Int),loopN (loopF X3.E f60.ntmps [1,0,1,0] [] (codeOf f60) (X3.kt x0 x1)) n (X3.s4 x0 x1 aG aN)=X3.l4 x0 x1 n aG aN:=by
 intro n
 induction n with
 |zero=>intros;rw[loopN_z];rfl
 |succ n ih=>
  intro aG aN
  rw[loopN_s,X3.r4]
  simp only[ih]
  first|exact(X3.u4 ..).symm|rfl
theorem X3.v (x0:List Z0)(x1:(Unit)×(ByteArray)):V.evBody X3.E X3.con f60 ((x0,x1):List Z0×(Unit)×(ByteArray))=X3.b x0 x1 (λaG aN=>loopN (loopF X3.E f60.ntmps [1,0,1,0] [] (codeOf f60) (X3.kt x0 x1)) V.KK (X3.s4 x0 x1 aG aN)):=by kernel_rfl
theorem X3.eq (x0:List Z0)(x1:(Unit)×(ByteArray)):V.evBody X3.E X3.con f60 ((x0,x1):List Z0×(Unit)×(ByteArray))=X3 x0 x1:=by
 rw[X3.v]
 simp only[X3.e4]
 rfl
theorem X3.ok :V.Valid prog 60 X3.con:=
 V.fo (tab_cons Qf.ok tab_nil) func60 (by kernel_rfl) (λx y h=>(show V.evBody X3.E X3.con f60 x=_ from X3.eq x.1 x.2).trans (V.cfl (by kernel_rfl) h))
abbrev WG.con :V.Con:=⟨(.cons (.sl V.eEntry) (.cons .str .nil)),(ci .nil),λ(x:List Z0×ByteArray)=>WG x.1 x.2,[],[(false,1),(false,1)],[(false,1)],[false],[]⟩
abbrev WG.E :Env:=V.mkE V.tys [(60,X3.con)] [] [] [] [] []
theorem WG.eq (x0:List Z0)(x1:ByteArray):V.evBody WG.E WG.con f26 ((x0,x1):List Z0×ByteArray)=WG x0 x1:=by kernel_rfl
theorem WG.ok :V.Valid prog 26 WG.con:=
 V.fo (tab_cons X3.ok tab_nil) func26 (by kernel_rfl) (λx y h=>(show V.evBody WG.E WG.con f26 x=_ from WG.eq x.1 x.2).trans (V.cfl (by kernel_rfl) h))
abbrev UX.con :V.Con:=⟨(.cons (.sl (.cons .str .nil)) .nil),(.cons (.sl (.cons .str .nil)) .nil),λ(x:List ByteArray)=>UX x,[],[(false,1)],[(false,1)],[true],[]⟩
abbrev UX.E :Env:=V.mkE V.tys [] [] [] [] [] []
theorem UX.eq (x0:List ByteArray):V.evBody UX.E UX.con f62 ((x0):List ByteArray)=UX x0:=by kernel_rfl
theorem UX.ok :V.Valid prog 62 UX.con:=
 V.fo tab_nil func62 (by kernel_rfl) (λx y h=>(show V.evBody UX.E UX.con f62 x=_ from UX.eq x).trans (V.cfl (by kernel_rfl) h))
abbrev Ws.con :V.Con:=⟨V.eEntry,V.eEntry,λ(x:ByteArray×Int×Int×List ByteArray)=>Ws x,[],[(true,4)],[(true,4)],[false,false,false,true],[]⟩
abbrev Ws.E :Env:=V.mkE V.tys [(62,UX.con)] [] [] [] [] []
theorem Ws.eq (x0:Z0):V.evBody Ws.E Ws.con f27 ((x0.1,x0.2.1,x0.2.2.1,x0.2.2.2):ByteArray×Int×Int×List ByteArray)=Ws x0:=by kernel_rfl
theorem Ws.ok :V.Valid prog 27 Ws.con:=
 V.fo (tab_cons UX.ok tab_nil) func27 (by kernel_rfl) (λx y h=>(show V.evBody Ws.E Ws.con f27 x=_ from Ws.eq x).trans (V.cfl (by kernel_rfl) h))
abbrev YK.con :V.Con:=⟨(.cons (.sl (ci .nil)) (ci .nil)),(.cons (.sl (ci .nil)) .nil),λ(x:List Int×Int)=>YK x.1 x.2,[],[(false,1),(false,1)],[(false,1)],[true],[]⟩
abbrev YK.E :Env:=V.mkE V.tys [(58,Ya.con),(105,Yp.con)] [(8,[0,1,5],[(0,(ci .nil),false),(64000051200320,(ci .nil),true)])] [] [] [] []
abbrev YK.kt (x0:List Int)(x1:Int):Kt (List Int):=ktOf YK.E YK.con f63 ((x0,x1):List Int×Int)
abbrev YK.s8 (aO:List Int)(aH:Int)(aF:List Int):St:=⟨[(0, .v false [.val (.sl (ci .nil) aO)]),(1, .v false [.vi (aH)]),(5, .v false [.ref 64000051200320])],[(64000051200320, .row (ci .nil) true aF)]⟩
theorem YK.r8 (x0:List Int)(x1:Int)(R:St->Option (List Int))(aO:List Int)(aH:Int)(aF:List Int):loopF YK.E f63.ntmps [1,1,1,0,0] [] (codeOf f63) (YK.kt x0 x1) R (YK.s8 aO aH aF)=YK.g8 (λaO aH aF=>R (YK.s8 aO aH aF)) aO aH aF:=by kernel_rfl
theorem YK.e8 (x0:List Int)(x1:Int):∀(n:Nat) (aO:List Int) (aH:Int) (aF:List Int),loopN (loopF YK.E f63.ntmps [1,1,1,0,0] [] (codeOf f63) (YK.kt x0 x1)) n (YK.s8 aO aH aF)=YK.l8 n aO aH aF:=by
 intro n
 induction n with
 |zero=>intros;rw[loopN_z];rfl
 |succ n ih=>
  intro aO aH aF
  rw[loopN_s,YK.r8]
  simp only[ih]
  first|exact(YK.u8 ..).symm|rfl
theorem YK.v (x0:List Int)(x1:Int):V.evBody YK.E YK.con f63 ((x0,x1):List Int×Int)=YK.b x0 x1 (λaO aH aF=>loopN (loopF YK.E f63.ntmps [1,1,1,0,0] [] (codeOf f63) (YK.kt x0 x1)) V.KK (YK.s8 aO aH aF)):=by kernel_rfl
theorem YK.eq (x0:List Int)(x1:Int):V.evBody YK.E YK.con f63 ((x0,x1):List Int×Int)=YK x0 x1:=by
 rw[YK.v]
 simp only[YK.e8]
 rfl
theorem YK.ok :V.Valid prog 63 YK.con:=
 V.fo (tab_cons Ya.ok (tab_cons Yp.ok tab_nil)) func63 (by kernel_rfl) (λx y h=>(show V.evBody YK.E YK.con f63 x=_ from YK.eq x.1 x.2).trans (V.cfl (by kernel_rfl) h))
abbrev WN.con :V.Con:=⟨(.cons (.sl V.eEntry) (.cons .str .nil)),(ci (.cons (.sl (ci .nil)) (.cons .bool .nil))),λ(x:List Z0×ByteArray)=>WN x.1 x.2,[],[(false,1),(false,1)],[(true,2),(false,1)],[false,true,false],[]⟩
abbrev WN.E :Env:=V.mkE V.tys [(26,WG.con),(63,YK.con),(64,YE.con)] [] [] [] [] []
theorem WN.eq (x0:List Z0)(x1:ByteArray):V.evBody WN.E WN.con f28 ((x0,x1):List Z0×ByteArray)=WN x0 x1:=by kernel_rfl
theorem WN.ok :V.Valid prog 28 WN.con:=
 V.fo (tab_cons WG.ok (tab_cons YK.ok (tab_cons YE.ok tab_nil))) func28 (by kernel_rfl) (λx y h=>(show V.evBody WN.E WN.con f28 x=_ from WN.eq x.1 x.2).trans (V.cfl (by kernel_rfl) h))
abbrev YT.con :V.Con:=⟨(.cons (.sl V.eEntry) (.cons .str .nil)),(ci .nil),λ(x:List Z0×ByteArray)=>YT x.1 x.2,[],[(false,1),(false,1)],[(false,1)],[false],[]⟩
abbrev YT.E :Env:=V.mkE V.tys [(108,Wq.con)] [(6,[1,5,8,9,10],[])] [] [] [] []
abbrev YT.kt (x0:List Z0)(x1:ByteArray):Kt Int:=ktOf YT.E YT.con f66 ((x0,x1):List Z0×ByteArray)
abbrev YT.s6 (x0:List Z0)(x1:ByteArray)(aD:Int)(aE:Int)(aK:Int):St:=⟨[(1, .v false [.val (.str x1)]),(5, .v false [.vi (aD)]),(8, .v false [.val (.sl V.eEntry x0)]),(9, .v false [.vi (aE)]),(10, .v false [.vi (aK)])],[]⟩
theorem YT.r6 (x0:List Z0)(x1:ByteArray)(R:St->Option Int)(aD:Int)(aE:Int)(aK:Int):loopF YT.E f66.ntmps [1,1,0,1,0] [] (codeOf f66) (YT.kt x0 x1) R (YT.s6 x0 x1 aD aE aK)=YT.g6 x0 x1 (λaD aE aK=>R (YT.s6 x0 x1 aD aE aK)) aD aE aK:=by kernel_rfl
theorem YT.e6 (x0:List Z0)(x1:ByteArray):∀(n:Nat) (aD:Int) (aE:Int) (aK:Int),loopN (loopF YT.E f66.ntmps [1,1,0,1,0] [] (codeOf f66) (YT.kt x0 x1)) n (YT.s6 x0 x1 aD aE aK)=YT.l6 x0 x1 n aD aE aK:=by
 intro n
 induction n with
 |zero=>intros;rw[loopN_z];rfl
 |succ n ih=>
  intro aD aE aK
  rw[loopN_s,YT.r6]
  simp only[ih]
  first|exact(YT.u6 ..).symm|rfl
theorem YT.v (x0:List Z0)(x1:ByteArray):V.evBody YT.E YT.con f66 ((x0,x1):List Z0×ByteArray)=YT.b x0 x1 (λaD aE aK=>loopN (loopF YT.E f66.ntmps [1,1,0,1,0] [] (codeOf f66) (YT.kt x0 x1)) V.KK (YT.s6 x0 x1 aD aE aK)):=by kernel_rfl
theorem YT.eq (x0:List Z0)(x1:ByteArray):V.evBody YT.E YT.con f66 ((x0,x1):List Z0×ByteArray)=YT x0 x1:=by
 rw[YT.v]
 simp only[YT.e6]
 rfl
theorem YT.ok :V.Valid prog 66 YT.con:=
 V.fo (tab_cons Wq.ok tab_nil) func66 (by kernel_rfl) (λx y h=>(show V.evBody YT.E YT.con f66 x=_ from YT.eq x.1 x.2).trans (V.cfl (by kernel_rfl) h))
abbrev Y0.con :V.Con:=⟨(.cons (.sl V.eEntry) (.cons .str .nil)),V.eRGapBool,λ(x:List Z0×ByteArray)=>Y0 x.1 x.2,[],[(false,1),(false,1)],[(true,13),(false,1)],[false,false,false,false,true,false,false,false,true,false,true,false,true,false],[]⟩
abbrev Y0.E :Env:=V.mkE V.tys [(24,ZZ.con),(26,WG.con),(27,Ws.con),(28,WN.con),(65,Yl.con),(66,YT.con)] [(5,[0,1,4,20],[]),(15,[0,4,6],[(64000000000016400388,(.cons .str .nil),true),(64000000000016400394,(ci .nil),true)])] [] [] [] []
abbrev Y0.kt (x0:List Z0)(x1:ByteArray):Kt Wn:=ktOf Y0.E Y0.con f29 ((x0,x1):List Z0×ByteArray)
abbrev Y0.s15 (x0:List Z0)(y2:Int)(dR:ByteArray)(dS:Int)(dT:Int)(bQ:Int)(dU:List ByteArray)(dV:List Int):St:=⟨[(0, .v false [.val (.sl V.eEntry x0)]),(4, .v false [.ptr 64000 0]),(6, .v false [.ptr 256256 0])],[(64000, .box [.vi ((0:Int)), .val (.str (⟨#[]⟩:ByteArray)), .vi ((0:Int)), .vi ((0:Int)), .nil0, .val (.str (⟨#[]⟩:ByteArray)), .vi ((0:Int)), .vi ((0:Int)), .nil0, .vi ((0:Int)), .nil0, .vi ((0:Int)), .nil0]),(256256, .box [.vi (y2), .val (.str dR), .vi (dS), .vi (dT), .ref 64000000000016400388, .val (.str (⟨#[]⟩:ByteArray)), .vi ((0:Int)), .vi ((0:Int)), .nil0, .vi (bQ), .ref 64000000000016400394, .vi ((0:Int)), .nil0]),(64000000000016400388, .row (.cons .str .nil) true dU),(64000000000016400394, .row (ci .nil) true dV)]⟩
abbrev Y0.s5 (x0:List Z0)(x1:ByteArray)(aV:Bool):St:=⟨[(0, .v false [.val (.sl V.eEntry x0)]),(1, .v false [.val (.str x1)]),(4, .v false [.ptr 64000 0]),(20, .v false [.val (.bool aV)])],[(64000, .box [.vi ((0:Int)), .val (.str (⟨#[]⟩:ByteArray)), .vi ((0:Int)), .vi ((0:Int)), .nil0, .val (.str (⟨#[]⟩:ByteArray)), .vi ((0:Int)), .vi ((0:Int)), .nil0, .vi ((0:Int)), .nil0, .vi ((0:Int)), .nil0])]⟩
theorem Y0.r15 (x0:List Z0)(x1:ByteArray)(y2:Int)(dR:ByteArray)(dS:Int)(dT:Int)(bQ:Int)(dU:List ByteArray)(dV:List Int):joinF Y0.E f29.ntmps [1,1,1] [] (codeOf f29) (Y0.kt x0 x1) (Y0.s15 x0 y2 dR dS dT bQ dU dV)=Y0.g15 x0 y2 dR dS dT bQ dU dV:=by kernel_rfl
theorem Y0.e15 (x0:List Z0)(x1:ByteArray)(y2:Int)(dR:ByteArray)(dS:Int)(dT:Int)(bQ:Int)(dU:List ByteArray)(dV:List Int):jn (joinF Y0.E f29.ntmps [1,1,1] [] (codeOf f29) (Y0.kt x0 x1)) (Y0.s15 x0 y2 dR dS dT bQ dU dV)=Y0.l15 x0 y2 dR dS dT bQ dU dV:=by
 rw[jn_eq,Y0.r15]
 rfl
theorem Y0.r5 (x0:List Z0)(x1:ByteArray)(aV:Bool):joinF Y0.E f29.ntmps [1,0] [] (codeOf f29) (Y0.kt x0 x1) (Y0.s5 x0 x1 aV)=Y0.g5 x0 x1 (λy2 dR dS dT bQ dU dV=>jn (joinF Y0.E f29.ntmps [1,1,1] [] (codeOf f29) (Y0.kt x0 x1)) (Y0.s15 x0 y2 dR dS dT bQ dU dV)) aV:=by kernel_rfl
theorem Y0.e5 (x0:List Z0)(x1:ByteArray)(aV:Bool):jn (joinF Y0.E f29.ntmps [1,0] [] (codeOf f29) (Y0.kt x0 x1)) (Y0.s5 x0 x1 aV)=Y0.l5 x0 x1 aV:=by
 rw[jn_eq,Y0.r5]
 simp only[Y0.e15]
 rfl
theorem Y0.v (x0:List Z0)(x1:ByteArray):V.evBody Y0.E Y0.con f29 ((x0,x1):List Z0×ByteArray)=Y0.b x0 x1 (λaV=>jn (joinF Y0.E f29.ntmps [1,0] [] (codeOf f29) (Y0.kt x0 x1)) (Y0.s5 x0 x1 aV)):=by kernel_rfl
theorem Y0.eq (x0:List Z0)(x1:ByteArray):V.evBody Y0.E Y0.con f29 ((x0,x1):List Z0×ByteArray)=Y0 x0 x1:=by
 rw[Y0.v]
 simp only[Y0.e5]
 rfl
theorem Y0.ok :V.Valid prog 29 Y0.con:=
 V.fo (tab_cons ZZ.ok (tab_cons WG.ok (tab_cons Ws.ok (tab_cons WN.ok (tab_cons Yl.ok (tab_cons YT.ok tab_nil)))))) func29 (by kernel_rfl) (λx y h=>(show V.evBody Y0.E Y0.con f29 x=_ from Y0.eq x.1 x.2).trans (V.cfl (by kernel_rfl) h))
abbrev Xd.con :V.Con:=⟨(.cons (.sl V.eSigned) (.cons (.sl V.eEntry) (.cons .str .nil))),V.eAnswer,λ(x:List Z4×List Z0×ByteArray)=>Xd (x.1,x.2.1) x.2.2,[],[(true,2),(false,1)],[(true,21)],[true,false,false,false,false,true,false,true,false,false,false,false,true,false,false,false,true,false,true,false,true],[]⟩
abbrev Xd.E :Env:=V.mkE V.tys [(23,UN.con),(24,ZZ.con),(25,YU.con),(26,WG.con),(27,Ws.con),(28,WN.con),(29,Y0.con)] [(7,[1,2,4],[])] [] [] [] []
abbrev Xd.kt (x0:Zm)(x1:ByteArray):Kt Zi:=ktOf Xd.E Xd.con f6 ((x0.1,x0.2,x1):List Z4×List Z0×ByteArray)
abbrev Xd.s7 (x0:Zm)(x1:ByteArray):St:=⟨[(1, .v false [.val (.str x1)]),(2, .v false [.ptr 64000 0]),(4, .v false [.ptr 64064 0])],[(64000, .box [.val (.sl V.eSigned x0.1), .val (.sl V.eEntry x0.2)]),(64064, .box [.nil0, .val (.bool false), .val (.str (⟨#[]⟩:ByteArray)), .vi ((0:Int)), .vi ((0:Int)), .nil0, .vi ((0:Int)), .nil0, .vi ((0:Int)), .val (.str (⟨#[]⟩:ByteArray)), .vi ((0:Int)), .vi ((0:Int)), .nil0, .val (.str (⟨#[]⟩:ByteArray)), .vi ((0:Int)), .vi ((0:Int)), .nil0, .vi ((0:Int)), .nil0, .vi ((0:Int)), .nil0])]⟩
theorem Xd.r7 (x0:Zm)(x1:ByteArray):joinF Xd.E f6.ntmps [1] [] (codeOf f6) (Xd.kt x0 x1) (Xd.s7 x0 x1)=Xd.g7 x0 x1:=by kernel_rfl
theorem Xd.e7 (x0:Zm)(x1:ByteArray):jn (joinF Xd.E f6.ntmps [1] [] (codeOf f6) (Xd.kt x0 x1)) (Xd.s7 x0 x1)=Xd.l7 x0 x1:=by
 rw[jn_eq,Xd.r7]
 rfl
theorem Xd.v (x0:Zm)(x1:ByteArray):V.evBody Xd.E Xd.con f6 ((x0.1,x0.2,x1):List Z4×List Z0×ByteArray)=Xd.b x0 x1 (jn (joinF Xd.E f6.ntmps [1] [] (codeOf f6) (Xd.kt x0 x1)) (Xd.s7 x0 x1)):=by kernel_rfl
theorem Xd.eq (x0:Zm)(x1:ByteArray):V.evBody Xd.E Xd.con f6 ((x0.1,x0.2,x1):List Z4×List Z0×ByteArray)=Xd x0 x1:=by
 rw[Xd.v]
 simp only[Xd.e7]
 rfl
theorem Xd.ok :V.Valid prog 6 Xd.con:=
 V.fo (tab_cons UN.ok (tab_cons ZZ.ok (tab_cons YU.ok (tab_cons WG.ok (tab_cons Ws.ok (tab_cons WN.ok (tab_cons Y0.ok tab_nil))))))) func6 (by kernel_rfl) (λx y h=>(show V.evBody Xd.E Xd.con f6 x=_ from Xd.eq (x.1,x.2.1) x.2.2).trans (V.cfl (by kernel_rfl) h))
abbrev Yb.con :V.Con:=⟨(.cons (.sl V.eEntry) (.cons .str .nil)),(ci .nil),λ(x:List Z0×ByteArray)=>Yb x.1 x.2,[],[(false,1),(false,1)],[(false,1)],[false],[]⟩
abbrev Yb.E :Env:=V.mkE V.tys [] [(4,[0,1,5],[])] [] [] [] []
abbrev Yb.kt (x0:List Z0)(x1:ByteArray):Kt Int:=ktOf Yb.E Yb.con f14 ((x0,x1):List Z0×ByteArray)
abbrev Yb.s4 (x0:List Z0)(x1:ByteArray)(aG:Int):St:=⟨[(0, .v false [.val (.sl V.eEntry x0)]),(1, .v false [.val (.str x1)]),(5, .v false [.vi (aG)])],[]⟩
theorem Yb.r4 (x0:List Z0)(x1:ByteArray)(R:St->Option Int)(aG:Int):loopF Yb.E f14.ntmps [1,0,1,0] [] (codeOf f14) (Yb.kt x0 x1) R (Yb.s4 x0 x1 aG)=Yb.g4 x0 x1 (λaG=>R (Yb.s4 x0 x1 aG)) aG:=by kernel_rfl
theorem Yb.e4 (x0:List Z0)(x1:ByteArray):∀(n:Nat) (aG:Int),loopN (loopF Yb.E f14.ntmps [1,0,1,0] [] (codeOf f14) (Yb.kt x0 x1)) n (Yb.s4 x0 x1 aG)=Yb.l4 x0 x1 n aG:=by
 intro n
 induction n with
 |zero=>intros;rw[loopN_z];rfl
 |succ n ih=>
  intro aG
  rw[loopN_s,Yb.r4]
  simp only[ih]
  first|exact(Yb.u4 ..).symm|rfl
theorem Yb.v (x0:List Z0)(x1:ByteArray):V.evBody Yb.E Yb.con f14 ((x0,x1):List Z0×ByteArray)=Yb.b x0 x1 (λaG=>loopN (loopF Yb.E f14.ntmps [1,0,1,0] [] (codeOf f14) (Yb.kt x0 x1)) V.KK (Yb.s4 x0 x1 aG)):=by kernel_rfl
theorem Yb.eq (x0:List Z0)(x1:ByteArray):V.evBody Yb.E Yb.con f14 ((x0,x1):List Z0×ByteArray)=Yb x0 x1:=by
 rw[Yb.v]
 simp only[Yb.e4]
 rfl
theorem Yb.ok :V.Valid prog 14 Yb.con:=
 V.fo tab_nil func14 (by kernel_rfl) (λx y h=>(show V.evBody Yb.E Yb.con f14 x=_ from Yb.eq x.1 x.2).trans (V.cfl (by kernel_rfl) h))
abbrev ZF.con :V.Con:=⟨(.cons (.sl (ci .nil)) (ci .nil)),(.cons (.sl (ci .nil)) .nil),λ(x:List Int×Int)=>ZF x.1 x.2,[],[(false,1),(false,1)],[(false,1)],[true],[]⟩
abbrev ZF.E :Env:=V.mkE V.tys [(38,ZW.con),(111,YA.con)] [(10,[1,5,6],[(6,(ci .nil),false),(64000064000320,(ci .nil),true)]),(19,[1,5,6],[])] [] [] [] []
abbrev ZF.kt (x0:List Int)(x1:Int):Kt (List Int):=ktOf ZF.E ZF.con f72 ((x0,x1):List Int×Int)
abbrev ZF.s19 (aR:Int)(aS:List Int)(eQ:List Int):St:=⟨[(1, .v false [.vi (aR)]),(5, .v false [.ref 64000121600320]),(6, .v false [.val (.sl (ci .nil) aS)])],[(64000121600320, .row (ci .nil) true eQ)]⟩
abbrev ZF.s10 (aR:Int)(aS:List Int)(aY:List Int):St:=⟨[(1, .v false [.vi (aR)]),(5, .v false [.ref 64000064000320]),(6, .v false [.val (.sl (ci .nil) aS)])],[(64000064000320, .row (ci .nil) true aY)]⟩
theorem ZF.r19 (x0:List Int)(x1:Int)(aR:Int)(aS:List Int)(R10:St->Option (List Int))(eQ:List Int):joinF ZF.E f72.ntmps [1,1,1,1,0,0,0,1,0,1] [R10] (codeOf f72) (ZF.kt x0 x1) (ZF.s19 aR aS eQ)=ZF.g19 aR aS (λaR aS aY=>R10 (ZF.s10 aR aS aY)) eQ:=by kernel_rfl
theorem ZF.e19 (x0:List Int)(x1:Int)(aR:Int)(aS:List Int)(R10:St->Option (List Int))(eQ:List Int):jn (joinF ZF.E f72.ntmps [1,1,1,1,0,0,0,1,0,1] [R10] (codeOf f72) (ZF.kt x0 x1)) (ZF.s19 aR aS eQ)=ZF.l19 aR aS (λaR aS aY=>R10 (ZF.s10 aR aS aY)) eQ:=by
 rw[jn_eq,ZF.r19]
 rfl
theorem ZF.r10 (x0:List Int)(x1:Int)(R:St->Option (List Int))(aR:Int)(aS:List Int)(aY:List Int):loopF ZF.E f72.ntmps [1,1,1,1,0,0] [] (codeOf f72) (ZF.kt x0 x1) R (ZF.s10 aR aS aY)=ZF.g10 (λaR aS aY=>R (ZF.s10 aR aS aY)) (λeQ=>jn (joinF ZF.E f72.ntmps [1,1,1,1,0,0,0,1,0,1] [R] (codeOf f72) (ZF.kt x0 x1)) (ZF.s19 aR aS eQ)) aR aS aY:=by kernel_rfl
theorem ZF.e10 (x0:List Int)(x1:Int):∀(n:Nat) (aR:Int) (aS:List Int) (aY:List Int),loopN (loopF ZF.E f72.ntmps [1,1,1,1,0,0] [] (codeOf f72) (ZF.kt x0 x1)) n (ZF.s10 aR aS aY)=ZF.l10 n aR aS aY:=by
 intro n
 induction n with
 |zero=>intros;rw[loopN_z];rfl
 |succ n ih=>
  intro aR aS aY
  rw[loopN_s,ZF.r10]
  simp only[ZF.e19,ih]
  first|exact(ZF.u10 ..).symm|rfl
theorem ZF.v (x0:List Int)(x1:Int):V.evBody ZF.E ZF.con f72 ((x0,x1):List Int×Int)=ZF.b x0 x1 (λaR aS aY=>loopN (loopF ZF.E f72.ntmps [1,1,1,1,0,0] [] (codeOf f72) (ZF.kt x0 x1)) V.KK (ZF.s10 aR aS aY)):=by kernel_rfl
theorem ZF.eq (x0:List Int)(x1:Int):V.evBody ZF.E ZF.con f72 ((x0,x1):List Int×Int)=ZF x0 x1:=by
 rw[ZF.v]
 simp only[ZF.e10]
 rfl
theorem ZF.ok :V.Valid prog 72 ZF.con:=
 V.fo (tab_cons ZW.ok (tab_cons YA.ok tab_nil)) func72 (by kernel_rfl) (λx y h=>(show V.evBody ZF.E ZF.con f72 x=_ from ZF.eq x.1 x.2).trans (V.cfl (by kernel_rfl) h))
abbrev WU.con :V.Con:=⟨(.cons (.sl V.eEntry) (.cons .str .nil)),(ci (.cons (.sl (ci .nil)) (.cons .bool .nil))),λ(x:List Z0×ByteArray)=>WU x.1 x.2,[],[(false,1),(false,1)],[(true,2),(false,1)],[false,true,false],[]⟩
abbrev WU.E :Env:=V.mkE V.tys [(14,Yb.con),(72,ZF.con),(73,YI.con)] [] [] [] [] []
theorem WU.eq (x0:List Z0)(x1:ByteArray):V.evBody WU.E WU.con f35 ((x0,x1):List Z0×ByteArray)=WU x0 x1:=by kernel_rfl
theorem WU.ok :V.Valid prog 35 WU.con:=
 V.fo (tab_cons Yb.ok (tab_cons ZF.ok (tab_cons YI.ok tab_nil))) func35 (by kernel_rfl) (λx y h=>(show V.evBody WU.E WU.con f35 x=_ from WU.eq x.1 x.2).trans (V.cfl (by kernel_rfl) h))
abbrev YZ.con :V.Con:=⟨(.cons (.sl V.eEntry) (.cons .str .nil)),(ci .nil),λ(x:List Z0×ByteArray)=>YZ x.1 x.2,[],[(false,1),(false,1)],[(false,1)],[false],[]⟩
abbrev YZ.E :Env:=V.mkE V.tys [(114,Wc.con)] [(6,[0,1,5,6],[])] [] [] [] []
abbrev YZ.kt (x0:List Z0)(x1:ByteArray):Kt Int:=ktOf YZ.E YZ.con f75 ((x0,x1):List Z0×ByteArray)
abbrev YZ.s6 (x0:List Z0)(x1:ByteArray)(aA:Int)(aE:Int):St:=⟨[(0, .v false [.val (.sl V.eEntry x0)]),(1, .v false [.val (.str x1)]),(5, .v false [.vi (aA)]),(6, .v false [.vi (aE)])],[]⟩
theorem YZ.r6 (x0:List Z0)(x1:ByteArray)(R:St->Option Int)(aA:Int)(aE:Int):loopF YZ.E f75.ntmps [1,1,0,1,0] [] (codeOf f75) (YZ.kt x0 x1) R (YZ.s6 x0 x1 aA aE)=YZ.g6 x0 x1 (λaA aE=>R (YZ.s6 x0 x1 aA aE)) aA aE:=by kernel_rfl
theorem YZ.e6 (x0:List Z0)(x1:ByteArray):∀(n:Nat) (aA:Int) (aE:Int),loopN (loopF YZ.E f75.ntmps [1,1,0,1,0] [] (codeOf f75) (YZ.kt x0 x1)) n (YZ.s6 x0 x1 aA aE)=YZ.l6 x0 x1 n aA aE:=by
 intro n
 induction n with
 |zero=>intros;rw[loopN_z];rfl
 |succ n ih=>
  intro aA aE
  rw[loopN_s,YZ.r6]
  simp only[ih]
  first|exact(YZ.u6 ..).symm|rfl
theorem YZ.v (x0:List Z0)(x1:ByteArray):V.evBody YZ.E YZ.con f75 ((x0,x1):List Z0×ByteArray)=YZ.b x0 x1 (λaA aE=>loopN (loopF YZ.E f75.ntmps [1,1,0,1,0] [] (codeOf f75) (YZ.kt x0 x1)) V.KK (YZ.s6 x0 x1 aA aE)):=by kernel_rfl
theorem YZ.eq (x0:List Z0)(x1:ByteArray):V.evBody YZ.E YZ.con f75 ((x0,x1):List Z0×ByteArray)=YZ x0 x1:=by
 rw[YZ.v]
 simp only[YZ.e6]
 rfl
theorem YZ.ok :V.Valid prog 75 YZ.con:=
 V.fo (tab_cons Wc.ok tab_nil) func75 (by kernel_rfl) (λx y h=>(show V.evBody YZ.E YZ.con f75 x=_ from YZ.eq x.1 x.2).trans (V.cfl (by kernel_rfl) h))
abbrev Y4.con :V.Con:=⟨(.cons (.sl V.eEntry) (.cons .str .nil)),V.eRGapBool,λ(x:List Z0×ByteArray)=>Y4 x.1 x.2,[],[(false,1),(false,1)],[(true,13),(false,1)],[false,false,false,false,true,false,false,false,true,false,true,false,true,false],[]⟩
abbrev Y4.E :Env:=V.mkE V.tys [(10,Zy.con),(14,Yb.con),(34,W6.con),(35,WU.con),(74,Y3.con),(75,YZ.con)] [(5,[0,1,4,21],[]),(17,[0,4,6,7],[(64000000000020488196,(.cons .str .nil),true),(64000000000020488202,(ci .nil),true)])] [] [] [] []
abbrev Y4.kt (x0:List Z0)(x1:ByteArray):Kt Wn:=ktOf Y4.E Y4.con f36 ((x0,x1):List Z0×ByteArray)
abbrev Y4.s17 (x0:List Z0)(y2:Int)(dW:ByteArray)(dX:Int)(dY:Int)(dZ:Int)(eA:List ByteArray)(eB:List Int):St:=⟨[(0, .v false [.val (.sl V.eEntry x0)]),(4, .v false [.ptr 64000 0]),(6, .v false [.vi (y2)]),(7, .v false [.ptr 320128 0])],[(64000, .box [.vi ((0:Int)), .val (.str (⟨#[]⟩:ByteArray)), .vi ((0:Int)), .vi ((0:Int)), .nil0, .val (.str (⟨#[]⟩:ByteArray)), .vi ((0:Int)), .vi ((0:Int)), .nil0, .vi ((0:Int)), .nil0, .vi ((0:Int)), .nil0]),(320128, .box [.vi (y2), .val (.str dW), .vi (dX), .vi (dY), .ref 64000000000020488196, .val (.str (⟨#[]⟩:ByteArray)), .vi ((0:Int)), .vi ((0:Int)), .nil0, .vi (dZ), .ref 64000000000020488202, .vi ((0:Int)), .nil0]),(64000000000020488196, .row (.cons .str .nil) true eA),(64000000000020488202, .row (ci .nil) true eB)]⟩
abbrev Y4.s5 (x0:List Z0)(x1:ByteArray)(aV:Bool):St:=⟨[(0, .v false [.val (.sl V.eEntry x0)]),(1, .v false [.val (.str x1)]),(4, .v false [.ptr 64000 0]),(21, .v false [.val (.bool aV)])],[(64000, .box [.vi ((0:Int)), .val (.str (⟨#[]⟩:ByteArray)), .vi ((0:Int)), .vi ((0:Int)), .nil0, .val (.str (⟨#[]⟩:ByteArray)), .vi ((0:Int)), .vi ((0:Int)), .nil0, .vi ((0:Int)), .nil0, .vi ((0:Int)), .nil0])]⟩
theorem Y4.r17 (x0:List Z0)(x1:ByteArray)(y2:Int)(dW:ByteArray)(dX:Int)(dY:Int)(dZ:Int)(eA:List ByteArray)(eB:List Int):joinF Y4.E f36.ntmps [1,1,1,1] [] (codeOf f36) (Y4.kt x0 x1) (Y4.s17 x0 y2 dW dX dY dZ eA eB)=Y4.g17 x0 y2 dW dX dY dZ eA eB:=by kernel_rfl
theorem Y4.e17 (x0:List Z0)(x1:ByteArray)(y2:Int)(dW:ByteArray)(dX:Int)(dY:Int)(dZ:Int)(eA:List ByteArray)(eB:List Int):jn (joinF Y4.E f36.ntmps [1,1,1,1] [] (codeOf f36) (Y4.kt x0 x1)) (Y4.s17 x0 y2 dW dX dY dZ eA eB)=Y4.l17 x0 y2 dW dX dY dZ eA eB:=by
 rw[jn_eq,Y4.r17]
 rfl
theorem Y4.r5 (x0:List Z0)(x1:ByteArray)(aV:Bool):joinF Y4.E f36.ntmps [1,0] [] (codeOf f36) (Y4.kt x0 x1) (Y4.s5 x0 x1 aV)=Y4.g5 x0 x1 (λy2 dW dX dY dZ eA eB=>jn (joinF Y4.E f36.ntmps [1,1,1,1] [] (codeOf f36) (Y4.kt x0 x1)) (Y4.s17 x0 y2 dW dX dY dZ eA eB)) aV:=by kernel_rfl
theorem Y4.e5 (x0:List Z0)(x1:ByteArray)(aV:Bool):jn (joinF Y4.E f36.ntmps [1,0] [] (codeOf f36) (Y4.kt x0 x1)) (Y4.s5 x0 x1 aV)=Y4.l5 x0 x1 aV:=by
 rw[jn_eq,Y4.r5]
 simp only[Y4.e17]
 rfl
theorem Y4.v (x0:List Z0)(x1:ByteArray):V.evBody Y4.E Y4.con f36 ((x0,x1):List Z0×ByteArray)=Y4.b x0 x1 (λaV=>jn (joinF Y4.E f36.ntmps [1,0] [] (codeOf f36) (Y4.kt x0 x1)) (Y4.s5 x0 x1 aV)):=by kernel_rfl
theorem Y4.eq (x0:List Z0)(x1:ByteArray):V.evBody Y4.E Y4.con f36 ((x0,x1):List Z0×ByteArray)=Y4 x0 x1:=by
 rw[Y4.v]
 simp only[Y4.e5]
 rfl
theorem Y4.ok :V.Valid prog 36 Y4.con:=
 V.fo (tab_cons Zy.ok (tab_cons Yb.ok (tab_cons W6.ok (tab_cons WU.ok (tab_cons Y3.ok (tab_cons YZ.ok tab_nil)))))) func36 (by kernel_rfl) (λx y h=>(show V.evBody Y4.E Y4.con f36 x=_ from Y4.eq x.1 x.2).trans (V.cfl (by kernel_rfl) h))
abbrev X7.con :V.Con:=⟨(.cons (.sl V.eSigned) (.cons (.sl V.eEntry) (.cons .str .nil))),V.eAnswer,λ(x:List Z4×List Z0×ByteArray)=>X7 (x.1,x.2.1) x.2.2,[],[(true,2),(false,1)],[(true,21)],[true,false,false,false,false,true,false,true,false,false,false,false,true,false,false,false,true,false,true,false,true],[]⟩
abbrev X7.E :Env:=V.mkE V.tys [(9,Wi.con),(10,Zy.con),(14,Yb.con),(33,Yh.con),(34,W6.con),(35,WU.con),(36,Y4.con)] [(7,[1,2,4],[])] [] [] [] []
abbrev X7.kt (x0:Zm)(x1:ByteArray):Kt Zi:=ktOf X7.E X7.con f8 ((x0.1,x0.2,x1):List Z4×List Z0×ByteArray)
abbrev X7.s7 (x0:Zm)(x1:ByteArray):St:=⟨[(1, .v false [.val (.str x1)]),(2, .v false [.ptr 64000 0]),(4, .v false [.ptr 64064 0])],[(64000, .box [.val (.sl V.eSigned x0.1), .val (.sl V.eEntry x0.2)]),(64064, .box [.nil0, .val (.bool false), .val (.str (⟨#[]⟩:ByteArray)), .vi ((0:Int)), .vi ((0:Int)), .nil0, .vi ((0:Int)), .nil0, .vi ((0:Int)), .val (.str (⟨#[]⟩:ByteArray)), .vi ((0:Int)), .vi ((0:Int)), .nil0, .val (.str (⟨#[]⟩:ByteArray)), .vi ((0:Int)), .vi ((0:Int)), .nil0, .vi ((0:Int)), .nil0, .vi ((0:Int)), .nil0])]⟩
theorem X7.r7 (x0:Zm)(x1:ByteArray):joinF X7.E f8.ntmps [1] [] (codeOf f8) (X7.kt x0 x1) (X7.s7 x0 x1)=X7.g7 x0 x1:=by kernel_rfl
theorem X7.e7 (x0:Zm)(x1:ByteArray):jn (joinF X7.E f8.ntmps [1] [] (codeOf f8) (X7.kt x0 x1)) (X7.s7 x0 x1)=X7.l7 x0 x1:=by
 rw[jn_eq,X7.r7]
 rfl
theorem X7.v (x0:Zm)(x1:ByteArray):V.evBody X7.E X7.con f8 ((x0.1,x0.2,x1):List Z4×List Z0×ByteArray)=X7.b x0 x1 (jn (joinF X7.E f8.ntmps [1] [] (codeOf f8) (X7.kt x0 x1)) (X7.s7 x0 x1)):=by kernel_rfl
theorem X7.eq (x0:Zm)(x1:ByteArray):V.evBody X7.E X7.con f8 ((x0.1,x0.2,x1):List Z4×List Z0×ByteArray)=X7 x0 x1:=by
 rw[X7.v]
 simp only[X7.e7]
 rfl
theorem X7.ok :V.Valid prog 8 X7.con:=
 V.fo (tab_cons Wi.ok (tab_cons Zy.ok (tab_cons Yb.ok (tab_cons Yh.ok (tab_cons W6.ok (tab_cons WU.ok (tab_cons Y4.ok tab_nil))))))) func8 (by kernel_rfl) (λx y h=>(show V.evBody X7.E X7.con f8 x=_ from X7.eq (x.1,x.2.1) x.2.2).trans (V.cfl (by kernel_rfl) h))
abbrev XE.con :V.Con:=⟨V.A3,(.cons .bool .nil),λ(x:V.D3)=>XE (V.p3_0 x) (V.p3_1 x),[],[(true,16),(true,16)],[(false,1)],[false],[]⟩
abbrev XE.E :Env:=V.mkE V.tys [(69,Y8.con),(149,W7.con),(150,Xm.con)] [] [(1,23)] [] [] []
abbrev XE.kt (x0:Z5)(x1:Z5):Kt Bool:=ktOf XE.E XE.con f109 (V.fl3 x0 x1)
abbrev XE.s (x0:Z5)(x1:Z5):St:=⟨[(0, .v true (V.lsHead x0)),(1, .v true (V.lsHead x1))],[]⟩
theorem XE.v0 (x0:Z5)(x1:Z5):V.evBody XE.E XE.con f109 (V.fl3 x0 x1)=evC XE.E f109.ntmps (codeOf f109) (XE.kt x0 x1) (XE.s x0 x1):=by kernel_rfl
theorem XE.v (x0:Z5)(x1:Z5):evC XE.E f109.ntmps (codeOf f109) (XE.kt x0 x1) (XE.s x0 x1)=XE x0 x1:=by kernel_rfl
theorem XE.eq (x0:Z5)(x1:Z5):V.evBody XE.E XE.con f109 (V.fl3 x0 x1)=XE x0 x1:=(XE.v0 x0 x1).trans (XE.v x0 x1)
theorem XE.ok :V.Valid prog 109 XE.con:=
 V.fo (tab_cons Y8.ok (tab_cons W7.ok (tab_cons Xm.ok tab_nil))) func109 (by kernel_rfl) (λx y h=>(show V.evBody XE.E XE.con f109 x=_ from XE.eq (V.p3_0 x) (V.p3_1 x)).trans (V.cfl (by kernel_rfl) h))
abbrev Yi.con :V.Con:=⟨(.cons (.sl (ci (ci .nil))) (.cons (.sl (ci (ci .nil))) .nil)),(.cons .bool .nil),λ(x:List Z7×List Z7)=>Yi x.1 x.2,[],[(false,1),(false,1)],[(false,1)],[false],[]⟩
abbrev Yi.E :Env:=V.mkE V.tys [] [(8,[0,1,12,13],[])] [(6,8)] [] [] []
abbrev Yi.kt (x0:List Z7)(x1:List Z7):Kt Bool:=ktOf Yi.E Yi.con f110 ((x0,x1):List Z7×List Z7)
abbrev Yi.s8 (x0:List Z7)(x1:List Z7)(aF:Int)(aM:Int):St:=⟨[(0, .v false [.val (.sl (ci (ci .nil)) x0)]),(1, .v false [.val (.sl (ci (ci .nil)) x1)]),(12, .v false [.vi (aF)]),(13, .v false [.vi (aM)])],[]⟩
theorem Yi.r8 (x0:List Z7)(x1:List Z7)(R:St->Option Bool)(aF:Int)(aM:Int):loopF Yi.E f110.ntmps [1,1,0,1,0] [] (codeOf f110) (Yi.kt x0 x1) R (Yi.s8 x0 x1 aF aM)=Yi.g8 x0 x1 (λaF aM=>R (Yi.s8 x0 x1 aF aM)) aF aM:=by kernel_rfl
theorem Yi.e8 (x0:List Z7)(x1:List Z7):∀(n:Nat) (aF:Int) (aM:Int),loopN (loopF Yi.E f110.ntmps [1,1,0,1,0] [] (codeOf f110) (Yi.kt x0 x1)) n (Yi.s8 x0 x1 aF aM)=Yi.l8 x0 x1 n aF aM:=by
 intro n
 induction n with
 |zero=>intros;rw[loopN_z];rfl
 |succ n ih=>
  intro aF aM
  rw[loopN_s,Yi.r8]
  simp only[ih]
  first|exact(Yi.u8 ..).symm|rfl
theorem Yi.v (x0:List Z7)(x1:List Z7):V.evBody Yi.E Yi.con f110 ((x0,x1):List Z7×List Z7)=Yi.b x0 x1 (λaF aM=>loopN (loopF Yi.E f110.ntmps [1,1,0,1,0] [] (codeOf f110) (Yi.kt x0 x1)) V.KK (Yi.s8 x0 x1 aF aM)):=by kernel_rfl
theorem Yi.eq (x0:List Z7)(x1:List Z7):V.evBody Yi.E Yi.con f110 ((x0,x1):List Z7×List Z7)=Yi x0 x1:=by
 rw[Yi.v]
 simp only[Yi.e8]
 rfl
theorem Yi.ok :V.Valid prog 110 Yi.con:=
 V.fo tab_nil func110 (by kernel_rfl) (λx y h=>(show V.evBody Yi.E Yi.con f110 x=_ from Yi.eq x.1 x.2).trans (V.cfl (by kernel_rfl) h))
abbrev XF.con :V.Con:=⟨V.A12,(.cons .bool .nil),λ(x:V.D12)=>XF (V.p12_0 x) (V.p12_1 x),[],[(true,17),(true,17)],[(false,1)],[false],[]⟩
abbrev XF.E :Env:=V.mkE V.tys [(109,XE.con),(110,Yi.con)] [] [] [] [] []
abbrev XF.kt (x0:Z4)(x1:Z4):Kt Bool:=ktOf XF.E XF.con f68 (V.fl12 x0 x1)
abbrev XF.s (x0:Z4)(x1:Z4):St:=⟨[(0, .v true (V.lsSigned x0)),(1, .v true (V.lsSigned x1))],[]⟩
theorem XF.v0 (x0:Z4)(x1:Z4):V.evBody XF.E XF.con f68 (V.fl12 x0 x1)=evC XF.E f68.ntmps (codeOf f68) (XF.kt x0 x1) (XF.s x0 x1):=by kernel_rfl
theorem XF.v (x0:Z4)(x1:Z4):evC XF.E f68.ntmps (codeOf f68) (XF.kt x0 x1) (XF.s x0 x1)=XF x0 x1:=by kernel_rfl
theorem XF.eq (x0:Z4)(x1:Z4):V.evBody XF.E XF.con f68 (V.fl12 x0 x1)=XF x0 x1:=(XF.v0 x0 x1).trans (XF.v x0 x1)
theorem XF.ok :V.Valid prog 68 XF.con:=
 V.fo (tab_cons XE.ok (tab_cons Yi.ok tab_nil)) func68 (by kernel_rfl) (λx y h=>(show V.evBody XF.E XF.con f68 x=_ from XF.eq (V.p12_0 x) (V.p12_1 x)).trans (V.cfl (by kernel_rfl) h))
abbrev YV.con :V.Con:=⟨(.cons (.sl V.eSigned) (.cons (.sl V.eSigned) (.cons (.fn 68 false .nil .nil) .nil))),(.cons .bool .nil),λ(x:List Z4×List Z4×(Unit)×(Unit))=>YV x.1 x.2.1 x.2.2,[],[(false,1),(false,1),(false,1)],[(false,1)],[false],[]⟩
abbrev YV.E :Env:=V.mkE V.tys [(68,XF.con)] [(8,[1,2,15,16,17],[])] [] [] [] []
abbrev YV.kt (x0:List Z4)(x1:List Z4)(x2:(Unit)×(Unit)):Kt Bool:=ktOf YV.E YV.con f67 ((x0,x1,x2):List Z4×List Z4×(Unit)×(Unit))
abbrev YV.s8 (x0:List Z4)(x1:List Z4)(aF:Int)(aM:Int):St:=⟨[(1, .v false [.val (.sl V.eSigned x1)]),(2, .v false [.val (.fn 68 false .nil .nil () ())]),(15, .v false [.val (.sl V.eSigned x0)]),(16, .v false [.vi (aF)]),(17, .v false [.vi (aM)])],[]⟩
theorem YV.r8 (x0:List Z4)(x1:List Z4)(x2:(Unit)×(Unit))(R:St->Option Bool)(aF:Int)(aM:Int):loopF YV.E f67.ntmps [1,1,0,1,0] [] (codeOf f67) (YV.kt x0 x1 x2) R (YV.s8 x0 x1 aF aM)=YV.g8 x0 x1 (λaF aM=>R (YV.s8 x0 x1 aF aM)) aF aM:=by kernel_rfl
theorem YV.e8 (x0:List Z4)(x1:List Z4)(x2:(Unit)×(Unit)):∀(n:Nat) (aF:Int) (aM:Int),loopN (loopF YV.E f67.ntmps [1,1,0,1,0] [] (codeOf f67) (YV.kt x0 x1 x2)) n (YV.s8 x0 x1 aF aM)=YV.l8 x0 x1 n aF aM:=by
 intro n
 induction n with
 |zero=>intros;rw[loopN_z];rfl
 |succ n ih=>
  intro aF aM
  rw[loopN_s,YV.r8]
  simp only[ih]
  first|exact(YV.u8 ..).symm|rfl
theorem YV.v (x0:List Z4)(x1:List Z4)(x2:(Unit)×(Unit)):V.evBody YV.E YV.con f67 ((x0,x1,x2):List Z4×List Z4×(Unit)×(Unit))=YV.b x0 x1 x2 (λaF aM=>loopN (loopF YV.E f67.ntmps [1,1,0,1,0] [] (codeOf f67) (YV.kt x0 x1 x2)) V.KK (YV.s8 x0 x1 aF aM)):=by kernel_rfl
theorem YV.eq (x0:List Z4)(x1:List Z4)(x2:(Unit)×(Unit)):V.evBody YV.E YV.con f67 ((x0,x1,x2):List Z4×List Z4×(Unit)×(Unit))=YV x0 x1 x2:=by
 rw[YV.v]
 simp only[YV.e8]
 rfl
theorem YV.ok :V.Valid prog 67 YV.con:=
 V.fo (tab_cons XF.ok tab_nil) func67 (by kernel_rfl) (λx y h=>(show V.evBody YV.E YV.con f67 x=_ from YV.eq x.1 x.2.1 x.2.2).trans (V.cfl (by kernel_rfl) h))
abbrev UU.con :V.Con:=⟨(.cons (.sl V.eSigned) (.cons (.sl V.eSigned) .nil)),(.cons .bool .nil),λ(x:List Z4×List Z4)=>UU x.1 x.2,[],[(false,1),(false,1)],[(false,1)],[false],[]⟩
abbrev UU.E :Env:=V.mkE V.tys [(67,YV.con)] [] [] [] [] []
theorem UU.eq (x0:List Z4)(x1:List Z4):V.evBody UU.E UU.con f30 ((x0,x1):List Z4×List Z4)=UU x0 x1:=by kernel_rfl
theorem UU.ok :V.Valid prog 30 UU.con:=
 V.fo (tab_cons YV.ok tab_nil) func30 (by kernel_rfl) (λx y h=>(show V.evBody UU.E UU.con f30 x=_ from UU.eq x.1 x.2).trans (V.cfl (by kernel_rfl) h))
abbrev YW.con :V.Con:=⟨(.cons (.sl (.cons .str .nil)) (.cons (.sl (.cons .str .nil)) .nil)),(.cons .bool .nil),λ(x:List ByteArray×List ByteArray)=>YW x.1 x.2,[],[(false,1),(false,1)],[(false,1)],[false],[]⟩
abbrev YW.E :Env:=V.mkE V.tys [] [(8,[0,1,12,13],[])] [(6,8)] [] [] []
abbrev YW.kt (x0:List ByteArray)(x1:List ByteArray):Kt Bool:=ktOf YW.E YW.con f50 ((x0,x1):List ByteArray×List ByteArray)
abbrev YW.s8 (x0:List ByteArray)(x1:List ByteArray)(aF:Int)(aM:Int):St:=⟨[(0, .v false [.val (.sl (.cons .str .nil) x0)]),(1, .v false [.val (.sl (.cons .str .nil) x1)]),(12, .v false [.vi (aF)]),(13, .v false [.vi (aM)])],[]⟩
theorem YW.r8 (x0:List ByteArray)(x1:List ByteArray)(R:St->Option Bool)(aF:Int)(aM:Int):loopF YW.E f50.ntmps [1,1,0,1,0] [] (codeOf f50) (YW.kt x0 x1) R (YW.s8 x0 x1 aF aM)=YW.g8 x0 x1 (λaF aM=>R (YW.s8 x0 x1 aF aM)) aF aM:=by kernel_rfl
theorem YW.e8 (x0:List ByteArray)(x1:List ByteArray):∀(n:Nat) (aF:Int) (aM:Int),loopN (loopF YW.E f50.ntmps [1,1,0,1,0] [] (codeOf f50) (YW.kt x0 x1)) n (YW.s8 x0 x1 aF aM)=YW.l8 x0 x1 n aF aM:=by
 intro n
 induction n with
 |zero=>intros;rw[loopN_z];rfl
 |succ n ih=>
  intro aF aM
  rw[loopN_s,YW.r8]
  simp only[ih]
  first|exact(YW.u8 ..).symm|rfl
theorem YW.v (x0:List ByteArray)(x1:List ByteArray):V.evBody YW.E YW.con f50 ((x0,x1):List ByteArray×List ByteArray)=YW.b x0 x1 (λaF aM=>loopN (loopF YW.E f50.ntmps [1,1,0,1,0] [] (codeOf f50) (YW.kt x0 x1)) V.KK (YW.s8 x0 x1 aF aM)):=by kernel_rfl
theorem YW.eq (x0:List ByteArray)(x1:List ByteArray):V.evBody YW.E YW.con f50 ((x0,x1):List ByteArray×List ByteArray)=YW x0 x1:=by
 rw[YW.v]
 simp only[YW.e8]
 rfl
theorem YW.ok :V.Valid prog 50 YW.con:=
 V.fo tab_nil func50 (by kernel_rfl) (λx y h=>(show V.evBody YW.E YW.con f50 x=_ from YW.eq x.1 x.2).trans (V.cfl (by kernel_rfl) h))
abbrev Wb.con :V.Con:=⟨(.cons .str (ci (ci (.cons (.sl (.cons .str .nil)) (.cons .str (ci (ci (.cons (.sl (.cons .str .nil)) .nil)))))))),(.cons .bool .nil),λ(x:ByteArray×Int×Int×List ByteArray×ByteArray×Int×Int×List ByteArray)=>Wb (x.1,x.2.1,x.2.2.1,x.2.2.2.1) x.2.2.2.2,[],[(true,4),(true,4)],[(false,1)],[false],[]⟩
abbrev Wb.E :Env:=V.mkE V.tys [(50,YW.con)] [] [] [] [] []
theorem Wb.eq (x0:Z0)(x1:Z0):V.evBody Wb.E Wb.con f18 ((x0.1,x0.2.1,x0.2.2.1,x0.2.2.2,x1.1,x1.2.1,x1.2.2.1,x1.2.2.2):ByteArray×Int×Int×List ByteArray×ByteArray×Int×Int×List ByteArray)=Wb x0 x1:=by kernel_rfl
theorem Wb.ok :V.Valid prog 18 Wb.con:=
 V.fo (tab_cons YW.ok tab_nil) func18 (by kernel_rfl) (λx y h=>(show V.evBody Wb.E Wb.con f18 x=_ from Wb.eq (x.1,x.2.1,x.2.2.1,x.2.2.2.1) x.2.2.2.2).trans (V.cfl (by kernel_rfl) h))
abbrev Wx.con :V.Con:=⟨(ci (.cons (.sl (ci .nil)) (ci (.cons (.sl (ci .nil)) .nil)))),(.cons .bool .nil),λ(x:Int×List Int×Int×List Int)=>Wx (x.1,x.2.1) x.2.2,[],[(true,2),(true,2)],[(false,1)],[false],[]⟩
abbrev Wx.E :Env:=V.mkE V.tys [(69,Y8.con)] [] [] [] [] []
theorem Wx.eq (x0:YC)(x1:YC):V.evBody Wx.E Wx.con f31 ((x0.1,x0.2,x1.1,x1.2):Int×List Int×Int×List Int)=Wx x0 x1:=by kernel_rfl
theorem Wx.ok :V.Valid prog 31 Wx.con:=
 V.fo (tab_cons Y8.ok tab_nil) func31 (by kernel_rfl) (λx y h=>(show V.evBody Wx.E Wx.con f31 x=_ from Wx.eq (x.1,x.2.1) x.2.2).trans (V.cfl (by kernel_rfl) h))
abbrev Xw.con :V.Con:=⟨V.A13,(.cons .bool .nil),λ(x:V.D13)=>Xw (V.p13_0 x) (V.p13_1 x),[],[(true,13),(true,13)],[(false,1)],[false],[]⟩
abbrev Xw.E :Env:=V.mkE V.tys [(18,Wb.con),(31,Wx.con)] [] [] [] [] []
abbrev Xw.kt (x0:Zp)(x1:Zp):Kt Bool:=ktOf Xw.E Xw.con f32 (V.fl13 x0 x1)
abbrev Xw.s (x0:Zp)(x1:Zp):St:=⟨[(0, .v true (V.lsGap x0)),(1, .v true (V.lsGap x1))],[]⟩
theorem Xw.v0 (x0:Zp)(x1:Zp):V.evBody Xw.E Xw.con f32 (V.fl13 x0 x1)=evC Xw.E f32.ntmps (codeOf f32) (Xw.kt x0 x1) (Xw.s x0 x1):=by kernel_rfl
theorem Xw.v (x0:Zp)(x1:Zp):evC Xw.E f32.ntmps (codeOf f32) (Xw.kt x0 x1) (Xw.s x0 x1)=Xw x0 x1:=by kernel_rfl
theorem Xw.eq (x0:Zp)(x1:Zp):V.evBody Xw.E Xw.con f32 (V.fl13 x0 x1)=Xw x0 x1:=(Xw.v0 x0 x1).trans (Xw.v x0 x1)
theorem Xw.ok :V.Valid prog 32 Xw.con:=
 V.fo (tab_cons Wb.ok (tab_cons Wx.ok tab_nil)) func32 (by kernel_rfl) (λx y h=>(show V.evBody Xw.E Xw.con f32 x=_ from Xw.eq (V.p13_0 x) (V.p13_1 x)).trans (V.cfl (by kernel_rfl) h))
abbrev XD.con :V.Con:=⟨V.A14,(.cons .bool .nil),λ(x:V.D14)=>XD (V.p14_0 x) (V.p14_1 x),[],[(true,21),(true,21)],[(false,1)],[false],[]⟩
abbrev XD.E :Env:=V.mkE V.tys [(18,Wb.con),(30,UU.con),(31,Wx.con),(32,Xw.con)] [] [] [] [] []
abbrev XD.kt (x0:Zi)(x1:Zi):Kt Bool:=ktOf XD.E XD.con f7 (V.fl14 x0 x1)
abbrev XD.s (x0:Zi)(x1:Zi):St:=⟨[(0, .v true (V.lsAnswer x0)),(1, .v true (V.lsAnswer x1))],[]⟩
theorem XD.v0 (x0:Zi)(x1:Zi):V.evBody XD.E XD.con f7 (V.fl14 x0 x1)=evC XD.E f7.ntmps (codeOf f7) (XD.kt x0 x1) (XD.s x0 x1):=by kernel_rfl
theorem XD.v (x0:Zi)(x1:Zi):evC XD.E f7.ntmps (codeOf f7) (XD.kt x0 x1) (XD.s x0 x1)=XD x0 x1:=by kernel_rfl
theorem XD.eq (x0:Zi)(x1:Zi):V.evBody XD.E XD.con f7 (V.fl14 x0 x1)=XD x0 x1:=(XD.v0 x0 x1).trans (XD.v x0 x1)
theorem XD.ok :V.Valid prog 7 XD.con:=
 V.fo (tab_cons Wb.ok (tab_cons UU.ok (tab_cons Wx.ok (tab_cons Xw.ok tab_nil)))) func7 (by kernel_rfl) (λx y h=>(show V.evBody XD.E XD.con f7 x=_ from XD.eq (V.p14_0 x) (V.p14_1 x)).trans (V.cfl (by kernel_rfl) h))
abbrev Q6.con :V.Con:=⟨(.cons (.sl V.eSigned) (.cons (.sl V.eEntry) .nil)),(ci .nil),λ(x:List Z4×List Z0)=>Q6 x,[],[(true,2)],[(false,1)],[false],[]⟩
abbrev Q6.E :Env:=V.mkE V.tys [(9,Wi.con),(11,Xs.con)] [] [] [] [] []
theorem Q6.eq (x0:Zm):V.evBody Q6.E Q6.con f12 ((x0.1,x0.2):List Z4×List Z0)=Q6 x0:=by kernel_rfl
theorem Q6.ok :V.Valid prog 12 Q6.con:=
 V.fo (tab_cons Wi.ok (tab_cons Xs.ok tab_nil)) func12 (by kernel_rfl) (λx y h=>(show V.evBody Q6.E Q6.con f12 x=_ from Q6.eq x).trans (V.cfl (by kernel_rfl) h))
abbrev UP.con :V.Con:=⟨(.cons (.sl V.eSigned) .nil),V.eRHeadBool,λ(x:List Z4)=>UP x,[],[(false,1)],[(true,16),(false,1)],[false,false,false,false,false,false,false,false,true,false,true,false,false,true,false,false,false],[]⟩
abbrev UP.E :Env:=V.mkE V.tys [(55,U1.con),(56,U4.con),(79,Xx.con)] [] [] [] [] []
theorem UP.eq (x0:List Z4):V.evBody UP.E UP.con f41 ((x0):List Z4)=UP x0:=by kernel_rfl
theorem UP.ok :V.Valid prog 41 UP.con:=
 V.fo (tab_cons U1.ok (tab_cons U4.ok (tab_cons Xx.ok tab_nil))) func41 (by kernel_rfl) (λx y h=>(show V.evBody UP.E UP.con f41 x=_ from UP.eq x).trans (V.cfl (by kernel_rfl) h))
abbrev XZ.con :V.Con:=⟨V.A15,(.cons .bool .nil),λ(x:V.D15)=>XZ (V.p15_0 x) (V.p15_1 x),[],[(true,16),(false,1)],[(false,1)],[false],[]⟩
abbrev XZ.E :Env:=V.mkE V.tys [(58,Ya.con)] [] [] [] [] []
abbrev XZ.kt (x0:Z5)(x1:Int):Kt Bool:=ktOf XZ.E XZ.con f42 (V.fl15 x0 x1)
abbrev XZ.s (x0:Z5)(x1:Int):St:=⟨[(0, .v true (V.lsHead x0)),(1, .v false [.vi (x1)])],[]⟩
theorem XZ.v0 (x0:Z5)(x1:Int):V.evBody XZ.E XZ.con f42 (V.fl15 x0 x1)=evC XZ.E f42.ntmps (codeOf f42) (XZ.kt x0 x1) (XZ.s x0 x1):=by kernel_rfl
theorem XZ.v (x0:Z5)(x1:Int):evC XZ.E f42.ntmps (codeOf f42) (XZ.kt x0 x1) (XZ.s x0 x1)=XZ x0 x1:=by kernel_rfl
theorem XZ.eq (x0:Z5)(x1:Int):V.evBody XZ.E XZ.con f42 (V.fl15 x0 x1)=XZ x0 x1:=(XZ.v0 x0 x1).trans (XZ.v x0 x1)
theorem XZ.ok :V.Valid prog 42 XZ.con:=
 V.fo (tab_cons Ya.ok tab_nil) func42 (by kernel_rfl) (λx y h=>(show V.evBody XZ.E XZ.con f42 x=_ from XZ.eq (V.p15_0 x) (V.p15_1 x)).trans (V.cfl (by kernel_rfl) h))
abbrev Zu.con :V.Con:=⟨(ci (ci (ci (.cons (.sl (ci .nil)) .nil)))),(ci (.cons .bool .nil)),λ(x:Int×Int×Int×List Int)=>Zu x.1 x.2.1 x.2.2.1 x.2.2.2,[],[(false,1),(false,1),(false,1),(false,1)],[(false,1),(false,1)],[false,false],[]⟩
abbrev Zu.E :Env:=V.mkE V.tys [(58,Ya.con),(143,WM.con)] [(6,[0,1,2,3],[]),(7,[0,1,2,3],[]),(9,[0,1,2,3],[])] [] [] [] []
abbrev Zu.kt (x0:Int)(x1:Int)(x2:Int)(x3:List Int):Kt (Int×Bool):=ktOf Zu.E Zu.con f120 ((x0,x1,x2,x3):Int×Int×Int×List Int)
abbrev Zu.s9 (aD:Int)(aA:Int)(bN:Int)(fI:List Int):St:=⟨[(0, .v false [.vi (bN)]),(1, .v false [.vi (aD)]),(2, .v false [.vi (aA)]),(3, .v false [.val (.sl (ci .nil) fI)])],[]⟩
abbrev Zu.s6 (aI:Int)(aD:Int)(aA:Int)(aE:List Int):St:=⟨[(0, .v false [.vi (aI)]),(1, .v false [.vi (aD)]),(2, .v false [.vi (aA)]),(3, .v false [.val (.sl (ci .nil) aE)])],[]⟩
abbrev Zu.s7 (x0:Int)(x1:Int)(x2:Int)(x3:List Int):St:=⟨[(0, .v false [.vi (x0)]),(1, .v false [.vi (x1)]),(2, .v false [.vi (x2)]),(3, .v false [.val (.sl (ci .nil) x3)])],[]⟩
theorem Zu.r9 (x0:Int)(x1:Int)(x2:Int)(x3:List Int)(aD:Int)(aA:Int)(R6:St->Option (Int×Bool))(bN:Int)(fI:List Int):joinF Zu.E f120.ntmps [1,1,0,0,0,1] [R6] (codeOf f120) (Zu.kt x0 x1 x2 x3) (Zu.s9 aD aA bN fI)=Zu.g9 aD aA (λaI aD aA aE=>R6 (Zu.s6 aI aD aA aE)) bN fI:=by kernel_rfl
theorem Zu.e9 (x0:Int)(x1:Int)(x2:Int)(x3:List Int)(aD:Int)(aA:Int)(R6:St->Option (Int×Bool))(bN:Int)(fI:List Int):jn (joinF Zu.E f120.ntmps [1,1,0,0,0,1] [R6] (codeOf f120) (Zu.kt x0 x1 x2 x3)) (Zu.s9 aD aA bN fI)=Zu.l9 aD aA (λaI aD aA aE=>R6 (Zu.s6 aI aD aA aE)) bN fI:=by
 rw[jn_eq,Zu.r9]
 rfl
theorem Zu.r6 (x0:Int)(x1:Int)(x2:Int)(x3:List Int)(R:St->Option (Int×Bool))(aI:Int)(aD:Int)(aA:Int)(aE:List Int):loopF Zu.E f120.ntmps [1,1,0,0] [] (codeOf f120) (Zu.kt x0 x1 x2 x3) R (Zu.s6 aI aD aA aE)=Zu.g6 (λaI aD aA aE=>R (Zu.s6 aI aD aA aE)) (λbN fI=>jn (joinF Zu.E f120.ntmps [1,1,0,0,0,1] [R] (codeOf f120) (Zu.kt x0 x1 x2 x3)) (Zu.s9 aD aA bN fI)) aI aD aA aE:=by kernel_rfl
theorem Zu.e6 (x0:Int)(x1:Int)(x2:Int)(x3:List Int):∀(n:Nat) (aI:Int) (aD:Int) (aA:Int) (aE:List Int),loopN (loopF Zu.E f120.ntmps [1,1,0,0] [] (codeOf f120) (Zu.kt x0 x1 x2 x3)) n (Zu.s6 aI aD aA aE)=Zu.l6 n aI aD aA aE:=by
 intro n
 induction n with
 |zero=>intros;rw[loopN_z];rfl
 |succ n ih=>
  intro aI aD aA aE
  rw[loopN_s,Zu.r6]
  simp only[Zu.e9,ih]
  first|exact(Zu.u6 ..).symm|rfl
theorem Zu.r7 (x0:Int)(x1:Int)(x2:Int)(x3:List Int):joinF Zu.E f120.ntmps [1] [] (codeOf f120) (Zu.kt x0 x1 x2 x3) (Zu.s7 x0 x1 x2 x3)=Zu.g7 x0 x1 x2 x3 (λaI aD aA aE=>loopN (loopF Zu.E f120.ntmps [1,1,0,0] [] (codeOf f120) (Zu.kt x0 x1 x2 x3)) V.KK (Zu.s6 aI aD aA aE)):=by kernel_rfl
theorem Zu.e7 (x0:Int)(x1:Int)(x2:Int)(x3:List Int):jn (joinF Zu.E f120.ntmps [1] [] (codeOf f120) (Zu.kt x0 x1 x2 x3)) (Zu.s7 x0 x1 x2 x3)=Zu.l7 x0 x1 x2 x3:=by
 rw[jn_eq,Zu.r7]
 simp only[Zu.e6]
 rfl
theorem Zu.v (x0:Int)(x1:Int)(x2:Int)(x3:List Int):V.evBody Zu.E Zu.con f120 ((x0,x1,x2,x3):Int×Int×Int×List Int)=Zu.b x0 x1 x2 x3 (jn (joinF Zu.E f120.ntmps [1] [] (codeOf f120) (Zu.kt x0 x1 x2 x3)) (Zu.s7 x0 x1 x2 x3)):=by kernel_rfl
theorem Zu.eq (x0:Int)(x1:Int)(x2:Int)(x3:List Int):V.evBody Zu.E Zu.con f120 ((x0,x1,x2,x3):Int×Int×Int×List Int)=Zu x0 x1 x2 x3:=by
 rw[Zu.v]
 simp only[Zu.e7]
 rfl
theorem Zu.ok :V.Valid prog 120 Zu.con:=
 V.fo (tab_cons Ya.ok (tab_cons WM.ok tab_nil)) func120 (by kernel_rfl) (λx y h=>(show V.evBody Zu.E Zu.con f120 x=_ from Zu.eq x.1 x.2.1 x.2.2.1 x.2.2.2).trans (V.cfl (by kernel_rfl) h))
abbrev U0.con :V.Con:=⟨(ci (ci (.cons .str (ci (ci (.cons (.sl (.cons .str .nil)) (ci (.cons (.sl (ci .nil)) .nil)))))))),(.cons .bool .nil),λ(x:Int×Int×ByteArray×Int×Int×List ByteArray×Int×List Int)=>U0 x.1 x.2.1 (x.2.2.1,x.2.2.2.1,x.2.2.2.2.1,x.2.2.2.2.2.1) x.2.2.2.2.2.2,[],[(false,1),(false,1),(true,4),(true,2)],[(false,1)],[false],[]⟩
abbrev U0.E :Env:=V.mkE V.tys [(106,WL.con),(107,U2.con),(120,Zu.con),(121,Um.con)] [] [(1,11)] [] [] []
theorem U0.eq (x0:Int)(x1:Int)(x2:Z0)(x3:YC):V.evBody U0.E U0.con f80 ((x0,x1,x2.1,x2.2.1,x2.2.2.1,x2.2.2.2,x3.1,x3.2):Int×Int×ByteArray×Int×Int×List ByteArray×Int×List Int)=U0 x0 x1 x2 x3:=by kernel_rfl
theorem U0.ok :V.Valid prog 80 U0.con:=
 V.fo (tab_cons WL.ok (tab_cons U2.ok (tab_cons Zu.ok (tab_cons Um.ok tab_nil)))) func80 (by kernel_rfl) (λx y h=>(show V.evBody U0.E U0.con f80 x=_ from U0.eq x.1 x.2.1 (x.2.2.1,x.2.2.2.1,x.2.2.2.2.1,x.2.2.2.2.2.1) x.2.2.2.2.2.2).trans (V.cfl (by kernel_rfl) h))
abbrev Uk.con :V.Con:=⟨V.eEntry,(.cons .bool .nil),λ(x:ByteArray×Int×Int×List ByteArray)=>Uk x,[],[(true,4)],[(false,1)],[false],[]⟩
abbrev Uk.E :Env:=V.mkE V.tys [(18,Wb.con)] [] [] [] [] []
theorem Uk.eq (x0:Z0):V.evBody Uk.E Uk.con f82 ((x0.1,x0.2.1,x0.2.2.1,x0.2.2.2):ByteArray×Int×Int×List ByteArray)=Uk x0:=by kernel_rfl
theorem Uk.ok :V.Valid prog 82 Uk.con:=
 V.fo (tab_cons Wb.ok tab_nil) func82 (by kernel_rfl) (λx y h=>(show V.evBody Uk.E Uk.con f82 x=_ from Uk.eq x).trans (V.cfl (by kernel_rfl) h))
abbrev Ul.con :V.Con:=⟨(ci (.cons (.sl (ci .nil)) .nil)),(.cons .bool .nil),λ(x:Int×List Int)=>Ul x,[],[(true,2)],[(false,1)],[false],[]⟩
abbrev Ul.E :Env:=V.mkE V.tys [(31,Wx.con)] [] [] [] [] []
theorem Ul.eq (x0:YC):V.evBody Ul.E Ul.con f83 ((x0.1,x0.2):Int×List Int)=Ul x0:=by kernel_rfl
theorem Ul.ok :V.Valid prog 83 Ul.con:=
 V.fo (tab_cons Wx.ok tab_nil) func83 (by kernel_rfl) (λx y h=>(show V.evBody Ul.E Ul.con f83 x=_ from Ul.eq x).trans (V.cfl (by kernel_rfl) h))
abbrev UB.con :V.Con:=⟨(ci (ci (.cons .str (ci (ci (.cons (.sl (.cons .str .nil)) (ci (.cons (.sl (ci .nil)) (ci .nil))))))))),(.cons .bool .nil),λ(x:Int×Int×ByteArray×Int×Int×List ByteArray×Int×List Int×Int)=>UB x.1 x.2.1 (x.2.2.1,x.2.2.2.1,x.2.2.2.2.1,x.2.2.2.2.2.1) (x.2.2.2.2.2.2.1,x.2.2.2.2.2.2.2.1) x.2.2.2.2.2.2.2.2,[],[(false,1),(false,1),(true,4),(true,2),(false,1)],[(false,1)],[false],[]⟩
abbrev UB.E :Env:=V.mkE V.tys [(58,Ya.con),(80,U0.con),(82,Uk.con),(83,Ul.con)] [] [] [] [] []
theorem UB.eq (x0:Int)(x1:Int)(x2:Z0)(x3:YC)(x4:Int):V.evBody UB.E UB.con f122 ((x0,x1,x2.1,x2.2.1,x2.2.2.1,x2.2.2.2,x3.1,x3.2,x4):Int×Int×ByteArray×Int×Int×List ByteArray×Int×List Int×Int)=UB x0 x1 x2 x3 x4:=by kernel_rfl
theorem UB.ok :V.Valid prog 122 UB.con:=
 V.fo (tab_cons Ya.ok (tab_cons U0.ok (tab_cons Uk.ok (tab_cons Ul.ok tab_nil)))) func122 (by kernel_rfl) (λx y h=>(show V.evBody UB.E UB.con f122 x=_ from UB.eq x.1 x.2.1 (x.2.2.1,x.2.2.2.1,x.2.2.2.2.1,x.2.2.2.2.2.1) (x.2.2.2.2.2.2.1,x.2.2.2.2.2.2.2.1) x.2.2.2.2.2.2.2.2).trans (V.cfl (by kernel_rfl) h))
abbrev ZL.con :V.Con:=⟨V.A16,(.cons .bool .nil),λ(x:V.D16)=>ZL (V.p16_0 x) (V.p16_1 x) (V.p16_2 x) (V.p16_3 x),[],[(false,1),(false,1),(false,1),(true,13)],[(false,1)],[false],[]⟩
abbrev ZL.E :Env:=V.mkE V.tys [(24,ZZ.con),(58,Ya.con),(103,U3.con),(108,Wq.con),(122,UB.con)] [(7,[0,1,2,7],[]),(11,[1,2,7],[])] [] [] [] []
abbrev ZL.kt (x0:Int)(x1:Int)(x2:ByteArray)(x3:Zp):Kt Bool:=ktOf ZL.E ZL.con f81 (V.fl16 x0 x1 x2 x3)
abbrev ZL.s11 (x1:Int)(x2:ByteArray)(x3:Zp):St:=⟨[(1, .v false [.vi (x1)]),(2, .v false [.val (.str x2)]),(7, .v false [.ptr 64000 0])],[(64000, .box (V.lsGap x3))]⟩
abbrev ZL.s7 (x0:Int)(x1:Int)(x2:ByteArray)(x3:Zp):St:=⟨[(0, .v false [.vi (x0)]),(1, .v false [.vi (x1)]),(2, .v false [.val (.str x2)]),(7, .v false [.ptr 64000 0])],[(64000, .box (V.lsGap x3))]⟩
theorem ZL.r11 (x0:Int)(x1:Int)(x2:ByteArray)(x3:Zp):joinF ZL.E f81.ntmps [1,1] [] (codeOf f81) (ZL.kt x0 x1 x2 x3) (ZL.s11 x1 x2 x3)=ZL.g11 x1 x2 x3:=by kernel_rfl
theorem ZL.e11 (x0:Int)(x1:Int)(x2:ByteArray)(x3:Zp):jn (joinF ZL.E f81.ntmps [1,1] [] (codeOf f81) (ZL.kt x0 x1 x2 x3)) (ZL.s11 x1 x2 x3)=ZL.l11 x1 x2 x3:=by
 rw[jn_eq,ZL.r11]
 rfl
theorem ZL.r7 (x0:Int)(x1:Int)(x2:ByteArray)(x3:Zp):joinF ZL.E f81.ntmps [1] [] (codeOf f81) (ZL.kt x0 x1 x2 x3) (ZL.s7 x0 x1 x2 x3)=ZL.g7 x0 x1 x2 x3 (jn (joinF ZL.E f81.ntmps [1,1] [] (codeOf f81) (ZL.kt x0 x1 x2 x3)) (ZL.s11 x1 x2 x3)):=by kernel_rfl
theorem ZL.e7 (x0:Int)(x1:Int)(x2:ByteArray)(x3:Zp):jn (joinF ZL.E f81.ntmps [1] [] (codeOf f81) (ZL.kt x0 x1 x2 x3)) (ZL.s7 x0 x1 x2 x3)=ZL.l7 x0 x1 x2 x3:=by
 rw[jn_eq,ZL.r7]
 simp only[ZL.e11]
 rfl
abbrev ZL.s (x0:Int)(x1:Int)(x2:ByteArray)(x3:Zp):St:=⟨[(0, .v false [.vi (x0)]),(1, .v false [.vi (x1)]),(2, .v false [.val (.str x2)]),(3, .v true (V.lsGap x3))],[]⟩
theorem ZL.v0 (x0:Int)(x1:Int)(x2:ByteArray)(x3:Zp):V.evBody ZL.E ZL.con f81 (V.fl16 x0 x1 x2 x3)=evC ZL.E f81.ntmps (codeOf f81) (ZL.kt x0 x1 x2 x3) (ZL.s x0 x1 x2 x3):=by kernel_rfl
theorem ZL.v (x0:Int)(x1:Int)(x2:ByteArray)(x3:Zp):evC ZL.E f81.ntmps (codeOf f81) (ZL.kt x0 x1 x2 x3) (ZL.s x0 x1 x2 x3)=ZL.b x0 x1 x2 x3 (jn (joinF ZL.E f81.ntmps [1] [] (codeOf f81) (ZL.kt x0 x1 x2 x3)) (ZL.s7 x0 x1 x2 x3)):=by kernel_rfl
theorem ZL.eq (x0:Int)(x1:Int)(x2:ByteArray)(x3:Zp):V.evBody ZL.E ZL.con f81 (V.fl16 x0 x1 x2 x3)=ZL x0 x1 x2 x3:=by
 rw[ZL.v0,ZL.v]
 simp only[ZL.e7]
 rfl
theorem ZL.ok :V.Valid prog 81 ZL.con:=
 V.fo (tab_cons ZZ.ok (tab_cons Ya.ok (tab_cons U3.ok (tab_cons Wq.ok (tab_cons UB.ok tab_nil))))) func81 (by kernel_rfl) (λx y h=>(show V.evBody ZL.E ZL.con f81 x=_ from ZL.eq (V.p16_0 x) (V.p16_1 x) (V.p16_2 x) (V.p16_3 x)).trans (V.cfl (by kernel_rfl) h))
abbrev XK.con :V.Con:=⟨V.A17,(.cons .bool .nil),λ(x:V.D17)=>XK (V.p17_0 x) (V.p17_1 x) (V.p17_2 x),[],[(true,16),(false,1),(true,21)],[(false,1)],[false],[]⟩
abbrev XK.E :Env:=V.mkE V.tys [(32,Xw.con),(80,U0.con),(81,ZL.con),(82,Uk.con),(83,Ul.con)] [] [] [] [] []
abbrev XK.kt (x0:Z5)(x1:ByteArray)(x2:Zi):Kt Bool:=ktOf XK.E XK.con f43 (V.fl17 x0 x1 x2)
abbrev XK.s (x0:Z5)(x1:ByteArray)(x2:Zi):St:=⟨[(0, .v true (V.lsHead x0)),(1, .v false [.val (.str x1)]),(2, .v true (V.lsAnswer x2))],[]⟩
theorem XK.v0 (x0:Z5)(x1:ByteArray)(x2:Zi):V.evBody XK.E XK.con f43 (V.fl17 x0 x1 x2)=evC XK.E f43.ntmps (codeOf f43) (XK.kt x0 x1 x2) (XK.s x0 x1 x2):=by kernel_rfl
theorem XK.v (x0:Z5)(x1:ByteArray)(x2:Zi):evC XK.E f43.ntmps (codeOf f43) (XK.kt x0 x1 x2) (XK.s x0 x1 x2)=XK x0 x1 x2:=by kernel_rfl
theorem XK.eq (x0:Z5)(x1:ByteArray)(x2:Zi):V.evBody XK.E XK.con f43 (V.fl17 x0 x1 x2)=XK x0 x1 x2:=(XK.v0 x0 x1 x2).trans (XK.v x0 x1 x2)
theorem XK.ok :V.Valid prog 43 XK.con:=
 V.fo (tab_cons Xw.ok (tab_cons U0.ok (tab_cons ZL.ok (tab_cons Uk.ok (tab_cons Ul.ok tab_nil))))) func43 (by kernel_rfl) (λx y h=>(show V.evBody XK.E XK.con f43 x=_ from XK.eq (V.p17_0 x) (V.p17_1 x) (V.p17_2 x)).trans (V.cfl (by kernel_rfl) h))
abbrev Xl.con :V.Con:=⟨V.A18,(ci .nil),λ(x:V.D18)=>Xl (V.p18_0 x) (V.p18_1 x) (V.p18_2 x) (V.p18_3 x),[],[(false,1),(false,1),(true,21),(false,1)],[(false,1)],[false],[]⟩
abbrev Xl.E :Env:=V.mkE V.tys [(41,UP.con),(42,XZ.con),(43,XK.con)] [] [] [] [] []
abbrev Xl.kt (x0:Int)(x1:ByteArray)(x2:Zi)(x3:Int):Kt Int:=ktOf Xl.E Xl.con f13 (V.fl18 x0 x1 x2 x3)
abbrev Xl.s (x0:Int)(x1:ByteArray)(x2:Zi)(x3:Int):St:=⟨[(0, .v false [.vi (x0)]),(1, .v false [.val (.str x1)]),(2, .v true (V.lsAnswer x2)),(3, .v false [.vi (x3)])],[]⟩
theorem Xl.v0 (x0:Int)(x1:ByteArray)(x2:Zi)(x3:Int):V.evBody Xl.E Xl.con f13 (V.fl18 x0 x1 x2 x3)=evC Xl.E f13.ntmps (codeOf f13) (Xl.kt x0 x1 x2 x3) (Xl.s x0 x1 x2 x3):=by kernel_rfl
theorem Xl.v (x0:Int)(x1:ByteArray)(x2:Zi)(x3:Int):evC Xl.E f13.ntmps (codeOf f13) (Xl.kt x0 x1 x2 x3) (Xl.s x0 x1 x2 x3)=Xl x0 x1 x2 x3:=by kernel_rfl
theorem Xl.eq (x0:Int)(x1:ByteArray)(x2:Zi)(x3:Int):V.evBody Xl.E Xl.con f13 (V.fl18 x0 x1 x2 x3)=Xl x0 x1 x2 x3:=(Xl.v0 x0 x1 x2 x3).trans (Xl.v x0 x1 x2 x3)
theorem Xl.ok :V.Valid prog 13 Xl.con:=
 V.fo (tab_cons UP.ok (tab_cons XZ.ok (tab_cons XK.ok tab_nil))) func13 (by kernel_rfl) (λx y h=>(show V.evBody Xl.E Xl.con f13 x=_ from Xl.eq (V.p18_0 x) (V.p18_1 x) (V.p18_2 x) (V.p18_3 x)).trans (V.cfl (by kernel_rfl) h))
abbrev WV.con :V.Con:=⟨(.cons (.ptr (.cons (.sl (.cons (.int .u8) .nil)) (ci (ci .nil)))) (ci (.cons (.sl (ci .nil)) .nil))),(.cons (.ptr (.cons (.sl (.cons (.int .u8) .nil)) (ci (ci .nil)))) (.cons (.sl (ci .nil)) (ci (.cons (.sl (ci .nil)) .nil)))),λ(x:(Z3)×Int×List Int)=>WV x.1 x.2,[(0,false),(2,true)],[(false,1),(true,2)],[(true,2)],[false,true],[]⟩
abbrev WV.E :Env:=V.mkE V.tys [(46,Zb.con),(130,Xq.con)] [] [(6,7)] [] [] []
theorem WV.eq (x0:(Z3))(x1:YC):V.evBody WV.E WV.con f88 ((x0,x1.1,x1.2):(Z3)×Int×List Int)=WV x0 x1:=by kernel_rfl
theorem WV.ok :V.Valid prog 88 WV.con:=
 V.fo (tab_cons Zb.ok (tab_cons Xq.ok tab_nil)) func88 (by kernel_rfl) (λx y h=>(show V.evBody WV.E WV.con f88 x=_ from WV.eq x.1 x.2).trans (V.cfl (by kernel_rfl) h))
abbrev XS.con :V.Con:=⟨V.A19,(.cons (.ptr (.cons (.sl (.cons (.int .u8) .nil)) (ci (ci .nil)))) (.cons (.sl (.cons .str .nil)) (.cons (.sl (.cons .str .nil)) (.cons (.sl (ci .nil)) (.cons (.sl (ci .nil)) (ci (.cons .str (ci (ci (.cons (.sl (.cons .str .nil)) (.cons .str (ci (ci (.cons (.sl (.cons .str .nil)) (ci (.cons (.sl (ci .nil)) (ci (.cons (.sl (ci .nil)) .nil)))))))))))))))))),λ(x:V.D19)=>XS (V.p19_0 x) (V.p19_1 x),[(0,false),(5,true),(9,true),(11,true),(13,true)],[(false,1),(true,13)],[(true,13)],[false,false,false,false,true,false,false,false,true,false,true,false,true],[]⟩
abbrev XS.E :Env:=V.mkE V.tys [(46,Zb.con),(88,WV.con),(130,Xq.con)] [] [] [] [] []
abbrev XS.kt (x0:(Z3))(x1:Zp):Kt ((Z3)×List ByteArray×List ByteArray×List Int×List Int×Int×ByteArray×Int×Int×List ByteArray×ByteArray×Int×Int×List ByteArray×Int×List Int×Int×List Int):=ktOf XS.E XS.con f89 (V.fl19 x0 x1)
abbrev XS.s (x0:(Z3))(x1:Zp):St:=⟨[(0, .v false [.ptr 0 0]),(1, .v true [.vi (x1.1), .val (.str x1.2.1), .vi (x1.2.2.1), .vi (x1.2.2.2.1), .ref 5, .val (.str x1.2.2.2.2.2.1), .vi (x1.2.2.2.2.2.2.1), .vi (x1.2.2.2.2.2.2.2.1), .ref 9, .vi (x1.2.2.2.2.2.2.2.2.2.1), .ref 11, .vi (x1.2.2.2.2.2.2.2.2.2.2.2.1), .ref 13])],[(0, .box [.val (.sl (.cons (.int .u8) .nil) x0.1), .vi (x0.2.1), .vi (x0.2.2)]),(5, .row (.cons .str .nil) true x1.2.2.2.2.1),(9, .row (.cons .str .nil) true x1.2.2.2.2.2.2.2.2.1),(11, .row (ci .nil) true x1.2.2.2.2.2.2.2.2.2.2.1),(13, .row (ci .nil) true x1.2.2.2.2.2.2.2.2.2.2.2.2)]⟩
theorem XS.v0 (x0:(Z3))(x1:Zp):V.evBody XS.E XS.con f89 (V.fl19 x0 x1)=evC XS.E f89.ntmps (codeOf f89) (XS.kt x0 x1) (XS.s x0 x1):=by kernel_rfl
theorem XS.v (x0:(Z3))(x1:Zp):evC XS.E f89.ntmps (codeOf f89) (XS.kt x0 x1) (XS.s x0 x1)=XS x0 x1:=by kernel_rfl
theorem XS.eq (x0:(Z3))(x1:Zp):V.evBody XS.E XS.con f89 (V.fl19 x0 x1)=XS x0 x1:=(XS.v0 x0 x1).trans (XS.v x0 x1)
theorem XS.ok :V.Valid prog 89 XS.con:=
 V.fo (tab_cons Zb.ok (tab_cons WV.ok (tab_cons Xq.ok tab_nil))) func89 (by kernel_rfl) (λx y h=>(show V.evBody XS.E XS.con f89 x=_ from XS.eq (V.p19_0 x) (V.p19_1 x)).trans (V.cfl (by kernel_rfl) h))
abbrev XU.con :V.Con:=⟨V.A20,(.cons (.ptr (.cons (.sl (.cons (.int .u8) .nil)) (ci (ci .nil)))) (.cons (.sl V.eSigned) (.cons (.sl (.cons .str .nil)) (.cons (.sl (ci .nil)) (.cons (.sl (.cons .str .nil)) (.cons (.sl (.cons .str .nil)) (.cons (.sl (ci .nil)) (.cons (.sl (ci .nil)) (.cons (.sl V.eSigned) (.cons .bool (.cons .str (ci (ci (.cons (.sl (.cons .str .nil)) (ci (.cons (.sl (ci .nil)) (ci (.cons .str (ci (ci (.cons (.sl (.cons .str .nil)) (.cons .str (ci (ci (.cons (.sl (.cons .str .nil)) (ci (.cons (.sl (ci .nil)) (ci (.cons (.sl (ci .nil)) .nil))))))))))))))))))))))))))))),λ(x:V.D20)=>XU (V.p20_0 x) (V.p20_1 x),[(0,false),(1,true),(6,true),(8,true),(13,true),(17,true),(19,true),(21,true)],[(false,1),(true,21)],[(true,21)],[true,false,false,false,false,true,false,true,false,false,false,false,true,false,false,false,true,false,true,false,true],[]⟩
abbrev XU.E :Env:=V.mkE V.tys [(46,Zb.con),(88,WV.con),(89,XS.con),(90,Wm.con)] [] [(18,11)] [] [] []
abbrev XU.kt (x0:(Z3))(x1:Zi):Kt ((Z3)×List Z4×List ByteArray×List Int×List ByteArray×List ByteArray×List Int×List Int×List Z4×Bool×ByteArray×Int×Int×List ByteArray×Int×List Int×Int×ByteArray×Int×Int×List ByteArray×ByteArray×Int×Int×List ByteArray×Int×List Int×Int×List Int):=ktOf XU.E XU.con f45 (V.fl20 x0 x1)
abbrev XU.s (x0:(Z3))(x1:Zi):St:=⟨[(0, .v false [.ptr 0 0]),(1, .v true [.ref 1, .val (.bool x1.2.1), .val (.str x1.2.2.1), .vi (x1.2.2.2.1), .vi (x1.2.2.2.2.1), .ref 6, .vi (x1.2.2.2.2.2.2.1), .ref 8, .vi (x1.2.2.2.2.2.2.2.2.1), .val (.str x1.2.2.2.2.2.2.2.2.2.1), .vi (x1.2.2.2.2.2.2.2.2.2.2.1), .vi (x1.2.2.2.2.2.2.2.2.2.2.2.1), .ref 13, .val (.str x1.2.2.2.2.2.2.2.2.2.2.2.2.2.1), .vi (x1.2.2.2.2.2.2.2.2.2.2.2.2.2.2.1), .vi (x1.2.2.2.2.2.2.2.2.2.2.2.2.2.2.2.1), .ref 17, .vi (x1.2.2.2.2.2.2.2.2.2.2.2.2.2.2.2.2.2.1), .ref 19, .vi (x1.2.2.2.2.2.2.2.2.2.2.2.2.2.2.2.2.2.2.2.1), .ref 21])],[(0, .box [.val (.sl (.cons (.int .u8) .nil) x0.1), .vi (x0.2.1), .vi (x0.2.2)]),(1, .row V.eSigned true x1.1),(6, .row (.cons .str .nil) true x1.2.2.2.2.2.1),(8, .row (ci .nil) true x1.2.2.2.2.2.2.2.1),(13, .row (.cons .str .nil) true x1.2.2.2.2.2.2.2.2.2.2.2.2.1),(17, .row (.cons .str .nil) true x1.2.2.2.2.2.2.2.2.2.2.2.2.2.2.2.2.1),(19, .row (ci .nil) true x1.2.2.2.2.2.2.2.2.2.2.2.2.2.2.2.2.2.2.1),(21, .row (ci .nil) true x1.2.2.2.2.2.2.2.2.2.2.2.2.2.2.2.2.2.2.2.2)]⟩
theorem XU.v0 (x0:(Z3))(x1:Zi):V.evBody XU.E XU.con f45 (V.fl20 x0 x1)=evC XU.E f45.ntmps (codeOf f45) (XU.kt x0 x1) (XU.s x0 x1):=by kernel_rfl
theorem XU.v (x0:(Z3))(x1:Zi):evC XU.E f45.ntmps (codeOf f45) (XU.kt x0 x1) (XU.s x0 x1)=XU x0 x1:=by kernel_rfl
theorem XU.eq (x0:(Z3))(x1:Zi):V.evBody XU.E XU.con f45 (V.fl20 x0 x1)=XU x0 x1:=(XU.v0 x0 x1).trans (XU.v x0 x1)
theorem XU.ok :V.Valid prog 45 XU.con:=
 V.fo (tab_cons Zb.ok (tab_cons WV.ok (tab_cons XS.ok (tab_cons Wm.ok tab_nil)))) func45 (by kernel_rfl) (λx y h=>(show V.evBody XU.E XU.con f45 x=_ from XU.eq (V.p20_0 x) (V.p20_1 x)).trans (V.cfl (by kernel_rfl) h))
abbrev ZX.con :V.Con:=⟨(.cons (.sl (.cons (.int .u8) .nil)) .nil),V.eRIntStrAnswerInt,λ(x:List Int)=>ZX x,[],[(false,1)],[(false,1),(false,1),(true,21),(false,1)],[false,false,true,false,false,false,false,true,false,true,false,false,false,false,true,false,false,false,true,false,true,false,true,false],[]⟩
abbrev ZX.E :Env:=V.mkE V.tys [(8,X7.con),(11,Xs.con),(20,ZG.con),(22,X1.con),(44,ZN.con),(45,XU.con),(46,Zb.con),(47,Wj.con)] [(15,[4,6,8,9,10,12],[]),(31,[4,8,9,12,13],[])] [(15,6)] [] [(15,[3])] [(6,[1000]),(14,[1000])]
abbrev ZX.kt (x0:List Int):Kt Ux:=ktOf ZX.E ZX.con f15 ((x0):List Int)
abbrev ZX.s31 (y5:(Z3)×List Z4×List ByteArray×List Int×List ByteArray×List ByteArray×List Int×List Int×List Z4×Bool×ByteArray×Int×Int×List ByteArray×Int×List Int×Int×ByteArray×Int×Int×List ByteArray×ByteArray×Int×Int×List ByteArray×Int×List Int×Int×List Int)(bP:ByteArray)(cB:Int)(f0:Int):St:=⟨[(4, .v false [.ptr 64128 0]),(8, .v false [.val (.str bP)]),(9, .v false [.ptr 320320 0]),(12, .v false [.vi (cB)]),(13, .v false [.vi (f0)])],[(64128, .box [.nil0, .val (.bool false), .val (.str (⟨#[]⟩:ByteArray)), .vi ((0:Int)), .vi ((0:Int)), .nil0, .vi ((0:Int)), .nil0, .vi ((0:Int)), .val (.str (⟨#[]⟩:ByteArray)), .vi ((0:Int)), .vi ((0:Int)), .nil0, .val (.str (⟨#[]⟩:ByteArray)), .vi ((0:Int)), .vi ((0:Int)), .nil0, .vi ((0:Int)), .nil0, .vi ((0:Int)), .nil0]),(320320, .box [.ref 64000000000020500480, .val (.bool y5.2.2.2.2.2.2.2.2.2.1), .val (.str y5.2.2.2.2.2.2.2.2.2.2.1), .vi (y5.2.2.2.2.2.2.2.2.2.2.2.1), .vi (y5.2.2.2.2.2.2.2.2.2.2.2.2.1), .ref 64000000000020500485, .vi (y5.2.2.2.2.2.2.2.2.2.2.2.2.2.2.1), .ref 64000000000020500487, .vi (y5.2.2.2.2.2.2.2.2.2.2.2.2.2.2.2.2.1), .val (.str y5.2.2.2.2.2.2.2.2.2.2.2.2.2.2.2.2.2.1), .vi (y5.2.2.2.2.2.2.2.2.2.2.2.2.2.2.2.2.2.2.1), .vi (y5.2.2.2.2.2.2.2.2.2.2.2.2.2.2.2.2.2.2.2.1), .ref 64000000000020500492, .val (.str y5.2.2.2.2.2.2.2.2.2.2.2.2.2.2.2.2.2.2.2.2.2.1), .vi (y5.2.2.2.2.2.2.2.2.2.2.2.2.2.2.2.2.2.2.2.2.2.2.1), .vi (y5.2.2.2.2.2.2.2.2.2.2.2.2.2.2.2.2.2.2.2.2.2.2.2.1), .ref 64000000000020500496, .vi (y5.2.2.2.2.2.2.2.2.2.2.2.2.2.2.2.2.2.2.2.2.2.2.2.2.2.1), .ref 64000000000020500498, .vi (y5.2.2.2.2.2.2.2.2.2.2.2.2.2.2.2.2.2.2.2.2.2.2.2.2.2.2.2.1), .ref 64000000000020500500]),(64000000000020500480, .row V.eSigned true y5.2.2.2.2.2.2.2.2.1),(64000000000020500485, .row (.cons .str .nil) true y5.2.2.2.2.2.2.2.2.2.2.2.2.2.1),(64000000000020500487, .row (ci .nil) true y5.2.2.2.2.2.2.2.2.2.2.2.2.2.2.2.1),(64000000000020500492, .row (.cons .str .nil) true y5.2.2.2.2.2.2.2.2.2.2.2.2.2.2.2.2.2.2.2.2.1),(64000000000020500496, .row (.cons .str .nil) true y5.2.2.2.2.2.2.2.2.2.2.2.2.2.2.2.2.2.2.2.2.2.2.2.2.1),(64000000000020500498, .row (ci .nil) true y5.2.2.2.2.2.2.2.2.2.2.2.2.2.2.2.2.2.2.2.2.2.2.2.2.2.2.1),(64000000000020500500, .row (ci .nil) true y5.2.2.2.2.2.2.2.2.2.2.2.2.2.2.2.2.2.2.2.2.2.2.2.2.2.2.2.2)]⟩
abbrev ZX.s15 (y1:(Z3))(y3:(Z3)×ByteArray)(y5:(Z3)×List Z4×List ByteArray×List Int×List ByteArray×List ByteArray×List Int×List Int×List Z4×Bool×ByteArray×Int×Int×List ByteArray×Int×List Int×Int×ByteArray×Int×Int×List ByteArray×ByteArray×Int×Int×List ByteArray×Int×List Int×Int×List Int)(y6:ZQ)(dK:Int)(bQ:Int)(eN:Int):St:=⟨[(4, .v false [.ptr 64128 0]),(6, .v false [.ptr 128064 0]),(8, .v false [.val (.str y3.2)]),(9, .v false [.ptr 320320 0]),(10, .v false [.ptr 384384 0]),(12, .v false [.vi (dK)])],[(64128, .box [.nil0, .val (.bool false), .val (.str (⟨#[]⟩:ByteArray)), .vi ((0:Int)), .vi ((0:Int)), .nil0, .vi ((0:Int)), .nil0, .vi ((0:Int)), .val (.str (⟨#[]⟩:ByteArray)), .vi ((0:Int)), .vi ((0:Int)), .nil0, .val (.str (⟨#[]⟩:ByteArray)), .vi ((0:Int)), .vi ((0:Int)), .nil0, .vi ((0:Int)), .nil0, .vi ((0:Int)), .nil0]),(128064, .box [.val (.sl (.cons (.int .u8) .nil) y1.1), .vi (bQ), .vi (eN)]),(320320, .box [.ref 64000000000020500480, .val (.bool y5.2.2.2.2.2.2.2.2.2.1), .val (.str y5.2.2.2.2.2.2.2.2.2.2.1), .vi (y5.2.2.2.2.2.2.2.2.2.2.2.1), .vi (y5.2.2.2.2.2.2.2.2.2.2.2.2.1), .ref 64000000000020500485, .vi (y5.2.2.2.2.2.2.2.2.2.2.2.2.2.2.1), .ref 64000000000020500487, .vi (y5.2.2.2.2.2.2.2.2.2.2.2.2.2.2.2.2.1), .val (.str y5.2.2.2.2.2.2.2.2.2.2.2.2.2.2.2.2.2.1), .vi (y5.2.2.2.2.2.2.2.2.2.2.2.2.2.2.2.2.2.2.1), .vi (y5.2.2.2.2.2.2.2.2.2.2.2.2.2.2.2.2.2.2.2.1), .ref 64000000000020500492, .val (.str y5.2.2.2.2.2.2.2.2.2.2.2.2.2.2.2.2.2.2.2.2.2.1), .vi (y5.2.2.2.2.2.2.2.2.2.2.2.2.2.2.2.2.2.2.2.2.2.2.1), .vi (y5.2.2.2.2.2.2.2.2.2.2.2.2.2.2.2.2.2.2.2.2.2.2.2.1), .ref 64000000000020500496, .vi (y5.2.2.2.2.2.2.2.2.2.2.2.2.2.2.2.2.2.2.2.2.2.2.2.2.2.1), .ref 64000000000020500498, .vi (y5.2.2.2.2.2.2.2.2.2.2.2.2.2.2.2.2.2.2.2.2.2.2.2.2.2.2.2.1), .ref 64000000000020500500]),(64000000000020500480, .row V.eSigned true y5.2.2.2.2.2.2.2.2.1),(64000000000020500485, .row (.cons .str .nil) true y5.2.2.2.2.2.2.2.2.2.2.2.2.2.1),(64000000000020500487, .row (ci .nil) true y5.2.2.2.2.2.2.2.2.2.2.2.2.2.2.2.1),(64000000000020500492, .row (.cons .str .nil) true y5.2.2.2.2.2.2.2.2.2.2.2.2.2.2.2.2.2.2.2.2.1),(64000000000020500496, .row (.cons .str .nil) true y5.2.2.2.2.2.2.2.2.2.2.2.2.2.2.2.2.2.2.2.2.2.2.2.2.1),(64000000000020500498, .row (ci .nil) true y5.2.2.2.2.2.2.2.2.2.2.2.2.2.2.2.2.2.2.2.2.2.2.2.2.2.2.1),(64000000000020500500, .row (ci .nil) true y5.2.2.2.2.2.2.2.2.2.2.2.2.2.2.2.2.2.2.2.2.2.2.2.2.2.2.2.2),(384384, .box [.vi (y6.1), .vi (y6.2.1), .vi (y6.2.2.1), .vi (y6.2.2.2.1), .vi (y6.2.2.2.2.1), .vi (y6.2.2.2.2.2.1), .vi (y6.2.2.2.2.2.2.1), .vi (y6.2.2.2.2.2.2.2.1), .ref 64000000000024600584, .vi (y6.2.2.2.2.2.2.2.2.2.1), .ref 64000000000024600586, .vi (y6.2.2.2.2.2.2.2.2.2.2.2.1), .vi (y6.2.2.2.2.2.2.2.2.2.2.2.2.1), .ref 64000000000024600589, .vi (y6.2.2.2.2.2.2.2.2.2.2.2.2.2.2.1), .val (.bool y6.2.2.2.2.2.2.2.2.2.2.2.2.2.2.2.1)]),(64000000000024600584, .row (ci .nil) true y6.2.2.2.2.2.2.2.2.1),(64000000000024600586, .row (ci .nil) true y6.2.2.2.2.2.2.2.2.2.2.1),(64000000000024600589, .row (ci .nil) true y6.2.2.2.2.2.2.2.2.2.2.2.2.2.1)]⟩
theorem ZX.r31 (x0:List Int)(y5:(Z3)×List Z4×List ByteArray×List Int×List ByteArray×List ByteArray×List Int×List Int×List Z4×Bool×ByteArray×Int×Int×List ByteArray×Int×List Int×Int×ByteArray×Int×Int×List ByteArray×ByteArray×Int×Int×List ByteArray×Int×List Int×Int×List Int)(bP:ByteArray)(cB:Int)(f0:Int):joinF ZX.E f15.ntmps [1,1,1,1,1,1,1,1] [] (codeOf f15) (ZX.kt x0) (ZX.s31 y5 bP cB f0)=ZX.g31 y5 bP cB f0:=by kernel_rfl
theorem ZX.e31 (x0:List Int)(y5:(Z3)×List Z4×List ByteArray×List Int×List ByteArray×List ByteArray×List Int×List Int×List Z4×Bool×ByteArray×Int×Int×List ByteArray×Int×List Int×Int×ByteArray×Int×Int×List ByteArray×ByteArray×Int×Int×List ByteArray×Int×List Int×Int×List Int)(bP:ByteArray)(cB:Int)(f0:Int):jn (joinF ZX.E f15.ntmps [1,1,1,1,1,1,1,1] [] (codeOf f15) (ZX.kt x0)) (ZX.s31 y5 bP cB f0)=ZX.l31 y5 bP cB f0:=by
 rw[jn_eq,ZX.r31]
 rfl
theorem ZX.r15 (x0:List Int)(y1:(Z3))(y3:(Z3)×ByteArray)(y5:(Z3)×List Z4×List ByteArray×List Int×List ByteArray×List ByteArray×List Int×List Int×List Z4×Bool×ByteArray×Int×Int×List ByteArray×Int×List Int×Int×ByteArray×Int×Int×List ByteArray×ByteArray×Int×Int×List ByteArray×Int×List Int×Int×List Int)(y6:ZQ)(dK:Int)(bQ:Int)(eN:Int):joinF ZX.E f15.ntmps [1,1,1,1,1,1] [] (codeOf f15) (ZX.kt x0) (ZX.s15 y1 y3 y5 y6 dK bQ eN)=ZX.g15 y1 y3 y5 y6 (λy5 bP cB f0=>jn (joinF ZX.E f15.ntmps [1,1,1,1,1,1,1,1] [] (codeOf f15) (ZX.kt x0)) (ZX.s31 y5 bP cB f0)) dK bQ eN:=by kernel_rfl
theorem ZX.e15 (x0:List Int)(y1:(Z3))(y3:(Z3)×ByteArray)(y5:(Z3)×List Z4×List ByteArray×List Int×List ByteArray×List ByteArray×List Int×List Int×List Z4×Bool×ByteArray×Int×Int×List ByteArray×Int×List Int×Int×ByteArray×Int×Int×List ByteArray×ByteArray×Int×Int×List ByteArray×Int×List Int×Int×List Int)(y6:ZQ)(dK:Int)(bQ:Int)(eN:Int):jn (joinF ZX.E f15.ntmps [1,1,1,1,1,1] [] (codeOf f15) (ZX.kt x0)) (ZX.s15 y1 y3 y5 y6 dK bQ eN)=ZX.l15 y1 y3 y5 y6 dK bQ eN:=by
 rw[jn_eq,ZX.r15]
 simp only[ZX.e31]
 rfl
theorem ZX.v (x0:List Int):V.evBody ZX.E ZX.con f15 ((x0):List Int)=ZX.b x0 (λy1 y3 y5 y6 dK bQ eN=>jn (joinF ZX.E f15.ntmps [1,1,1,1,1,1] [] (codeOf f15) (ZX.kt x0)) (ZX.s15 y1 y3 y5 y6 dK bQ eN)):=by kernel_rfl
theorem ZX.eq (x0:List Int):V.evBody ZX.E ZX.con f15 ((x0):List Int)=ZX x0:=by
 rw[ZX.v]
 simp only[ZX.e15]
 rfl
theorem ZX.ok :V.Valid prog 15 ZX.con:=
 V.fo (tab_cons X7.ok (tab_cons Xs.ok (tab_cons ZG.ok (tab_cons X1.ok (tab_cons ZN.ok (tab_cons XU.ok (tab_cons Zb.ok (tab_cons Wj.ok tab_nil)))))))) func15 (by kernel_rfl) (λx y h=>(show V.evBody ZX.E ZX.con f15 x=_ from ZX.eq x).trans (V.cfl (by kernel_rfl) h))
abbrev Yv.con :V.Con:=⟨V.A18,V.eREntryBool,λ(x:V.D18)=>Yv (V.p18_0 x) (V.p18_1 x) (V.p18_2 x) (V.p18_3 x),[],[(false,1),(false,1),(true,21),(false,1)],[(true,4),(false,1)],[false,false,false,true,false],[]⟩
abbrev Yv.E :Env:=V.mkE V.tys [(13,Xl.con),(27,Ws.con)] [(5,[6,8,20],[])] [] [] [] []
abbrev Yv.kt (x0:Int)(x1:ByteArray)(x2:Zi)(x3:Int):Kt QE:=ktOf Yv.E Yv.con f16 (V.fl18 x0 x1 x2 x3)
abbrev Yv.s5 (x2:Zi)(bM:Bool):St:=⟨[(6, .v false [.ptr 64000 0]),(8, .v false [.ptr 64064 0]),(20, .v false [.val (.bool bM)])],[(64000, .box (V.lsAnswer x2)),(64064, .box [.val (.str (⟨#[]⟩:ByteArray)), .vi ((0:Int)), .vi ((0:Int)), .nil0])]⟩
theorem Yv.r5 (x0:Int)(x1:ByteArray)(x2:Zi)(x3:Int)(bM:Bool):joinF Yv.E f16.ntmps [1,0] [] (codeOf f16) (Yv.kt x0 x1 x2 x3) (Yv.s5 x2 bM)=Yv.g5 x2 bM:=by kernel_rfl
theorem Yv.e5 (x0:Int)(x1:ByteArray)(x2:Zi)(x3:Int)(bM:Bool):jn (joinF Yv.E f16.ntmps [1,0] [] (codeOf f16) (Yv.kt x0 x1 x2 x3)) (Yv.s5 x2 bM)=Yv.l5 x2 bM:=by
 rw[jn_eq,Yv.r5]
 rfl
abbrev Yv.s (x0:Int)(x1:ByteArray)(x2:Zi)(x3:Int):St:=⟨[(0, .v false [.vi (x0)]),(1, .v false [.val (.str x1)]),(2, .v true (V.lsAnswer x2)),(3, .v false [.vi (x3)])],[]⟩
theorem Yv.v0 (x0:Int)(x1:ByteArray)(x2:Zi)(x3:Int):V.evBody Yv.E Yv.con f16 (V.fl18 x0 x1 x2 x3)=evC Yv.E f16.ntmps (codeOf f16) (Yv.kt x0 x1 x2 x3) (Yv.s x0 x1 x2 x3):=by kernel_rfl
theorem Yv.v (x0:Int)(x1:ByteArray)(x2:Zi)(x3:Int):evC Yv.E f16.ntmps (codeOf f16) (Yv.kt x0 x1 x2 x3) (Yv.s x0 x1 x2 x3)=Yv.b x0 x1 x2 x3 (λbM=>jn (joinF Yv.E f16.ntmps [1,0] [] (codeOf f16) (Yv.kt x0 x1 x2 x3)) (Yv.s5 x2 bM)):=by kernel_rfl
theorem Yv.eq (x0:Int)(x1:ByteArray)(x2:Zi)(x3:Int):V.evBody Yv.E Yv.con f16 (V.fl18 x0 x1 x2 x3)=Yv x0 x1 x2 x3:=by
 rw[Yv.v0,Yv.v]
 simp only[Yv.e5]
 rfl
theorem Yv.ok :V.Valid prog 16 Yv.con:=
 V.fo (tab_cons Xl.ok (tab_cons Ws.ok tab_nil)) func16 (by kernel_rfl) (λx y h=>(show V.evBody Yv.E Yv.con f16 x=_ from Yv.eq (V.p18_0 x) (V.p18_1 x) (V.p18_2 x) (V.p18_3 x)).trans (V.cfl (by kernel_rfl) h))
abbrev W0.con :V.Con:=⟨V.A15,(.cons .bool .nil),λ(x:V.D15)=>W0 (V.p15_0 x) (V.p15_1 x),[],[(true,16),(false,1)],[(false,1)],[false],[]⟩
abbrev W0.E :Env:=V.mkE V.tys [(38,ZW.con)] [] [] [] [] []
abbrev W0.kt (x0:Z5)(x1:Int):Kt Bool:=ktOf W0.E W0.con f48 (V.fl15 x0 x1)
abbrev W0.s (x0:Z5)(x1:Int):St:=⟨[(0, .v true (V.lsHead x0)),(1, .v false [.vi (x1)])],[]⟩
theorem W0.v0 (x0:Z5)(x1:Int):V.evBody W0.E W0.con f48 (V.fl15 x0 x1)=evC W0.E f48.ntmps (codeOf f48) (W0.kt x0 x1) (W0.s x0 x1):=by kernel_rfl
theorem W0.v (x0:Z5)(x1:Int):evC W0.E f48.ntmps (codeOf f48) (W0.kt x0 x1) (W0.s x0 x1)=W0 x0 x1:=by kernel_rfl
theorem W0.eq (x0:Z5)(x1:Int):V.evBody W0.E W0.con f48 (V.fl15 x0 x1)=W0 x0 x1:=(W0.v0 x0 x1).trans (W0.v x0 x1)
theorem W0.ok :V.Valid prog 48 W0.con:=
 V.fo (tab_cons ZW.ok tab_nil) func48 (by kernel_rfl) (λx y h=>(show V.evBody W0.E W0.con f48 x=_ from W0.eq (V.p15_0 x) (V.p15_1 x)).trans (V.cfl (by kernel_rfl) h))
abbrev Zj.con :V.Con:=⟨(ci (ci (ci (.cons (.sl (ci .nil)) .nil)))),(ci (.cons .bool .nil)),λ(x:Int×Int×Int×List Int)=>Zj x.1 x.2.1 x.2.2.1 x.2.2.2,[],[(false,1),(false,1),(false,1),(false,1)],[(false,1),(false,1)],[false,false],[]⟩
abbrev Zj.E :Env:=V.mkE V.tys [(38,ZW.con),(151,WT.con)] [(7,[0,1,2,3],[]),(8,[0,1,2,3,10],[]),(13,[0,1,2,3,10,31],[]),(25,[0,1,2,3,10],[])] [] [] [] []
abbrev Zj.kt (x0:Int)(x1:Int)(x2:Int)(x3:List Int):Kt (Int×Bool):=ktOf Zj.E Zj.con f131 ((x0,x1,x2,x3):Int×Int×Int×List Int)
abbrev Zj.s25 (x3:List Int)(aH:Int)(aF:Int)(bB:Int)(eS:Int):St:=⟨[(0, .v false [.vi (bB)]),(1, .v false [.vi (aH)]),(2, .v false [.vi (aF)]),(3, .v false [.val (.sl (ci .nil) x3)]),(10, .v false [.vi (eS)])],[]⟩
abbrev Zj.s13 (x3:List Int)(aO:Int)(aH:Int)(aF:Int)(aQ:Int)(eK:Bool):St:=⟨[(0, .v false [.vi (aO)]),(1, .v false [.vi (aH)]),(2, .v false [.vi (aF)]),(3, .v false [.val (.sl (ci .nil) x3)]),(10, .v false [.vi (aQ)]),(31, .v false [.val (.bool eK)])],[]⟩
abbrev Zj.s8 (x3:List Int)(aO:Int)(aH:Int)(aF:Int)(aQ:Int):St:=⟨[(0, .v false [.vi (aO)]),(1, .v false [.vi (aH)]),(2, .v false [.vi (aF)]),(3, .v false [.val (.sl (ci .nil) x3)]),(10, .v false [.vi (aQ)])],[]⟩
abbrev Zj.s7 (x0:Int)(x1:Int)(x2:Int)(x3:List Int):St:=⟨[(0, .v false [.vi (x0)]),(1, .v false [.vi (x1)]),(2, .v false [.vi (x2)]),(3, .v false [.val (.sl (ci .nil) x3)])],[]⟩
theorem Zj.r25 (x0:Int)(x1:Int)(x2:Int)(x3:List Int)(aH:Int)(aF:Int)(R8:St->Option (Int×Bool))(bB:Int)(eS:Int):joinF Zj.E f131.ntmps [1,1,1,0,0,0,1,0] [R8] (codeOf f131) (Zj.kt x0 x1 x2 x3) (Zj.s25 x3 aH aF bB eS)=Zj.g25 x3 aH aF (λaO aH aF aQ=>R8 (Zj.s8 x3 aO aH aF aQ)) bB eS:=by kernel_rfl
theorem Zj.e25 (x0:Int)(x1:Int)(x2:Int)(x3:List Int)(aH:Int)(aF:Int)(R8:St->Option (Int×Bool))(bB:Int)(eS:Int):jn (joinF Zj.E f131.ntmps [1,1,1,0,0,0,1,0] [R8] (codeOf f131) (Zj.kt x0 x1 x2 x3)) (Zj.s25 x3 aH aF bB eS)=Zj.l25 x3 aH aF (λaO aH aF aQ=>R8 (Zj.s8 x3 aO aH aF aQ)) bB eS:=by
 rw[jn_eq,Zj.r25]
 rfl
theorem Zj.r13 (x0:Int)(x1:Int)(x2:Int)(x3:List Int)(aO:Int)(aH:Int)(aF:Int)(aQ:Int)(R8:St->Option (Int×Bool))(eK:Bool):joinF Zj.E f131.ntmps [1,1,1,0,0,0,1,0,0] [R8] (codeOf f131) (Zj.kt x0 x1 x2 x3) (Zj.s13 x3 aO aH aF aQ eK)=Zj.g13 x3 aO aH aF aQ (λaO aH aF aQ=>R8 (Zj.s8 x3 aO aH aF aQ)) (λbB eS=>jn (joinF Zj.E f131.ntmps [1,1,1,0,0,0,1,0] [R8] (codeOf f131) (Zj.kt x0 x1 x2 x3)) (Zj.s25 x3 aH aF bB eS)) eK:=by kernel_rfl
theorem Zj.e13 (x0:Int)(x1:Int)(x2:Int)(x3:List Int)(aO:Int)(aH:Int)(aF:Int)(aQ:Int)(R8:St->Option (Int×Bool))(eK:Bool):jn (joinF Zj.E f131.ntmps [1,1,1,0,0,0,1,0,0] [R8] (codeOf f131) (Zj.kt x0 x1 x2 x3)) (Zj.s13 x3 aO aH aF aQ eK)=Zj.l13 x3 aO aH aF aQ (λaO aH aF aQ=>R8 (Zj.s8 x3 aO aH aF aQ)) eK:=by
 rw[jn_eq,Zj.r13]
 simp only[Zj.e25]
 rfl
theorem Zj.r8 (x0:Int)(x1:Int)(x2:Int)(x3:List Int)(R:St->Option (Int×Bool))(aO:Int)(aH:Int)(aF:Int)(aQ:Int):loopF Zj.E f131.ntmps [1,1,1,0,0] [] (codeOf f131) (Zj.kt x0 x1 x2 x3) R (Zj.s8 x3 aO aH aF aQ)=Zj.g8 x3 (λaO aH aF aQ=>R (Zj.s8 x3 aO aH aF aQ)) (λeK=>jn (joinF Zj.E f131.ntmps [1,1,1,0,0,0,1,0,0] [R] (codeOf f131) (Zj.kt x0 x1 x2 x3)) (Zj.s13 x3 aO aH aF aQ eK)) aO aH aF aQ:=by kernel_rfl
theorem Zj.e8 (x0:Int)(x1:Int)(x2:Int)(x3:List Int):∀(n:Nat) (aO:Int) (aH:Int) (aF:Int) (aQ:Int),loopN (loopF Zj.E f131.ntmps [1,1,1,0,0] [] (codeOf f131) (Zj.kt x0 x1 x2 x3)) n (Zj.s8 x3 aO aH aF aQ)=Zj.l8 x3 n aO aH aF aQ:=by
 intro n
 induction n with
 |zero=>intros;rw[loopN_z];rfl
 |succ n ih=>
  intro aO aH aF aQ
  rw[loopN_s,Zj.r8]
  simp only[Zj.e13,ih]
  first|exact(Zj.u8 ..).symm|rfl
theorem Zj.r7 (x0:Int)(x1:Int)(x2:Int)(x3:List Int):joinF Zj.E f131.ntmps [1] [] (codeOf f131) (Zj.kt x0 x1 x2 x3) (Zj.s7 x0 x1 x2 x3)=Zj.g7 x0 x1 x2 x3 (λaO aH aF aQ=>loopN (loopF Zj.E f131.ntmps [1,1,1,0,0] [] (codeOf f131) (Zj.kt x0 x1 x2 x3)) V.KK (Zj.s8 x3 aO aH aF aQ)):=by kernel_rfl
theorem Zj.e7 (x0:Int)(x1:Int)(x2:Int)(x3:List Int):jn (joinF Zj.E f131.ntmps [1] [] (codeOf f131) (Zj.kt x0 x1 x2 x3)) (Zj.s7 x0 x1 x2 x3)=Zj.l7 x0 x1 x2 x3:=by
 rw[jn_eq,Zj.r7]
 simp only[Zj.e8]
 rfl
theorem Zj.v (x0:Int)(x1:Int)(x2:Int)(x3:List Int):V.evBody Zj.E Zj.con f131 ((x0,x1,x2,x3):Int×Int×Int×List Int)=Zj.b x0 x1 x2 x3 (jn (joinF Zj.E f131.ntmps [1] [] (codeOf f131) (Zj.kt x0 x1 x2 x3)) (Zj.s7 x0 x1 x2 x3)):=by kernel_rfl
theorem Zj.eq (x0:Int)(x1:Int)(x2:Int)(x3:List Int):V.evBody Zj.E Zj.con f131 ((x0,x1,x2,x3):Int×Int×Int×List Int)=Zj x0 x1 x2 x3:=by
 rw[Zj.v]
 simp only[Zj.e7]
 rfl
theorem Zj.ok :V.Valid prog 131 Zj.con:=
 V.fo (tab_cons ZW.ok (tab_cons WT.ok tab_nil)) func131 (by kernel_rfl) (λx y h=>(show V.evBody Zj.E Zj.con f131 x=_ from Zj.eq x.1 x.2.1 x.2.2.1 x.2.2.2).trans (V.cfl (by kernel_rfl) h))
abbrev WP.con :V.Con:=⟨(ci (ci (.cons .str (ci (ci (.cons (.sl (.cons .str .nil)) (ci (.cons (.sl (ci .nil)) .nil)))))))),(.cons .bool .nil),λ(x:Int×Int×ByteArray×Int×Int×List ByteArray×Int×List Int)=>WP x.1 x.2.1 (x.2.2.1,x.2.2.2.1,x.2.2.2.2.1,x.2.2.2.2.2.1) x.2.2.2.2.2.2,[],[(false,1),(false,1),(true,4),(true,2)],[(false,1)],[false],[]⟩
abbrev WP.E :Env:=V.mkE V.tys [(112,WS.con),(113,U8.con),(115,Uu.con),(131,Zj.con)] [] [(1,11)] [] [] []
theorem WP.eq (x0:Int)(x1:Int)(x2:Z0)(x3:YC):V.evBody WP.E WP.con f93 ((x0,x1,x2.1,x2.2.1,x2.2.2.1,x2.2.2.2,x3.1,x3.2):Int×Int×ByteArray×Int×Int×List ByteArray×Int×List Int)=WP x0 x1 x2 x3:=by kernel_rfl
theorem WP.ok :V.Valid prog 93 WP.con:=
 V.fo (tab_cons WS.ok (tab_cons U8.ok (tab_cons Uu.ok (tab_cons Zj.ok tab_nil)))) func93 (by kernel_rfl) (λx y h=>(show V.evBody WP.E WP.con f93 x=_ from WP.eq x.1 x.2.1 (x.2.2.1,x.2.2.2.1,x.2.2.2.2.1,x.2.2.2.2.2.1) x.2.2.2.2.2.2).trans (V.cfl (by kernel_rfl) h))
abbrev X0.con :V.Con:=⟨(.cons (.sl (.cons .str .nil)) (.cons (.sl (.cons .str .nil)) .nil)),(.cons .bool .nil),λ(x:List ByteArray×List ByteArray)=>X0 x.1 x.2,[],[(false,1),(false,1)],[(false,1)],[false],[]⟩
abbrev X0.E :Env:=V.mkE V.tys [] [(8,[0,1,5],[])] [(6,8)] [] [] []
abbrev X0.kt (x0:List ByteArray)(x1:List ByteArray):Kt Bool:=ktOf X0.E X0.con f170 ((x0,x1):List ByteArray×List ByteArray)
abbrev X0.s8 (x0:List ByteArray)(x1:List ByteArray)(aF:Int):St:=⟨[(0, .v false [.val (.sl (.cons .str .nil) x0)]),(1, .v false [.val (.sl (.cons .str .nil) x1)]),(5, .v false [.vi (aF)])],[]⟩
theorem X0.r8 (x0:List ByteArray)(x1:List ByteArray)(R:St->Option Bool)(aF:Int):loopF X0.E f170.ntmps [1,1,0,1,0] [] (codeOf f170) (X0.kt x0 x1) R (X0.s8 x0 x1 aF)=X0.g8 x0 x1 (λaF=>R (X0.s8 x0 x1 aF)) aF:=by kernel_rfl
theorem X0.e8 (x0:List ByteArray)(x1:List ByteArray):∀(n:Nat) (aF:Int),loopN (loopF X0.E f170.ntmps [1,1,0,1,0] [] (codeOf f170) (X0.kt x0 x1)) n (X0.s8 x0 x1 aF)=X0.l8 x0 x1 n aF:=by
 intro n
 induction n with
 |zero=>intros;rw[loopN_z];rfl
 |succ n ih=>
  intro aF
  rw[loopN_s,X0.r8]
  simp only[ih]
  first|exact(X0.u8 ..).symm|rfl
theorem X0.v (x0:List ByteArray)(x1:List ByteArray):V.evBody X0.E X0.con f170 ((x0,x1):List ByteArray×List ByteArray)=X0.b x0 x1 (λaF=>loopN (loopF X0.E f170.ntmps [1,1,0,1,0] [] (codeOf f170) (X0.kt x0 x1)) V.KK (X0.s8 x0 x1 aF)):=by kernel_rfl
theorem X0.eq (x0:List ByteArray)(x1:List ByteArray):V.evBody X0.E X0.con f170 ((x0,x1):List ByteArray×List ByteArray)=X0 x0 x1:=by
 rw[X0.v]
 simp only[X0.e8]
 rfl
theorem X0.ok :V.Valid prog 170 X0.con:=
 V.fo tab_nil func170 (by kernel_rfl) (λx y h=>(show V.evBody X0.E X0.con f170 x=_ from X0.eq x.1 x.2).trans (V.cfl (by kernel_rfl) h))
abbrev WQ.con :V.Con:=⟨(.cons .str (ci (ci (.cons (.sl (.cons .str .nil)) (.cons .str (ci (ci (.cons (.sl (.cons .str .nil)) .nil)))))))),(.cons .bool .nil),λ(x:ByteArray×Int×Int×List ByteArray×ByteArray×Int×Int×List ByteArray)=>WQ (x.1,x.2.1,x.2.2.1,x.2.2.2.1) x.2.2.2.2,[],[(true,4),(true,4)],[(false,1)],[false],[]⟩
abbrev WQ.E :Env:=V.mkE V.tys [(170,X0.con)] [] [] [] [] []
theorem WQ.eq (x0:Z0)(x1:Z0):V.evBody WQ.E WQ.con f132 ((x0.1,x0.2.1,x0.2.2.1,x0.2.2.2,x1.1,x1.2.1,x1.2.2.1,x1.2.2.2):ByteArray×Int×Int×List ByteArray×ByteArray×Int×Int×List ByteArray)=WQ x0 x1:=by kernel_rfl
theorem WQ.ok :V.Valid prog 132 WQ.con:=
 V.fo (tab_cons X0.ok tab_nil) func132 (by kernel_rfl) (λx y h=>(show V.evBody WQ.E WQ.con f132 x=_ from WQ.eq (x.1,x.2.1,x.2.2.1,x.2.2.2.1) x.2.2.2.2).trans (V.cfl (by kernel_rfl) h))
abbrev WR.con :V.Con:=⟨(ci (.cons (.sl (ci .nil)) (ci (.cons (.sl (ci .nil)) .nil)))),(.cons .bool .nil),λ(x:Int×List Int×Int×List Int)=>WR (x.1,x.2.1) x.2.2,[],[(true,2),(true,2)],[(false,1)],[false],[]⟩
abbrev WR.E :Env:=V.mkE V.tys [(171,Ye.con)] [] [] [] [] []
theorem WR.eq (x0:YC)(x1:YC):V.evBody WR.E WR.con f133 ((x0.1,x0.2,x1.1,x1.2):Int×List Int×Int×List Int)=WR x0 x1:=by kernel_rfl
theorem WR.ok :V.Valid prog 133 WR.con:=
 V.fo (tab_cons Ye.ok tab_nil) func133 (by kernel_rfl) (λx y h=>(show V.evBody WR.E WR.con f133 x=_ from WR.eq (x.1,x.2.1) x.2.2).trans (V.cfl (by kernel_rfl) h))
abbrev XN.con :V.Con:=⟨V.A13,(.cons .bool .nil),λ(x:V.D13)=>XN (V.p13_0 x) (V.p13_1 x),[],[(true,13),(true,13)],[(false,1)],[false],[]⟩
abbrev XN.E :Env:=V.mkE V.tys [(132,WQ.con),(133,WR.con)] [] [] [] [] []
abbrev XN.kt (x0:Zp)(x1:Zp):Kt Bool:=ktOf XN.E XN.con f94 (V.fl13 x0 x1)
abbrev XN.s (x0:Zp)(x1:Zp):St:=⟨[(0, .v true (V.lsGap x0)),(1, .v true (V.lsGap x1))],[]⟩
theorem XN.v0 (x0:Zp)(x1:Zp):V.evBody XN.E XN.con f94 (V.fl13 x0 x1)=evC XN.E f94.ntmps (codeOf f94) (XN.kt x0 x1) (XN.s x0 x1):=by kernel_rfl
theorem XN.v (x0:Zp)(x1:Zp):evC XN.E f94.ntmps (codeOf f94) (XN.kt x0 x1) (XN.s x0 x1)=XN x0 x1:=by kernel_rfl
theorem XN.eq (x0:Zp)(x1:Zp):V.evBody XN.E XN.con f94 (V.fl13 x0 x1)=XN x0 x1:=(XN.v0 x0 x1).trans (XN.v x0 x1)
theorem XN.ok :V.Valid prog 94 XN.con:=
 V.fo (tab_cons WQ.ok (tab_cons WR.ok tab_nil)) func94 (by kernel_rfl) (λx y h=>(show V.evBody XN.E XN.con f94 x=_ from XN.eq (V.p13_0 x) (V.p13_1 x)).trans (V.cfl (by kernel_rfl) h))
abbrev WW.con :V.Con:=⟨(.cons .str (ci (ci (.cons (.sl (.cons .str .nil)) (ci (.cons (.sl (ci .nil)) .nil)))))),(.cons .bool .nil),λ(x:ByteArray×Int×Int×List ByteArray×Int×List Int)=>WW (x.1,x.2.1,x.2.2.1,x.2.2.2.1) x.2.2.2.2,[],[(true,4),(true,2)],[(false,1)],[false],[]⟩
abbrev WW.E :Env:=V.mkE V.tys [(132,WQ.con),(133,WR.con)] [] [] [] [] []
theorem WW.eq (x0:Z0)(x1:YC):V.evBody WW.E WW.con f96 ((x0.1,x0.2.1,x0.2.2.1,x0.2.2.2,x1.1,x1.2):ByteArray×Int×Int×List ByteArray×Int×List Int)=WW x0 x1:=by kernel_rfl
theorem WW.ok :V.Valid prog 96 WW.con:=
 V.fo (tab_cons WQ.ok (tab_cons WR.ok tab_nil)) func96 (by kernel_rfl) (λx y h=>(show V.evBody WW.E WW.con f96 x=_ from WW.eq (x.1,x.2.1,x.2.2.1,x.2.2.2.1) x.2.2.2.2).trans (V.cfl (by kernel_rfl) h))
abbrev ZM.con :V.Con:=⟨V.A16,(.cons .bool .nil),λ(x:V.D16)=>ZM (V.p16_0 x) (V.p16_1 x) (V.p16_2 x) (V.p16_3 x),[],[(false,1),(false,1),(false,1),(true,13)],[(false,1)],[false],[]⟩
abbrev ZM.E :Env:=V.mkE V.tys [(10,Zy.con),(38,ZW.con),(76,W9.con),(93,WP.con),(96,WW.con),(114,Wc.con)] [(7,[0,1,2,7],[]),(17,[0,1,2,7],[])] [] [] [] []
abbrev ZM.kt (x0:Int)(x1:Int)(x2:ByteArray)(x3:Zp):Kt Bool:=ktOf ZM.E ZM.con f95 (V.fl16 x0 x1 x2 x3)
abbrev ZM.s17 (x0:Int)(x1:Int)(x2:ByteArray)(x3:Zp):St:=⟨[(0, .v false [.vi (x0)]),(1, .v false [.vi (x1)]),(2, .v false [.val (.str x2)]),(7, .v false [.ptr 64000 0])],[(64000, .box (V.lsGap x3))]⟩
abbrev ZM.s7 (x0:Int)(x1:Int)(x2:ByteArray)(x3:Zp):St:=⟨[(0, .v false [.vi (x0)]),(1, .v false [.vi (x1)]),(2, .v false [.val (.str x2)]),(7, .v false [.ptr 64000 0])],[(64000, .box (V.lsGap x3))]⟩
theorem ZM.r17 (x0:Int)(x1:Int)(x2:ByteArray)(x3:Zp):joinF ZM.E f95.ntmps [1,1] [] (codeOf f95) (ZM.kt x0 x1 x2 x3) (ZM.s17 x0 x1 x2 x3)=ZM.g17 x0 x1 x2 x3:=by kernel_rfl
theorem ZM.e17 (x0:Int)(x1:Int)(x2:ByteArray)(x3:Zp):jn (joinF ZM.E f95.ntmps [1,1] [] (codeOf f95) (ZM.kt x0 x1 x2 x3)) (ZM.s17 x0 x1 x2 x3)=ZM.l17 x0 x1 x2 x3:=by
 rw[jn_eq,ZM.r17]
 rfl
theorem ZM.r7 (x0:Int)(x1:Int)(x2:ByteArray)(x3:Zp):joinF ZM.E f95.ntmps [1] [] (codeOf f95) (ZM.kt x0 x1 x2 x3) (ZM.s7 x0 x1 x2 x3)=ZM.g7 x0 x1 x2 x3 (jn (joinF ZM.E f95.ntmps [1,1] [] (codeOf f95) (ZM.kt x0 x1 x2 x3)) (ZM.s17 x0 x1 x2 x3)):=by kernel_rfl
theorem ZM.e7 (x0:Int)(x1:Int)(x2:ByteArray)(x3:Zp):jn (joinF ZM.E f95.ntmps [1] [] (codeOf f95) (ZM.kt x0 x1 x2 x3)) (ZM.s7 x0 x1 x2 x3)=ZM.l7 x0 x1 x2 x3:=by
 rw[jn_eq,ZM.r7]
 simp only[ZM.e17]
 rfl
abbrev ZM.s (x0:Int)(x1:Int)(x2:ByteArray)(x3:Zp):St:=⟨[(0, .v false [.vi (x0)]),(1, .v false [.vi (x1)]),(2, .v false [.val (.str x2)]),(3, .v true (V.lsGap x3))],[]⟩
theorem ZM.v0 (x0:Int)(x1:Int)(x2:ByteArray)(x3:Zp):V.evBody ZM.E ZM.con f95 (V.fl16 x0 x1 x2 x3)=evC ZM.E f95.ntmps (codeOf f95) (ZM.kt x0 x1 x2 x3) (ZM.s x0 x1 x2 x3):=by kernel_rfl
theorem ZM.v (x0:Int)(x1:Int)(x2:ByteArray)(x3:Zp):evC ZM.E f95.ntmps (codeOf f95) (ZM.kt x0 x1 x2 x3) (ZM.s x0 x1 x2 x3)=ZM.b x0 x1 x2 x3 (jn (joinF ZM.E f95.ntmps [1] [] (codeOf f95) (ZM.kt x0 x1 x2 x3)) (ZM.s7 x0 x1 x2 x3)):=by kernel_rfl
theorem ZM.eq (x0:Int)(x1:Int)(x2:ByteArray)(x3:Zp):V.evBody ZM.E ZM.con f95 (V.fl16 x0 x1 x2 x3)=ZM x0 x1 x2 x3:=by
 rw[ZM.v0,ZM.v]
 simp only[ZM.e7]
 rfl
theorem ZM.ok :V.Valid prog 95 ZM.con:=
 V.fo (tab_cons Zy.ok (tab_cons ZW.ok (tab_cons W9.ok (tab_cons WP.ok (tab_cons WW.ok (tab_cons Wc.ok tab_nil)))))) func95 (by kernel_rfl) (λx y h=>(show V.evBody ZM.E ZM.con f95 x=_ from ZM.eq (V.p16_0 x) (V.p16_1 x) (V.p16_2 x) (V.p16_3 x)).trans (V.cfl (by kernel_rfl) h))
abbrev XV.con :V.Con:=⟨V.A17,(.cons .bool .nil),λ(x:V.D17)=>XV (V.p17_0 x) (V.p17_1 x) (V.p17_2 x),[],[(true,16),(false,1),(true,21)],[(false,1)],[false],[]⟩
abbrev XV.E :Env:=V.mkE V.tys [(93,WP.con),(94,XN.con),(95,ZM.con),(96,WW.con)] [] [] [] [] []
abbrev XV.kt (x0:Z5)(x1:ByteArray)(x2:Zi):Kt Bool:=ktOf XV.E XV.con f49 (V.fl17 x0 x1 x2)
abbrev XV.s (x0:Z5)(x1:ByteArray)(x2:Zi):St:=⟨[(0, .v true (V.lsHead x0)),(1, .v false [.val (.str x1)]),(2, .v true (V.lsAnswer x2))],[]⟩
theorem XV.v0 (x0:Z5)(x1:ByteArray)(x2:Zi):V.evBody XV.E XV.con f49 (V.fl17 x0 x1 x2)=evC XV.E f49.ntmps (codeOf f49) (XV.kt x0 x1 x2) (XV.s x0 x1 x2):=by kernel_rfl
theorem XV.v (x0:Z5)(x1:ByteArray)(x2:Zi):evC XV.E f49.ntmps (codeOf f49) (XV.kt x0 x1 x2) (XV.s x0 x1 x2)=XV x0 x1 x2:=by kernel_rfl
theorem XV.eq (x0:Z5)(x1:ByteArray)(x2:Zi):V.evBody XV.E XV.con f49 (V.fl17 x0 x1 x2)=XV x0 x1 x2:=(XV.v0 x0 x1 x2).trans (XV.v x0 x1 x2)
theorem XV.ok :V.Valid prog 49 XV.con:=
 V.fo (tab_cons WP.ok (tab_cons XN.ok (tab_cons ZM.ok (tab_cons WW.ok tab_nil)))) func49 (by kernel_rfl) (λx y h=>(show V.evBody XV.E XV.con f49 x=_ from XV.eq (V.p17_0 x) (V.p17_1 x) (V.p17_2 x)).trans (V.cfl (by kernel_rfl) h))
abbrev XM.con :V.Con:=⟨V.A18,(ci .nil),λ(x:V.D18)=>XM (V.p18_0 x) (V.p18_1 x) (V.p18_2 x) (V.p18_3 x),[],[(false,1),(false,1),(true,21),(false,1)],[(false,1)],[false],[]⟩
abbrev XM.E :Env:=V.mkE V.tys [(11,Xs.con),(48,W0.con),(49,XV.con)] [] [] [] [] []
abbrev XM.kt (x0:Int)(x1:ByteArray)(x2:Zi)(x3:Int):Kt Int:=ktOf XM.E XM.con f17 (V.fl18 x0 x1 x2 x3)
abbrev XM.s (x0:Int)(x1:ByteArray)(x2:Zi)(x3:Int):St:=⟨[(0, .v false [.vi (x0)]),(1, .v false [.val (.str x1)]),(2, .v true (V.lsAnswer x2)),(3, .v false [.vi (x3)])],[]⟩
theorem XM.v0 (x0:Int)(x1:ByteArray)(x2:Zi)(x3:Int):V.evBody XM.E XM.con f17 (V.fl18 x0 x1 x2 x3)=evC XM.E f17.ntmps (codeOf f17) (XM.kt x0 x1 x2 x3) (XM.s x0 x1 x2 x3):=by kernel_rfl
theorem XM.v (x0:Int)(x1:ByteArray)(x2:Zi)(x3:Int):evC XM.E f17.ntmps (codeOf f17) (XM.kt x0 x1 x2 x3) (XM.s x0 x1 x2 x3)=XM x0 x1 x2 x3:=by kernel_rfl
theorem XM.eq (x0:Int)(x1:ByteArray)(x2:Zi)(x3:Int):V.evBody XM.E XM.con f17 (V.fl18 x0 x1 x2 x3)=XM x0 x1 x2 x3:=(XM.v0 x0 x1 x2 x3).trans (XM.v x0 x1 x2 x3)
theorem XM.ok :V.Valid prog 17 XM.con:=
 V.fo (tab_cons Xs.ok (tab_cons W0.ok (tab_cons XV.ok tab_nil))) func17 (by kernel_rfl) (λx y h=>(show V.evBody XM.E XM.con f17 x=_ from XM.eq (V.p18_0 x) (V.p18_1 x) (V.p18_2 x) (V.p18_3 x)).trans (V.cfl (by kernel_rfl) h))
abbrev UT.con :V.Con:=⟨(ci (.cons (.sl (.cons .str .nil)) .nil)),(.cons .str .nil),λ(x:Int×List ByteArray)=>UT x.1 x.2,[],[(false,1),(false,1)],[(false,1)],[false],[]⟩
abbrev UT.E :Env:=V.mkE V.tys [(58,Ya.con)] [] [] [] [] []
theorem UT.eq (x0:Int)(x1:List ByteArray):V.evBody UT.E UT.con f51 ((x0,x1):Int×List ByteArray)=UT x0 x1:=by kernel_rfl
theorem UT.ok :V.Valid prog 51 UT.con:=
 V.fo (tab_cons Ya.ok tab_nil) func51 (by kernel_rfl) (λx y h=>(show V.evBody UT.E UT.con f51 x=_ from UT.eq x.1 x.2).trans (V.cfl (by kernel_rfl) h))
abbrev WK.con :V.Con:=⟨(ci .nil),(.cons .str .nil),λ(x:Int)=>WK x,[],[(false,1)],[(false,1)],[false],[]⟩
abbrev WK.E :Env:=V.mkE V.tys [(51,UT.con)] [] [] [] [] []
theorem WK.eq (x0:Int):V.evBody WK.E WK.con f19 ((x0):Int)=WK x0:=by kernel_rfl
theorem WK.ok :V.Valid prog 19 WK.con:=
 V.fo (tab_cons UT.ok tab_nil) func19 (by kernel_rfl) (λx y h=>(show V.evBody WK.E WK.con f19 x=_ from WK.eq x).trans (V.cfl (by kernel_rfl) h))
abbrev Zk.con :V.Con:=⟨(.cons (.sl (.cons (.int .u8) .nil)) .nil),(.cons .bool .nil),λ(x:List Int)=>Zk x,[],[(false,1)],[(false,1)],[false],[]⟩
abbrev Zk.E :Env:=V.mkE V.tys [(4,Qm.con),(5,Q1.con),(6,Xd.con),(7,XD.con),(8,X7.con),(9,Wi.con),(10,Zy.con),(11,Xs.con),(12,Q6.con),(13,Xl.con),(14,Yb.con),(15,ZX.con),(16,Yv.con),(17,XM.con),(18,Wb.con),(19,WK.con)] [(17,[0,3,4,5,40],[]),(27,[0,3,4,5,6,8,9],[]),(31,[0,4,5,6,8],[]),(41,[0],[])] [(5,4),(13,35)] [] [] []
abbrev Zk.kt (x0:List Int):Kt Bool:=ktOf Zk.E Zk.con Tryz.f3 ((x0):List Int)
abbrev Zk.s41 (x0:List Int):St:=⟨[(0, .v false [.val (.sl (.cons (.int .u8) .nil) x0)])],[]⟩
abbrev Zk.s31 (x0:List Int)(y2:Wk)(y3:Zi)(y8:ZQ)(y9:Int):St:=⟨[(0, .v false [.val (.sl (.cons (.int .u8) .nil) x0)]),(4, .v false [.val (.str y2.2.2)]),(5, .v false [.ptr 320192 0]),(6, .v false [.ptr 576384 0]),(8, .v false [.vi (y9)])],[(320192, .box [.ref 64000000000020492288, .val (.bool y3.2.1), .val (.str y3.2.2.1), .vi (y3.2.2.2.1), .vi (y3.2.2.2.2.1), .ref 64000000000020492293, .vi (y3.2.2.2.2.2.2.1), .ref 64000000000020492295, .vi (y3.2.2.2.2.2.2.2.2.1), .val (.str y3.2.2.2.2.2.2.2.2.2.1), .vi (y3.2.2.2.2.2.2.2.2.2.2.1), .vi (y3.2.2.2.2.2.2.2.2.2.2.2.1), .ref 64000000000020492300, .val (.str y3.2.2.2.2.2.2.2.2.2.2.2.2.2.1), .vi (y3.2.2.2.2.2.2.2.2.2.2.2.2.2.2.1), .vi (y3.2.2.2.2.2.2.2.2.2.2.2.2.2.2.2.1), .ref 64000000000020492304, .vi (y3.2.2.2.2.2.2.2.2.2.2.2.2.2.2.2.2.2.1), .ref 64000000000020492306, .vi (y3.2.2.2.2.2.2.2.2.2.2.2.2.2.2.2.2.2.2.2.1), .ref 64000000000020492308]),(64000000000020492288, .row V.eSigned true y3.1),(64000000000020492293, .row (.cons .str .nil) true y3.2.2.2.2.2.1),(64000000000020492295, .row (ci .nil) true y3.2.2.2.2.2.2.2.1),(64000000000020492300, .row (.cons .str .nil) true y3.2.2.2.2.2.2.2.2.2.2.2.2.1),(64000000000020492304, .row (.cons .str .nil) true y3.2.2.2.2.2.2.2.2.2.2.2.2.2.2.2.2.1),(64000000000020492306, .row (ci .nil) true y3.2.2.2.2.2.2.2.2.2.2.2.2.2.2.2.2.2.2.1),(64000000000020492308, .row (ci .nil) true y3.2.2.2.2.2.2.2.2.2.2.2.2.2.2.2.2.2.2.2.2),(576384, .box [.vi (y8.1), .vi (y8.2.1), .vi (y8.2.2.1), .vi (y8.2.2.2.1), .vi (y8.2.2.2.2.1), .vi (y8.2.2.2.2.2.1), .vi (y8.2.2.2.2.2.2.1), .vi (y8.2.2.2.2.2.2.2.1), .ref 64000000000036888584, .vi (y8.2.2.2.2.2.2.2.2.2.1), .ref 64000000000036888586, .vi (y8.2.2.2.2.2.2.2.2.2.2.2.1), .vi (y8.2.2.2.2.2.2.2.2.2.2.2.2.1), .ref 64000000000036888589, .vi (y8.2.2.2.2.2.2.2.2.2.2.2.2.2.2.1), .val (.bool y8.2.2.2.2.2.2.2.2.2.2.2.2.2.2.2.1)]),(64000000000036888584, .row (ci .nil) true y8.2.2.2.2.2.2.2.2.1),(64000000000036888586, .row (ci .nil) true y8.2.2.2.2.2.2.2.2.2.2.1),(64000000000036888589, .row (ci .nil) true y8.2.2.2.2.2.2.2.2.2.2.2.2.2.1)]⟩
abbrev Zk.s27 (x0:List Int)(y2:Wk)(y3:Zi)(y8:ZQ)(y9:Int)(eX:Int):St:=⟨[(0, .v false [.val (.sl (.cons (.int .u8) .nil) x0)]),(3, .v false [.ptr 256320 0]),(4, .v false [.val (.str y2.2.2)]),(5, .v false [.ptr 320192 0]),(6, .v false [.ptr 576384 0]),(8, .v false [.vi (y9)]),(9, .v false [.vi (eX)])],[(256320, .box [.val (.sl V.eSigned y2.1), .val (.sl V.eEntry y2.2.1)]),(320192, .box [.ref 64000000000020492288, .val (.bool y3.2.1), .val (.str y3.2.2.1), .vi (y3.2.2.2.1), .vi (y3.2.2.2.2.1), .ref 64000000000020492293, .vi (y3.2.2.2.2.2.2.1), .ref 64000000000020492295, .vi (y3.2.2.2.2.2.2.2.2.1), .val (.str y3.2.2.2.2.2.2.2.2.2.1), .vi (y3.2.2.2.2.2.2.2.2.2.2.1), .vi (y3.2.2.2.2.2.2.2.2.2.2.2.1), .ref 64000000000020492300, .val (.str y3.2.2.2.2.2.2.2.2.2.2.2.2.2.1), .vi (y3.2.2.2.2.2.2.2.2.2.2.2.2.2.2.1), .vi (y3.2.2.2.2.2.2.2.2.2.2.2.2.2.2.2.1), .ref 64000000000020492304, .vi (y3.2.2.2.2.2.2.2.2.2.2.2.2.2.2.2.2.2.1), .ref 64000000000020492306, .vi (y3.2.2.2.2.2.2.2.2.2.2.2.2.2.2.2.2.2.2.2.1), .ref 64000000000020492308]),(64000000000020492288, .row V.eSigned true y3.1),(64000000000020492293, .row (.cons .str .nil) true y3.2.2.2.2.2.1),(64000000000020492295, .row (ci .nil) true y3.2.2.2.2.2.2.2.1),(64000000000020492300, .row (.cons .str .nil) true y3.2.2.2.2.2.2.2.2.2.2.2.2.1),(64000000000020492304, .row (.cons .str .nil) true y3.2.2.2.2.2.2.2.2.2.2.2.2.2.2.2.2.1),(64000000000020492306, .row (ci .nil) true y3.2.2.2.2.2.2.2.2.2.2.2.2.2.2.2.2.2.2.1),(64000000000020492308, .row (ci .nil) true y3.2.2.2.2.2.2.2.2.2.2.2.2.2.2.2.2.2.2.2.2),(576384, .box [.vi (y8.1), .vi (y8.2.1), .vi (y8.2.2.1), .vi (y8.2.2.2.1), .vi (y8.2.2.2.2.1), .vi (y8.2.2.2.2.2.1), .vi (y8.2.2.2.2.2.2.1), .vi (y8.2.2.2.2.2.2.2.1), .ref 64000000000036888584, .vi (y8.2.2.2.2.2.2.2.2.2.1), .ref 64000000000036888586, .vi (y8.2.2.2.2.2.2.2.2.2.2.2.1), .vi (y8.2.2.2.2.2.2.2.2.2.2.2.2.1), .ref 64000000000036888589, .vi (y8.2.2.2.2.2.2.2.2.2.2.2.2.2.2.1), .val (.bool y8.2.2.2.2.2.2.2.2.2.2.2.2.2.2.2.1)]),(64000000000036888584, .row (ci .nil) true y8.2.2.2.2.2.2.2.2.1),(64000000000036888586, .row (ci .nil) true y8.2.2.2.2.2.2.2.2.2.2.1),(64000000000036888589, .row (ci .nil) true y8.2.2.2.2.2.2.2.2.2.2.2.2.2.1)]⟩
abbrev Zk.s17 (x0:List Int)(y2:Wk)(y3:Zi)(eO:Bool):St:=⟨[(0, .v false [.val (.sl (.cons (.int .u8) .nil) x0)]),(3, .v false [.ptr 256320 0]),(4, .v false [.val (.str y2.2.2)]),(5, .v false [.ptr 320192 0]),(40, .v false [.val (.bool eO)])],[(256320, .box [.val (.sl V.eSigned y2.1), .val (.sl V.eEntry y2.2.1)]),(320192, .box [.ref 64000000000020492288, .val (.bool y3.2.1), .val (.str y3.2.2.1), .vi (y3.2.2.2.1), .vi (y3.2.2.2.2.1), .ref 64000000000020492293, .vi (y3.2.2.2.2.2.2.1), .ref 64000000000020492295, .vi (y3.2.2.2.2.2.2.2.2.1), .val (.str y3.2.2.2.2.2.2.2.2.2.1), .vi (y3.2.2.2.2.2.2.2.2.2.2.1), .vi (y3.2.2.2.2.2.2.2.2.2.2.2.1), .ref 64000000000020492300, .val (.str y3.2.2.2.2.2.2.2.2.2.2.2.2.2.1), .vi (y3.2.2.2.2.2.2.2.2.2.2.2.2.2.2.1), .vi (y3.2.2.2.2.2.2.2.2.2.2.2.2.2.2.2.1), .ref 64000000000020492304, .vi (y3.2.2.2.2.2.2.2.2.2.2.2.2.2.2.2.2.2.1), .ref 64000000000020492306, .vi (y3.2.2.2.2.2.2.2.2.2.2.2.2.2.2.2.2.2.2.2.1), .ref 64000000000020492308]),(64000000000020492288, .row V.eSigned true y3.1),(64000000000020492293, .row (.cons .str .nil) true y3.2.2.2.2.2.1),(64000000000020492295, .row (ci .nil) true y3.2.2.2.2.2.2.2.1),(64000000000020492300, .row (.cons .str .nil) true y3.2.2.2.2.2.2.2.2.2.2.2.2.1),(64000000000020492304, .row (.cons .str .nil) true y3.2.2.2.2.2.2.2.2.2.2.2.2.2.2.2.2.1),(64000000000020492306, .row (ci .nil) true y3.2.2.2.2.2.2.2.2.2.2.2.2.2.2.2.2.2.2.1),(64000000000020492308, .row (ci .nil) true y3.2.2.2.2.2.2.2.2.2.2.2.2.2.2.2.2.2.2.2.2)]⟩
theorem Zk.r41 (x0:List Int):joinF Zk.E Tryz.f3.ntmps [1,1,1,1,1] [] (codeOf Tryz.f3) (Zk.kt x0) (Zk.s41 x0)=Zk.g41 x0:=by kernel_rfl
theorem Zk.e41 (x0:List Int):jn (joinF Zk.E Tryz.f3.ntmps [1,1,1,1,1] [] (codeOf Tryz.f3) (Zk.kt x0)) (Zk.s41 x0)=Zk.l41 x0:=by
 rw[jn_eq,Zk.r41]
 rfl
theorem Zk.r31 (x0:List Int)(y2:Wk)(y3:Zi)(y8:ZQ)(y9:Int):joinF Zk.E Tryz.f3.ntmps [1,1,1,1,1,0,1,0,1,1,1,1] [] (codeOf Tryz.f3) (Zk.kt x0) (Zk.s31 x0 y2 y3 y8 y9)=Zk.g31 x0 y2 y3 y8 y9 (jn (joinF Zk.E Tryz.f3.ntmps [1,1,1,1,1] [] (codeOf Tryz.f3) (Zk.kt x0)) (Zk.s41 x0)):=by kernel_rfl
theorem Zk.e31 (x0:List Int)(y2:Wk)(y3:Zi)(y8:ZQ)(y9:Int):jn (joinF Zk.E Tryz.f3.ntmps [1,1,1,1,1,0,1,0,1,1,1,1] [] (codeOf Tryz.f3) (Zk.kt x0)) (Zk.s31 x0 y2 y3 y8 y9)=Zk.l31 x0 y2 y3 y8 y9:=by
 rw[jn_eq,Zk.r31]
 simp only[Zk.e41]
 rfl
theorem Zk.r27 (x0:List Int)(y2:Wk)(y3:Zi)(y8:ZQ)(y9:Int)(eX:Int):joinF Zk.E Tryz.f3.ntmps [1,1,1,1,1,0,1,0,1,1,1] [] (codeOf Tryz.f3) (Zk.kt x0) (Zk.s27 x0 y2 y3 y8 y9 eX)=Zk.g27 x0 y2 y3 y8 y9 (λy2 y3 y8 y9=>jn (joinF Zk.E Tryz.f3.ntmps [1,1,1,1,1,0,1,0,1,1,1,1] [] (codeOf Tryz.f3) (Zk.kt x0)) (Zk.s31 x0 y2 y3 y8 y9)) eX:=by kernel_rfl
theorem Zk.e27 (x0:List Int)(y2:Wk)(y3:Zi)(y8:ZQ)(y9:Int)(eX:Int):jn (joinF Zk.E Tryz.f3.ntmps [1,1,1,1,1,0,1,0,1,1,1] [] (codeOf Tryz.f3) (Zk.kt x0)) (Zk.s27 x0 y2 y3 y8 y9 eX)=Zk.l27 x0 y2 y3 y8 y9 eX:=by
 rw[jn_eq,Zk.r27]
 simp only[Zk.e31]
 rfl
theorem Zk.r17 (x0:List Int)(y2:Wk)(y3:Zi)(eO:Bool):joinF Zk.E Tryz.f3.ntmps [1,1,1,1,1,0] [] (codeOf Tryz.f3) (Zk.kt x0) (Zk.s17 x0 y2 y3 eO)=Zk.g17 x0 y2 y3 (λy2 y3 y8 y9 eX=>jn (joinF Zk.E Tryz.f3.ntmps [1,1,1,1,1,0,1,0,1,1,1] [] (codeOf Tryz.f3) (Zk.kt x0)) (Zk.s27 x0 y2 y3 y8 y9 eX)) (jn (joinF Zk.E Tryz.f3.ntmps [1,1,1,1,1] [] (codeOf Tryz.f3) (Zk.kt x0)) (Zk.s41 x0)) eO:=by kernel_rfl
theorem Zk.e17 (x0:List Int)(y2:Wk)(y3:Zi)(eO:Bool):jn (joinF Zk.E Tryz.f3.ntmps [1,1,1,1,1,0] [] (codeOf Tryz.f3) (Zk.kt x0)) (Zk.s17 x0 y2 y3 eO)=Zk.l17 x0 y2 y3 eO:=by
 rw[jn_eq,Zk.r17]
 simp only[Zk.e27,Zk.e41]
 rfl
theorem Zk.v (x0:List Int):V.evBody Zk.E Zk.con Tryz.f3 ((x0):List Int)=Zk.b x0 (λy2 y3 eO=>jn (joinF Zk.E Tryz.f3.ntmps [1,1,1,1,1,0] [] (codeOf Tryz.f3) (Zk.kt x0)) (Zk.s17 x0 y2 y3 eO)):=by kernel_rfl
theorem Zk.eq (x0:List Int):V.evBody Zk.E Zk.con Tryz.f3 ((x0):List Int)=Zk x0:=by
 rw[Zk.v]
 simp only[Zk.e17]
 rfl
theorem Zk.ok :V.Valid prog 3 Zk.con:=
 V.fo (tab_cons Qm.ok (tab_cons Q1.ok (tab_cons Xd.ok (tab_cons XD.ok (tab_cons X7.ok (tab_cons Wi.ok (tab_cons Zy.ok (tab_cons Xs.ok (tab_cons Q6.ok (tab_cons Xl.ok (tab_cons Yb.ok (tab_cons ZX.ok (tab_cons Yv.ok (tab_cons XM.ok (tab_cons Wb.ok (tab_cons WK.ok tab_nil)))))))))))))))) func3 (by kernel_rfl) (λx y h=>(show V.evBody Zk.E Zk.con Tryz.f3 x=_ from Zk.eq x).trans (V.cfl (by kernel_rfl) h))
end Go.Proofs.YtcbeaoigenjoeaeGreat.V
