/- That the functions compute it, part 1. -/
import Derived.Test.YtcbeaoigenjoeaaGreatFnServersWalk0
noncomputable section
namespace Go.Proofs.YtcbeaoigenjoeaaGreat.V
open Tryz
set_option linter.unusedVariables false
set_option maxRecDepth 100000
abbrev Qh.con :V.Con:=⟨(.cons (.ptr (.cons (.sl (.cons (.int .u8) .nil)) (ci (ci .nil)))) .nil),(.cons (.ptr (.cons (.sl (.cons (.int .u8) .nil)) (ci (ci .nil)))) (ci (ci (ci (ci (ci (ci (ci (ci (.cons (.sl (ci .nil)) (ci (.cons (.sl (ci .nil)) (ci (ci (.cons (.sl (ci .nil)) (ci (.cons .bool .nil))))))))))))))))),λ(x:(Z3))=>Qh x,[(0,false)],[(false,1)],[(true,16)],[false,false,false,false,false,false,false,false,true,false,true,false,false,true,false,false],[]⟩
abbrev Qh.E :Env:=V.mkE V.tys [(53,Zd.con),(64,XG.con),(205,ZR.con),(206,UL.con)] [] [] [] [] []
theorem Qh.eq (x0:(Z3)):V.evBody Qh.E Qh.con f180 ((x0):(Z3))=Qh x0:=by kernel_rfl
theorem Qh.ok :V.Valid prog 180 Qh.con:=
 V.fo (tab_cons Zd.ok (tab_cons XG.ok (tab_cons ZR.ok (tab_cons UL.ok tab_nil)))) func180 (by kernel_rfl) (λx y h=>(show V.evBody Qh.E Qh.con f180 x=_ from Qh.eq x).trans (V.cfl (by kernel_rfl) h))
abbrev YL.con :V.Con:=⟨(.cons (.ptr (.cons (.sl (.cons (.int .u8) .nil)) (ci (ci .nil)))) .nil),(.cons (.ptr (.cons (.sl (.cons (.int .u8) .nil)) (ci (ci .nil)))) (.cons (.sl (ci .nil)) .nil)),λ(x:(Z3))=>YL x,[(0,false)],[(false,1)],[(false,1)],[true],[]⟩
abbrev YL.E :Env:=V.mkE V.tys [(53,Zd.con)] [(6,[0,3,4],[(64000038400192,(ci .nil),true)])] [] [] [] []
abbrev YL.kt (x0:(Z3)):Kt ((Z3)×List Int):=ktOf YL.E YL.con f207 ((x0):(Z3))
abbrev YL.s6 (x0:(Z3))(aH:Int)(aA:Int)(aD:Int)(aJ:List Int):St:=⟨[(0, .v false [.ptr 0 0]),(3, .v false [.ref 64000038400192]),(4, .v false [.vi (aH)])],[(0, .box [.val (.sl (.cons (.int .u8) .nil) x0.1), .vi (aA), .vi (aD)]),(64000038400192, .row (ci .nil) true aJ)]⟩
theorem YL.r6 (x0:(Z3))(R:St->Option ((Z3)×List Int))(aH:Int)(aA:Int)(aD:Int)(aJ:List Int):loopF YL.E f207.ntmps [1,1,0,1,0] [] (codeOf f207) (YL.kt x0) R (YL.s6 x0 aH aA aD aJ)=YL.g6 x0 (λaH aA aD aJ=>R (YL.s6 x0 aH aA aD aJ)) aH aA aD aJ:=by kernel_rfl
theorem YL.e6 (x0:(Z3)):∀(n:Nat) (aH:Int) (aA:Int) (aD:Int) (aJ:List Int),loopN (loopF YL.E f207.ntmps [1,1,0,1,0] [] (codeOf f207) (YL.kt x0)) n (YL.s6 x0 aH aA aD aJ)=YL.l6 x0 n aH aA aD aJ:=by
 intro n
 induction n with
 |zero=>intros;rw[loopN_z];rfl
 |succ n ih=>
  intro aH aA aD aJ
  rw[loopN_s,YL.r6]
  simp only[ih]
  first|exact(YL.u6 ..).symm|rfl
theorem YL.v (x0:(Z3)):V.evBody YL.E YL.con f207 ((x0):(Z3))=YL.b x0 (λaH aA aD aJ=>loopN (loopF YL.E f207.ntmps [1,1,0,1,0] [] (codeOf f207) (YL.kt x0)) V.KK (YL.s6 x0 aH aA aD aJ)):=by kernel_rfl
theorem YL.eq (x0:(Z3)):V.evBody YL.E YL.con f207 ((x0):(Z3))=YL x0:=by
 rw[YL.v]
 simp only[YL.e6]
 rfl
theorem YL.ok :V.Valid prog 207 YL.con:=
 V.fo (tab_cons Zd.ok tab_nil) func207 (by kernel_rfl) (λx y h=>(show V.evBody YL.E YL.con f207 x=_ from YL.eq x).trans (V.cfl (by kernel_rfl) h))
abbrev Xd.con :V.Con:=⟨(.cons (.ptr (.cons (.sl (.cons (.int .u8) .nil)) (ci (ci .nil)))) (.cons (.sl (ci .nil)) (ci (.cons (.sl (ci .nil)) .nil)))),(.cons (.ptr (.cons (.sl (.cons (.int .u8) .nil)) (ci (ci .nil)))) (.cons (.sl (ci (ci .nil))) .nil)),λ(x:(Z3)×List Int×Int×List Int)=>Xd x.1 (x.2.1,x.2.2.1) x.2.2.2,[(0,false)],[(false,1),(true,2),(false,1)],[(false,1)],[true],[]⟩
abbrev Xd.E :Env:=V.mkE V.tys [(53,Zd.con),(64,XG.con),(173,Yg.con),(207,YL.con)] [(5,[0,7],[])] [] [] [] [(1,[1000])]
abbrev Xd.kt (x0:(Z3))(x1:Zc)(x2:List Int):Kt ((Z3)×List Z9):=ktOf Xd.E Xd.con f181 ((x0,x1.1,x1.2,x2):(Z3)×List Int×Int×List Int)
abbrev Xd.s5 (x0:(Z3))(fG:Int)(aQ:Int)(aR:List Z9):St:=⟨[(0, .v false [.ptr 0 0]),(7, .v false [.ref 64000032000448])],[(0, .box [.val (.sl (.cons (.int .u8) .nil) x0.1), .vi (fG), .vi (aQ)]),(64000032000448, .row (ci (ci .nil)) true aR)]⟩
theorem Xd.r5 (x0:(Z3))(x1:Zc)(x2:List Int)(fG:Int)(aQ:Int)(aR:List Z9):joinF Xd.E f181.ntmps [1] [] (codeOf f181) (Xd.kt x0 x1 x2) (Xd.s5 x0 fG aQ aR)=Xd.g5 x0 fG aQ aR:=by kernel_rfl
theorem Xd.e5 (x0:(Z3))(x1:Zc)(x2:List Int)(fG:Int)(aQ:Int)(aR:List Z9):jn (joinF Xd.E f181.ntmps [1] [] (codeOf f181) (Xd.kt x0 x1 x2)) (Xd.s5 x0 fG aQ aR)=Xd.l5 x0 fG aQ aR:=by
 rw[jn_eq,Xd.r5]
 rfl
theorem Xd.v (x0:(Z3))(x1:Zc)(x2:List Int):V.evBody Xd.E Xd.con f181 ((x0,x1.1,x1.2,x2):(Z3)×List Int×Int×List Int)=Xd.b x0 x1 x2 (λfG aQ aR=>jn (joinF Xd.E f181.ntmps [1] [] (codeOf f181) (Xd.kt x0 x1 x2)) (Xd.s5 x0 fG aQ aR)):=by kernel_rfl
theorem Xd.eq (x0:(Z3))(x1:Zc)(x2:List Int):V.evBody Xd.E Xd.con f181 ((x0,x1.1,x1.2,x2):(Z3)×List Int×Int×List Int)=Xd x0 x1 x2:=by
 rw[Xd.v]
 simp only[Xd.e5]
 rfl
theorem Xd.ok :V.Valid prog 181 Xd.con:=
 V.fo (tab_cons Zd.ok (tab_cons XG.ok (tab_cons Yg.ok (tab_cons YL.ok tab_nil)))) func181 (by kernel_rfl) (λx y h=>(show V.evBody Xd.E Xd.con f181 x=_ from Xd.eq x.1 (x.2.1,x.2.2.1) x.2.2.2).trans (V.cfl (by kernel_rfl) h))
abbrev Qi.con :V.Con:=⟨(.cons (.ptr (.cons (.sl (.cons (.int .u8) .nil)) (ci (ci .nil)))) .nil),(.cons (.ptr (.cons (.sl (.cons (.int .u8) .nil)) (ci (ci .nil)))) (ci (ci (ci (ci (ci (ci (ci (ci (.cons (.sl (ci .nil)) (ci (.cons (.sl (ci .nil)) (ci (ci (.cons (.sl (ci .nil)) (ci (.cons .bool (.cons (.sl (ci (ci .nil))) .nil)))))))))))))))))),λ(x:(Z3))=>Qi x,[(0,false)],[(false,1)],[(true,17)],[false,false,false,false,false,false,false,false,true,false,true,false,false,true,false,false,true],[]⟩
abbrev Qi.E :Env:=V.mkE V.tys [(53,Zd.con),(135,Xc.con),(163,Xm.con),(179,ZK.con),(180,Qh.con),(181,Xd.con)] [] [(6,7)] [] [] []
theorem Qi.eq (x0:(Z3)):V.evBody Qi.E Qi.con f146 ((x0):(Z3))=Qi x0:=by kernel_rfl
theorem Qi.ok :V.Valid prog 146 Qi.con:=
 V.fo (tab_cons Zd.ok (tab_cons Xc.ok (tab_cons Xm.ok (tab_cons ZK.ok (tab_cons Qh.ok (tab_cons Xd.ok tab_nil)))))) func146 (by kernel_rfl) (λx y h=>(show V.evBody Qi.E Qi.con f146 x=_ from Qi.eq x).trans (V.cfl (by kernel_rfl) h))
abbrev Qj.con :V.Con:=⟨(.cons (.ptr (.cons (.sl (.cons (.int .u8) .nil)) (ci (ci .nil)))) .nil),(.cons (.ptr (.cons (.sl (.cons (.int .u8) .nil)) (ci (ci .nil)))) (.cons (.sl V.eSigned) .nil)),λ(x:(Z3))=>Qj x,[(0,false)],[(false,1)],[(false,1)],[true],[]⟩
abbrev Qj.E :Env:=V.mkE V.tys [(53,Zd.con),(145,YK.con),(146,Qi.con)] [] [] [] [] []
theorem Qj.eq (x0:(Z3)):V.evBody Qj.E Qj.con f101 ((x0):(Z3))=Qj x0:=by kernel_rfl
theorem Qj.ok :V.Valid prog 101 Qj.con:=
 V.fo (tab_cons Zd.ok (tab_cons YK.ok (tab_cons Qi.ok tab_nil))) func101 (by kernel_rfl) (λx y h=>(show V.evBody Qj.E Qj.con f101 x=_ from Qj.eq x).trans (V.cfl (by kernel_rfl) h))
abbrev U4.con :V.Con:=⟨(.cons (.ptr (.cons (.sl (.cons (.int .u8) .nil)) (ci (ci .nil)))) .nil),(.cons (.ptr (.cons (.sl (.cons (.int .u8) .nil)) (ci (ci .nil)))) (.cons (.sl V.eSigned) (.cons (.sl V.eEntry) .nil))),λ(x:(Z3))=>U4 x,[(0,false)],[(false,1)],[(true,2)],[false,false],[]⟩
abbrev U4.E :Env:=V.mkE V.tys [(53,Zd.con),(99,ZC.con),(100,YM.con),(101,Qj.con)] [] [] [] [] []
theorem U4.eq (x0:(Z3)):V.evBody U4.E U4.con f57 ((x0):(Z3))=U4 x0:=by kernel_rfl
theorem U4.ok :V.Valid prog 57 U4.con:=
 V.fo (tab_cons Zd.ok (tab_cons ZC.ok (tab_cons YM.ok (tab_cons Qj.ok tab_nil)))) func57 (by kernel_rfl) (λx y h=>(show V.evBody U4.E U4.con f57 x=_ from U4.eq x).trans (V.cfl (by kernel_rfl) h))
abbrev WK.con :V.Con:=⟨(.cons (.ptr (.cons (.sl (.cons (.int .u8) .nil)) (ci (ci .nil)))) .nil),(.cons (.ptr (.cons (.sl (.cons (.int .u8) .nil)) (ci (ci .nil)))) (.cons (.sl (.cons (.sl V.eSigned) (.cons (.sl V.eEntry) .nil))) (ci .nil))),λ(x:(Z3))=>WK x,[(0,false)],[(false,1)],[(true,2)],[false,false],[]⟩
abbrev WK.E :Env:=V.mkE V.tys [(53,Zd.con),(57,U4.con),(63,YB.con),(64,XG.con)] [] [] [320064,448256] [] [(6,[1000])]
theorem WK.eq (x0:(Z3)):V.evBody WK.E WK.con f25 ((x0):(Z3))=WK x0:=by kernel_rfl
theorem WK.ok :V.Valid prog 25 WK.con:=
 V.fo (tab_cons Zd.ok (tab_cons U4.ok (tab_cons YB.ok (tab_cons XG.ok tab_nil)))) func25 (by kernel_rfl) (λx y h=>(show V.evBody WK.E WK.con f25 x=_ from WK.eq x).trans (V.cfl (by kernel_rfl) h))
abbrev X8.con :V.Con:=⟨(.cons (.ptr (.cons (.sl (.cons (.int .u8) .nil)) (ci (ci .nil)))) (.cons (.sl V.eSigned) (.cons (.sl V.eEntry) .nil))),(.cons (.ptr (.cons (.sl (.cons (.int .u8) .nil)) (ci (ci .nil)))) (.cons .str .nil)),λ(x:(Z3)×List Z4×List Z0)=>X8 x.1 x.2,[(0,false)],[(false,1),(true,2)],[(false,1)],[false],[]⟩
abbrev X8.E :Env:=V.mkE V.tys [(53,Zd.con),(55,Xu.con),(66,Wj.con)] [(5,[0,3,13],[])] [] [] [] [(2,[1000])]
abbrev X8.kt (x0:(Z3))(x1:Z7):Kt ((Z3)×ByteArray):=ktOf X8.E X8.con f65 ((x0,x1.1,x1.2):(Z3)×List Z4×List Z0)
abbrev X8.s5 (x0:(Z3))(x1:Z7)(bM:Bool)(aQ:Int)(aR:Int):St:=⟨[(0, .v false [.ptr 0 0]),(3, .v false [.ptr 64000 0]),(13, .v false [.val (.bool bM)])],[(0, .box [.val (.sl (.cons (.int .u8) .nil) x0.1), .vi (aQ), .vi (aR)]),(64000, .box [.val (.sl V.eSigned x1.1), .val (.sl V.eEntry x1.2)])]⟩
theorem X8.r5 (x0:(Z3))(x1:Z7)(bM:Bool)(aQ:Int)(aR:Int):joinF X8.E f65.ntmps [1,0] [] (codeOf f65) (X8.kt x0 x1) (X8.s5 x0 x1 bM aQ aR)=X8.g5 x0 x1 bM aQ aR:=by kernel_rfl
theorem X8.e5 (x0:(Z3))(x1:Z7)(bM:Bool)(aQ:Int)(aR:Int):jn (joinF X8.E f65.ntmps [1,0] [] (codeOf f65) (X8.kt x0 x1)) (X8.s5 x0 x1 bM aQ aR)=X8.l5 x0 x1 bM aQ aR:=by
 rw[jn_eq,X8.r5]
 rfl
theorem X8.v (x0:(Z3))(x1:Z7):V.evBody X8.E X8.con f65 ((x0,x1.1,x1.2):(Z3)×List Z4×List Z0)=X8.b x0 x1 (λbM aQ aR=>jn (joinF X8.E f65.ntmps [1,0] [] (codeOf f65) (X8.kt x0 x1)) (X8.s5 x0 x1 bM aQ aR)):=by kernel_rfl
theorem X8.eq (x0:(Z3))(x1:Z7):V.evBody X8.E X8.con f65 ((x0,x1.1,x1.2):(Z3)×List Z4×List Z0)=X8 x0 x1:=by
 rw[X8.v]
 simp only[X8.e5]
 rfl
theorem X8.ok :V.Valid prog 65 X8.con:=
 V.fo (tab_cons Zd.ok (tab_cons Xu.ok (tab_cons Wj.ok tab_nil))) func65 (by kernel_rfl) (λx y h=>(show V.evBody X8.E X8.con f65 x=_ from X8.eq x.1 x.2).trans (V.cfl (by kernel_rfl) h))
abbrev ZE.con :V.Con:=⟨(.cons (.ptr (.cons (.sl (.cons (.int .u8) .nil)) (ci (ci .nil)))) (.cons (.sl (.cons (.sl V.eSigned) (.cons (.sl V.eEntry) .nil))) (ci .nil))),(.cons (.ptr (.cons (.sl (.cons (.int .u8) .nil)) (ci (ci .nil)))) (ci (.cons .str .nil))),λ(x:(Z3)×List Z7×Int)=>ZE x.1 x.2,[(0,false)],[(false,1),(true,2)],[(false,1),(false,1)],[false,false],[]⟩
abbrev ZE.E :Env:=V.mkE V.tys [(20,Wq.con),(53,Zd.con),(55,Xu.con),(65,X8.con),(66,Wj.con)] [(5,[0,3,15],[]),(7,[0,6],[])] [(3,4)] [] [] [(2,[1000])]
abbrev ZE.kt (x0:(Z3))(x1:Z8):Kt ((Z3)×Int×ByteArray):=ktOf ZE.E ZE.con f26 ((x0,x1.1,x1.2):(Z3)×List Z7×Int)
abbrev ZE.s7 (x0:(Z3))(aT:Int)(bO:Int)(c9:List Z4)(cA:List Z0):St:=⟨[(0, .v false [.ptr 0 0]),(6, .v false [.ptr 192576 0])],[(0, .box [.val (.sl (.cons (.int .u8) .nil) x0.1), .vi (aT), .vi (bO)]),(192576, .box [.val (.sl V.eSigned c9), .val (.sl V.eEntry cA)])]⟩
abbrev ZE.s5 (x0:(Z3))(x1:Z8)(bM:Bool)(aQ:Int)(aR:Int):St:=⟨[(0, .v false [.ptr 0 0]),(3, .v false [.ptr 64000 0]),(15, .v false [.val (.bool bM)])],[(0, .box [.val (.sl (.cons (.int .u8) .nil) x0.1), .vi (aQ), .vi (aR)]),(64000, .box [.val (.sl (.cons (.sl V.eSigned) (.cons (.sl V.eEntry) .nil)) x1.1), .vi (x1.2)])]⟩
theorem ZE.r7 (x0:(Z3))(x1:Z8)(aT:Int)(bO:Int)(c9:List Z4)(cA:List Z0):joinF ZE.E f26.ntmps [1,0,1,0] [] (codeOf f26) (ZE.kt x0 x1) (ZE.s7 x0 aT bO c9 cA)=ZE.g7 x0 aT bO c9 cA:=by kernel_rfl
theorem ZE.e7 (x0:(Z3))(x1:Z8)(aT:Int)(bO:Int)(c9:List Z4)(cA:List Z0):jn (joinF ZE.E f26.ntmps [1,0,1,0] [] (codeOf f26) (ZE.kt x0 x1)) (ZE.s7 x0 aT bO c9 cA)=ZE.l7 x0 aT bO c9 cA:=by
 rw[jn_eq,ZE.r7]
 rfl
theorem ZE.r5 (x0:(Z3))(x1:Z8)(bM:Bool)(aQ:Int)(aR:Int):joinF ZE.E f26.ntmps [1,0] [] (codeOf f26) (ZE.kt x0 x1) (ZE.s5 x0 x1 bM aQ aR)=ZE.g5 x0 x1 (λaT bO c9 cA=>jn (joinF ZE.E f26.ntmps [1,0,1,0] [] (codeOf f26) (ZE.kt x0 x1)) (ZE.s7 x0 aT bO c9 cA)) bM aQ aR:=by kernel_rfl
theorem ZE.e5 (x0:(Z3))(x1:Z8)(bM:Bool)(aQ:Int)(aR:Int):jn (joinF ZE.E f26.ntmps [1,0] [] (codeOf f26) (ZE.kt x0 x1)) (ZE.s5 x0 x1 bM aQ aR)=ZE.l5 x0 x1 bM aQ aR:=by
 rw[jn_eq,ZE.r5]
 simp only[ZE.e7]
 rfl
theorem ZE.v (x0:(Z3))(x1:Z8):V.evBody ZE.E ZE.con f26 ((x0,x1.1,x1.2):(Z3)×List Z7×Int)=ZE.b x0 x1 (λbM aQ aR=>jn (joinF ZE.E f26.ntmps [1,0] [] (codeOf f26) (ZE.kt x0 x1)) (ZE.s5 x0 x1 bM aQ aR)):=by kernel_rfl
theorem ZE.eq (x0:(Z3))(x1:Z8):V.evBody ZE.E ZE.con f26 ((x0,x1.1,x1.2):(Z3)×List Z7×Int)=ZE x0 x1:=by
 rw[ZE.v]
 simp only[ZE.e5]
 rfl
theorem ZE.ok :V.Valid prog 26 ZE.con:=
 V.fo (tab_cons Wq.ok (tab_cons Zd.ok (tab_cons Xu.ok (tab_cons X8.ok (tab_cons Wj.ok tab_nil))))) func26 (by kernel_rfl) (λx y h=>(show V.evBody ZE.E ZE.con f26 x=_ from ZE.eq x.1 x.2).trans (V.cfl (by kernel_rfl) h))
abbrev Qa.con :V.Con:=⟨(.cons (.sl (.cons (.int .u8) .nil)) .nil),V.eRServerIntStr,λ(x:List Int)=>Qa x,[],[(false,1)],[(true,2),(false,1),(false,1)],[false,false,false,false],[]⟩
abbrev Qa.E :Env:=V.mkE V.tys [(24,Zx.con),(25,WK.con),(26,ZE.con)] [] [] [] [] []
theorem Qa.eq (x0:List Int):V.evBody Qa.E Qa.con f5 ((x0):List Int)=Qa x0:=by kernel_rfl
theorem Qa.ok :V.Valid prog 5 Qa.con:=
 V.fo (tab_cons Zx.ok (tab_cons WK.ok (tab_cons ZE.ok tab_nil))) func5 (by kernel_rfl) (λx y h=>(show V.evBody Qa.E Qa.con f5 x=_ from Qa.eq x).trans (V.cfl (by kernel_rfl) h))
abbrev ZW.con :V.Con:=⟨(ci (ci (ci .nil))),(.cons .bool .nil),λ(x:Int×Int×Int)=>ZW x.1 x.2.1 x.2.2,[],[(false,1),(false,1),(false,1)],[(false,1)],[false],[]⟩
abbrev ZW.E :Env:=V.mkE V.tys [] [] [] [] [] []
theorem ZW.eq (x0:Int)(x1:Int)(x2:Int):V.evBody ZW.E ZW.con f36 ((x0,x1,x2):Int×Int×Int)=ZW x0 x1 x2:=by kernel_rfl
theorem ZW.ok :V.Valid prog 36 ZW.con:=
 V.fo tab_nil func36 (by kernel_rfl) (λx y h=>(show V.evBody ZW.E ZW.con f36 x=_ from ZW.eq x.1 x.2.1 x.2.2).trans (V.cfl (by kernel_rfl) h))
abbrev WD.con :V.Con:=⟨(ci .nil),(.cons .bool .nil),λ(x:Int)=>WD x,[],[(false,1)],[(false,1)],[false],[]⟩
abbrev WD.E :Env:=V.mkE V.tys [(36,ZW.con)] [] [] [] [] []
theorem WD.eq (x0:Int):V.evBody WD.E WD.con f169 ((x0):Int)=WD x0:=by kernel_rfl
theorem WD.ok :V.Valid prog 169 WD.con:=
 V.fo (tab_cons ZW.ok tab_nil) func169 (by kernel_rfl) (λx y h=>(show V.evBody WD.E WD.con f169 x=_ from WD.eq x).trans (V.cfl (by kernel_rfl) h))
abbrev W1.con :V.Con:=⟨V.A0,(.cons .bool .nil),λ(x:V.D0)=>W1 (V.p0_0 x),[],[(true,16)],[(false,1)],[false],[]⟩
abbrev W1.E :Env:=V.mkE V.tys [] [] [] [] [] []
abbrev W1.kt (x0:Z5):Kt Bool:=ktOf W1.E W1.con f209 (V.fl0 x0)
abbrev W1.s (x0:Z5):St:=⟨[(0, .v true (V.lsHead x0))],[]⟩
theorem W1.v0 (x0:Z5):V.evBody W1.E W1.con f209 (V.fl0 x0)=evC W1.E f209.ntmps (codeOf f209) (W1.kt x0) (W1.s x0):=by kernel_rfl
theorem W1.v (x0:Z5):evC W1.E f209.ntmps (codeOf f209) (W1.kt x0) (W1.s x0)=W1 x0:=by kernel_rfl
theorem W1.eq (x0:Z5):V.evBody W1.E W1.con f209 (V.fl0 x0)=W1 x0:=(W1.v0 x0).trans (W1.v x0)
theorem W1.ok :V.Valid prog 209 W1.con:=
 V.fo tab_nil func209 (by kernel_rfl) (λx y h=>(show V.evBody W1.E W1.con f209 x=_ from W1.eq (V.p0_0 x)).trans (V.cfl (by kernel_rfl) h))
abbrev Yx.con :V.Con:=⟨(.cons (.sl (ci .nil)) .nil),(.cons .bool .nil),λ(x:List Int)=>Yx x,[],[(false,1)],[(false,1)],[false],[]⟩
abbrev Yx.E :Env:=V.mkE V.tys [] [(4,[0,5,6],[])] [(4,12)] [] [] []
abbrev Yx.kt (x0:List Int):Kt Bool:=ktOf Yx.E Yx.con f227 ((x0):List Int)
abbrev Yx.s4 (x0:List Int)(aI:Int)(aF:Int):St:=⟨[(0, .v false [.val (.sl (ci .nil) x0)]),(5, .v false [.vi (aI)]),(6, .v false [.vi (aF)])],[]⟩
theorem Yx.r4 (x0:List Int)(R:St->Option Bool)(aI:Int)(aF:Int):loopF Yx.E f227.ntmps [1,0,1,0] [] (codeOf f227) (Yx.kt x0) R (Yx.s4 x0 aI aF)=Yx.g4 x0 (λaI aF=>R (Yx.s4 x0 aI aF)) aI aF:=by kernel_rfl
theorem Yx.e4 (x0:List Int):∀(n:Nat) (aI:Int) (aF:Int),loopN (loopF Yx.E f227.ntmps [1,0,1,0] [] (codeOf f227) (Yx.kt x0)) n (Yx.s4 x0 aI aF)=Yx.l4 x0 n aI aF:=by
 intro n
 induction n with
 |zero=>intros;rw[loopN_z];rfl
 |succ n ih=>
  intro aI aF
  rw[loopN_s,Yx.r4]
  simp only[ih]
  first|exact(Yx.u4 ..).symm|rfl
theorem Yx.v (x0:List Int):V.evBody Yx.E Yx.con f227 ((x0):List Int)=Yx.b x0 (λaI aF=>loopN (loopF Yx.E f227.ntmps [1,0,1,0] [] (codeOf f227) (Yx.kt x0)) V.KK (Yx.s4 x0 aI aF)):=by kernel_rfl
theorem Yx.eq (x0:List Int):V.evBody Yx.E Yx.con f227 ((x0):List Int)=Yx x0:=by
 rw[Yx.v]
 simp only[Yx.e4]
 rfl
theorem Yx.ok :V.Valid prog 227 Yx.con:=
 V.fo tab_nil func227 (by kernel_rfl) (λx y h=>(show V.evBody Yx.E Yx.con f227 x=_ from Yx.eq x).trans (V.cfl (by kernel_rfl) h))
abbrev U0.con :V.Con:=⟨(ci .nil),(.cons .bool .nil),λ(x:Int)=>U0 x,[],[(false,1)],[(false,1)],[false],[]⟩
abbrev U0.E :Env:=V.mkE V.tys [(36,ZW.con)] [] [] [] [] []
theorem U0.eq (x0:Int):V.evBody U0.E U0.con f228 ((x0):Int)=U0 x0:=by kernel_rfl
theorem U0.ok :V.Valid prog 228 U0.con:=
 V.fo (tab_cons ZW.ok tab_nil) func228 (by kernel_rfl) (λx y h=>(show V.evBody U0.E U0.con f228 x=_ from U0.eq x).trans (V.cfl (by kernel_rfl) h))
abbrev WC.con :V.Con:=⟨(.cons (.sl (ci .nil)) (ci .nil)),(.cons .bool .nil),λ(x:List Int×Int)=>WC x,[],[(true,2)],[(false,1)],[false],[]⟩
abbrev WC.E :Env:=V.mkE V.tys [(36,ZW.con),(227,Yx.con),(228,U0.con)] [] [] [] [] []
theorem WC.eq (x0:Zc):V.evBody WC.E WC.con f210 ((x0.1,x0.2):List Int×Int)=WC x0:=by kernel_rfl
theorem WC.ok :V.Valid prog 210 WC.con:=
 V.fo (tab_cons ZW.ok (tab_cons Yx.ok (tab_cons U0.ok tab_nil))) func210 (by kernel_rfl) (λx y h=>(show V.evBody WC.E WC.con f210 x=_ from WC.eq x).trans (V.cfl (by kernel_rfl) h))
abbrev Wb.con :V.Con:=⟨(.cons (.sl (ci .nil)) (ci .nil)),(.cons .bool .nil),λ(x:List Int×Int)=>Wb x,[],[(true,2)],[(false,1)],[false],[]⟩
abbrev Wb.E :Env:=V.mkE V.tys [] [] [] [] [] []
theorem Wb.eq (x0:Zc):V.evBody Wb.E Wb.con Tryz.f213 ((x0.1,x0.2):List Int×Int)=Wb x0:=by kernel_rfl
theorem Wb.ok :V.Valid prog 213 Wb.con:=
 V.fo tab_nil func213 (by kernel_rfl) (λx y h=>(show V.evBody Wb.E Wb.con Tryz.f213 x=_ from Wb.eq x).trans (V.cfl (by kernel_rfl) h))
abbrev Q1.con :V.Con:=⟨(.cons (.sl (ci .nil)) (ci .nil)),(.cons .bool .nil),λ(x:List Int×Int)=>Q1 x,[],[(true,2)],[(false,1)],[false],[]⟩
abbrev Q1.E :Env:=V.mkE V.tys [(210,WC.con),(213,Wb.con)] [] [] [] [] []
theorem Q1.eq (x0:Zc):V.evBody Q1.E Q1.con f211 ((x0.1,x0.2):List Int×Int)=Q1 x0:=by kernel_rfl
theorem Q1.ok :V.Valid prog 211 Q1.con:=
 V.fo (tab_cons WC.ok (tab_cons Wb.ok tab_nil)) func211 (by kernel_rfl) (λx y h=>(show V.evBody Q1.E Q1.con f211 x=_ from Q1.eq x).trans (V.cfl (by kernel_rfl) h))
abbrev Qt.con :V.Con:=⟨(ci (.cons (.sl (ci .nil)) (ci .nil))),(.cons .bool .nil),λ(x:Int×List Int×Int)=>Qt x.1 x.2,[],[(false,1),(true,2)],[(false,1)],[false],[]⟩
abbrev Qt.E :Env:=V.mkE V.tys [(36,ZW.con),(213,Wb.con)] [] [] [] [] []
theorem Qt.eq (x0:Int)(x1:Zc):V.evBody Qt.E Qt.con f212 ((x0,x1.1,x1.2):Int×List Int×Int)=Qt x0 x1:=by kernel_rfl
theorem Qt.ok :V.Valid prog 212 Qt.con:=
 V.fo (tab_cons ZW.ok (tab_cons Wb.ok tab_nil)) func212 (by kernel_rfl) (λx y h=>(show V.evBody Qt.E Qt.con f212 x=_ from Qt.eq x.1 x.2).trans (V.cfl (by kernel_rfl) h))
abbrev Xy.con :V.Con:=⟨V.A0,(.cons .bool .nil),λ(x:V.D0)=>Xy (V.p0_0 x),[],[(true,16)],[(false,1)],[false],[]⟩
abbrev Xy.E :Env:=V.mkE V.tys [(36,ZW.con),(169,WD.con),(209,W1.con),(210,WC.con),(211,Q1.con),(212,Qt.con),(213,Wb.con)] [] [] [] [] []
abbrev Xy.kt (x0:Z5):Kt Bool:=ktOf Xy.E Xy.con f185 (V.fl0 x0)
abbrev Xy.s (x0:Z5):St:=⟨[(0, .v true (V.lsHead x0))],[]⟩
theorem Xy.v0 (x0:Z5):V.evBody Xy.E Xy.con f185 (V.fl0 x0)=evC Xy.E f185.ntmps (codeOf f185) (Xy.kt x0) (Xy.s x0):=by kernel_rfl
theorem Xy.v (x0:Z5):evC Xy.E f185.ntmps (codeOf f185) (Xy.kt x0) (Xy.s x0)=Xy x0:=by kernel_rfl
theorem Xy.eq (x0:Z5):V.evBody Xy.E Xy.con f185 (V.fl0 x0)=Xy x0:=(Xy.v0 x0).trans (Xy.v x0)
theorem Xy.ok :V.Valid prog 185 Xy.con:=
 V.fo (tab_cons ZW.ok (tab_cons WD.ok (tab_cons W1.ok (tab_cons WC.ok (tab_cons Q1.ok (tab_cons Qt.ok (tab_cons Wb.ok tab_nil))))))) func185 (by kernel_rfl) (λx y h=>(show V.evBody Xy.E Xy.con f185 x=_ from Xy.eq (V.p0_0 x)).trans (V.cfl (by kernel_rfl) h))
abbrev Wt.con :V.Con:=⟨(.cons (.sl (ci .nil)) (ci .nil)),(.cons (.sl (ci .nil)) .nil),λ(x:List Int×Int)=>Wt x,[],[(true,2)],[(false,1)],[true],[]⟩
abbrev Wt.E :Env:=V.mkE V.tys [] [] [] [] [] []
theorem Wt.eq (x0:Zc):V.evBody Wt.E Wt.con f183 ((x0.1,x0.2):List Int×Int)=Wt x0:=by kernel_rfl
theorem Wt.ok :V.Valid prog 183 Wt.con:=
 V.fo tab_nil func183 (by kernel_rfl) (λx y h=>(show V.evBody Wt.E Wt.con f183 x=_ from Wt.eq x).trans (V.cfl (by kernel_rfl) h))
abbrev Ur.con :V.Con:=⟨(ci (ci .nil)),(ci .nil),λ(x:Int×Int)=>Ur x.1 x.2,[],[(false,1),(false,1)],[(false,1)],[false],[]⟩
abbrev Ur.E :Env:=V.mkE V.tys [(36,ZW.con)] [] [] [] [] []
theorem Ur.eq (x0:Int)(x1:Int):V.evBody Ur.E Ur.con f198 ((x0,x1):Int×Int)=Ur x0 x1:=by kernel_rfl
theorem Ur.ok :V.Valid prog 198 Ur.con:=
 V.fo (tab_cons ZW.ok tab_nil) func198 (by kernel_rfl) (λx y h=>(show V.evBody Ur.E Ur.con f198 x=_ from Ur.eq x.1 x.2).trans (V.cfl (by kernel_rfl) h))
abbrev ZQ.con :V.Con:=⟨(.cons (.sl (ci .nil)) .nil),(ci .nil),λ(x:List Int)=>ZQ x,[],[(false,1)],[(false,1)],[false],[]⟩
abbrev ZQ.E :Env:=V.mkE V.tys [(198,Ur.con)] [(6,[3,6,7,8],[])] [] [] [] []
abbrev ZQ.kt (x0:List Int):Kt Int:=ktOf ZQ.E ZQ.con f167 ((x0):List Int)
abbrev ZQ.s6 (x0:List Int)(aH:Int)(aA:Int)(aD:Int):St:=⟨[(3, .v false [.vi (aH)]),(6, .v false [.val (.sl (ci .nil) x0)]),(7, .v false [.vi (aA)]),(8, .v false [.vi (aD)])],[]⟩
theorem ZQ.r6 (x0:List Int)(R:St->Option Int)(aH:Int)(aA:Int)(aD:Int):loopF ZQ.E f167.ntmps [1,1,0,1,0] [] (codeOf f167) (ZQ.kt x0) R (ZQ.s6 x0 aH aA aD)=ZQ.g6 x0 (λaH aA aD=>R (ZQ.s6 x0 aH aA aD)) aH aA aD:=by kernel_rfl
theorem ZQ.e6 (x0:List Int):∀(n:Nat) (aH:Int) (aA:Int) (aD:Int),loopN (loopF ZQ.E f167.ntmps [1,1,0,1,0] [] (codeOf f167) (ZQ.kt x0)) n (ZQ.s6 x0 aH aA aD)=ZQ.l6 x0 n aH aA aD:=by
 intro n
 induction n with
 |zero=>intros;rw[loopN_z];rfl
 |succ n ih=>
  intro aH aA aD
  rw[loopN_s,ZQ.r6]
  simp only[ih]
  first|exact(ZQ.u6 ..).symm|rfl
theorem ZQ.v (x0:List Int):V.evBody ZQ.E ZQ.con f167 ((x0):List Int)=ZQ.b x0 (λaH aA aD=>loopN (loopF ZQ.E f167.ntmps [1,1,0,1,0] [] (codeOf f167) (ZQ.kt x0)) V.KK (ZQ.s6 x0 aH aA aD)):=by kernel_rfl
theorem ZQ.eq (x0:List Int):V.evBody ZQ.E ZQ.con f167 ((x0):List Int)=ZQ x0:=by
 rw[ZQ.v]
 simp only[ZQ.e6]
 rfl
theorem ZQ.ok :V.Valid prog 167 ZQ.con:=
 V.fo (tab_cons Ur.ok tab_nil) func167 (by kernel_rfl) (λx y h=>(show V.evBody ZQ.E ZQ.con f167 x=_ from ZQ.eq x).trans (V.cfl (by kernel_rfl) h))
abbrev Q0.con :V.Con:=⟨(.cons (.sl (ci .nil)) (ci (ci .nil))),(ci .nil),λ(x:List Int×Int×Int)=>Q0 (x.1,x.2.1) x.2.2,[],[(true,2),(false,1)],[(false,1)],[false],[]⟩
abbrev Q0.E :Env:=V.mkE V.tys [(167,ZQ.con),(183,Wt.con)] [] [] [] [] []
theorem Q0.eq (x0:Zc)(x1:Int):V.evBody Q0.E Q0.con f186 ((x0.1,x0.2,x1):List Int×Int×Int)=Q0 x0 x1:=by kernel_rfl
theorem Q0.ok :V.Valid prog 186 Q0.con:=
 V.fo (tab_cons ZQ.ok (tab_cons Wt.ok tab_nil)) func186 (by kernel_rfl) (λx y h=>(show V.evBody Q0.E Q0.con f186 x=_ from Q0.eq (x.1,x.2.1) x.2.2).trans (V.cfl (by kernel_rfl) h))
abbrev UE.con :V.Con:=⟨(.cons .bool .nil),(ci .nil),λ(x:Bool)=>UE x,[],[(false,1)],[(false,1)],[false],[]⟩
abbrev UE.E :Env:=V.mkE V.tys [] [] [] [] [] []
theorem UE.eq (x0:Bool):V.evBody UE.E UE.con f184 ((x0):Bool)=UE x0:=by kernel_rfl
theorem UE.ok :V.Valid prog 184 UE.con:=
 V.fo tab_nil func184 (by kernel_rfl) (λx y h=>(show V.evBody UE.E UE.con f184 x=_ from UE.eq x).trans (V.cfl (by kernel_rfl) h))
abbrev X9.con :V.Con:=⟨(.cons (.sl (ci .nil)) (ci .nil)),(.cons (.sl (ci .nil)) .nil),λ(x:List Int×Int)=>X9 x.1 x.2,[],[(false,1),(false,1)],[(false,1)],[true],[0]⟩
abbrev X9.E :Env:=V.mkE V.tys [] [(7,[0,1],[])] [] [] [] []
abbrev X9.kt (x0:List Int)(x1:Int):Kt (List Int):=ktOf X9.E X9.con f208 ((x0,x1):List Int×Int)
abbrev X9.s7 (x1:Int):St:=⟨[(0, .v false [.nil0]),(1, .v false [.vi (x1)])],[]⟩
theorem X9.r7 (x0:List Int)(x1:Int):joinF X9.E f208.ntmps [1] [] (codeOf f208) (X9.kt x0 x1) (X9.s7 x1)=X9.g7 x1:=by kernel_rfl
theorem X9.e7 (x0:List Int)(x1:Int):jn (joinF X9.E f208.ntmps [1] [] (codeOf f208) (X9.kt x0 x1)) (X9.s7 x1)=X9.l7 x1:=by
 rw[jn_eq,X9.r7]
 rfl
theorem X9.v (x0:List Int)(x1:Int):V.evBody X9.E X9.con f208 ((x0,x1):List Int×Int)=X9.b x0 x1 (jn (joinF X9.E f208.ntmps [1] [] (codeOf f208) (X9.kt x0 x1)) (X9.s7 x1)):=by kernel_rfl
theorem X9.eq (x0:List Int)(x1:Int):V.evBody X9.E X9.con f208 ((x0,x1):List Int×Int)=X9 x0 x1:=by
 rw[X9.v]
 simp only[X9.e7]
 rfl
theorem X9.ok :V.Valid prog 208 X9.con:=
 V.fo tab_nil func208 (by kernel_rfl) (λx y h=>(show V.evBody X9.E X9.con f208 x=_ from X9.eq x.1 x.2).trans (V.cfl (by kernel_rfl) h))
abbrev Zu.con :V.Con:=⟨(.cons (.sl (.cons (.sl (ci .nil)) .nil)) .nil),(.cons (.sl (ci .nil)) .nil),λ(x:List (List Int))=>Zu x,[],[(false,1)],[(false,1)],[true],[]⟩
abbrev Zu.E :Env:=V.mkE V.tys [(208,X9.con)] [(6,[0,3,9,10,11],[]),(22,[6,25,26,27],[])] [] [] [] []
abbrev Zu.kt (x0:List (List Int)):Kt (List Int):=ktOf Zu.E Zu.con f182 ((x0):List (List Int))
abbrev Zu.s22 (x0:List (List Int))(d4:Int)(cO:Int)(cU:List Int):St:=⟨[(6, .v false [.ref 64000140800384]),(25, .v false [.val (.sl (.cons (.sl (ci .nil)) .nil) x0)]),(26, .v false [.vi (d4)]),(27, .v false [.vi (cO)])],[(64000140800384, .row (ci .nil) true cU)]⟩
abbrev Zu.s6 (x0:List (List Int))(aE:Int)(aD:Int)(aJ:Int):St:=⟨[(0, .v false [.val (.sl (.cons (.sl (ci .nil)) .nil) x0)]),(3, .v false [.vi (aE)]),(9, .v false [.val (.sl (.cons (.sl (ci .nil)) .nil) x0)]),(10, .v false [.vi (aD)]),(11, .v false [.vi (aJ)])],[]⟩
theorem Zu.r22 (x0:List (List Int))(R:St->Option (List Int))(d4:Int)(cO:Int)(cU:List Int):loopF Zu.E f182.ntmps [1,1,1,1,0,1,0] [] (codeOf f182) (Zu.kt x0) R (Zu.s22 x0 d4 cO cU)=Zu.g22 x0 (λd4 cO cU=>R (Zu.s22 x0 d4 cO cU)) d4 cO cU:=by kernel_rfl
theorem Zu.e22 (x0:List (List Int)):∀(n:Nat) (d4:Int) (cO:Int) (cU:List Int),loopN (loopF Zu.E f182.ntmps [1,1,1,1,0,1,0] [] (codeOf f182) (Zu.kt x0)) n (Zu.s22 x0 d4 cO cU)=Zu.l22 x0 n d4 cO cU:=by
 intro n
 induction n with
 |zero=>intros;rw[loopN_z];rfl
 |succ n ih=>
  intro d4 cO cU
  rw[loopN_s,Zu.r22]
  simp only[ih]
  first|exact(Zu.u22 ..).symm|rfl
theorem Zu.r6 (x0:List (List Int))(R:St->Option (List Int))(aE:Int)(aD:Int)(aJ:Int):loopF Zu.E f182.ntmps [1,1,0,1,0] [] (codeOf f182) (Zu.kt x0) R (Zu.s6 x0 aE aD aJ)=Zu.g6 x0 (λaE aD aJ=>R (Zu.s6 x0 aE aD aJ)) (λd4 cO cU=>loopN (loopF Zu.E f182.ntmps [1,1,1,1,0,1,0] [] (codeOf f182) (Zu.kt x0)) V.KK (Zu.s22 x0 d4 cO cU)) aE aD aJ:=by kernel_rfl
theorem Zu.e6 (x0:List (List Int)):∀(n:Nat) (aE:Int) (aD:Int) (aJ:Int),loopN (loopF Zu.E f182.ntmps [1,1,0,1,0] [] (codeOf f182) (Zu.kt x0)) n (Zu.s6 x0 aE aD aJ)=Zu.l6 x0 n aE aD aJ:=by
 intro n
 induction n with
 |zero=>intros;rw[loopN_z];rfl
 |succ n ih=>
  intro aE aD aJ
  rw[loopN_s,Zu.r6]
  simp only[Zu.e22,ih]
  first|exact(Zu.u6 ..).symm|rfl
theorem Zu.v (x0:List (List Int)):V.evBody Zu.E Zu.con f182 ((x0):List (List Int))=Zu.b x0 (λaE aD aJ=>loopN (loopF Zu.E f182.ntmps [1,1,0,1,0] [] (codeOf f182) (Zu.kt x0)) V.KK (Zu.s6 x0 aE aD aJ)):=by kernel_rfl
theorem Zu.eq (x0:List (List Int)):V.evBody Zu.E Zu.con f182 ((x0):List (List Int))=Zu x0:=by
 rw[Zu.v]
 simp only[Zu.e6]
 rfl
theorem Zu.ok :V.Valid prog 182 Zu.con:=
 V.fo (tab_cons X9.ok tab_nil) func182 (by kernel_rfl) (λx y h=>(show V.evBody Zu.E Zu.con f182 x=_ from Zu.eq x).trans (V.cfl (by kernel_rfl) h))
abbrev Xo.con :V.Con:=⟨V.A0,(.cons (.sl (ci .nil)) .nil),λ(x:V.D0)=>Xo (V.p0_0 x),[],[(true,16)],[(false,1)],[true],[]⟩
abbrev Xo.E :Env:=V.mkE V.tys [(182,Zu.con),(183,Wt.con),(184,UE.con)] [] [(1,33)] [] [] []
abbrev Xo.kt (x0:Z5):Kt (List Int):=ktOf Xo.E Xo.con f150 (V.fl0 x0)
abbrev Xo.s (x0:Z5):St:=⟨[(0, .v true (V.lsHead x0))],[]⟩
theorem Xo.v0 (x0:Z5):V.evBody Xo.E Xo.con f150 (V.fl0 x0)=evC Xo.E f150.ntmps (codeOf f150) (Xo.kt x0) (Xo.s x0):=by kernel_rfl
theorem Xo.v (x0:Z5):evC Xo.E f150.ntmps (codeOf f150) (Xo.kt x0) (Xo.s x0)=Xo x0:=by kernel_rfl
theorem Xo.eq (x0:Z5):V.evBody Xo.E Xo.con f150 (V.fl0 x0)=Xo x0:=(Xo.v0 x0).trans (Xo.v x0)
theorem Xo.ok :V.Valid prog 150 Xo.con:=
 V.fo (tab_cons Zu.ok (tab_cons Wt.ok (tab_cons UE.ok tab_nil))) func150 (by kernel_rfl) (λx y h=>(show V.evBody Xo.E Xo.con f150 x=_ from Xo.eq (V.p0_0 x)).trans (V.cfl (by kernel_rfl) h))
abbrev UW.con :V.Con:=⟨(ci (.cons (.sl (ci .nil)) .nil)),(ci .nil),λ(x:Int×List Int)=>UW x.1 x.2,[],[(false,1),(false,1)],[(false,1)],[false],[]⟩
abbrev UW.E :Env:=V.mkE V.tys [(167,ZQ.con),(182,Zu.con)] [] [] [128320] [] []
theorem UW.eq (x0:Int)(x1:List Int):V.evBody UW.E UW.con f238 ((x0,x1):Int×List Int)=UW x0 x1:=by kernel_rfl
theorem UW.ok :V.Valid prog 238 UW.con:=
 V.fo (tab_cons ZQ.ok (tab_cons Zu.ok tab_nil)) func238 (by kernel_rfl) (λx y h=>(show V.evBody UW.E UW.con f238 x=_ from UW.eq x.1 x.2).trans (V.cfl (by kernel_rfl) h))
abbrev UZ.con :V.Con:=⟨(ci (.cons (.sl (ci .nil)) .nil)),(ci .nil),λ(x:Int×List Int)=>UZ x.1 x.2,[],[(false,1),(false,1)],[(false,1)],[false],[]⟩
abbrev UZ.E :Env:=V.mkE V.tys [(238,UW.con)] [] [] [] [] []
theorem UZ.eq (x0:Int)(x1:List Int):V.evBody UZ.E UZ.con f237 ((x0,x1):Int×List Int)=UZ x0 x1:=by kernel_rfl
theorem UZ.ok :V.Valid prog 237 UZ.con:=
 V.fo (tab_cons UW.ok tab_nil) func237 (by kernel_rfl) (λx y h=>(show V.evBody UZ.E UZ.con f237 x=_ from UZ.eq x.1 x.2).trans (V.cfl (by kernel_rfl) h))
abbrev UU.con :V.Con:=⟨(ci (ci (.cons (.sl (ci .nil)) .nil))),(.cons .bool .nil),λ(x:Int×Int×List Int)=>UU (x.1,x.2.1) x.2.2,[],[(true,2),(false,1)],[(false,1)],[false],[]⟩
abbrev UU.E :Env:=V.mkE V.tys [(228,U0.con),(237,UZ.con)] [] [(1,10)] [] [] []
theorem UU.eq (x0:Z9)(x1:List Int):V.evBody UU.E UU.con f235 ((x0.1,x0.2,x1):Int×Int×List Int)=UU x0 x1:=by kernel_rfl
theorem UU.ok :V.Valid prog 235 UU.con:=
 V.fo (tab_cons U0.ok (tab_cons UZ.ok tab_nil)) func235 (by kernel_rfl) (λx y h=>(show V.evBody UU.E UU.con f235 x=_ from UU.eq (x.1,x.2.1) x.2.2).trans (V.cfl (by kernel_rfl) h))
abbrev Qo.con :V.Con:=⟨(ci (ci (.cons (.ptr (ci .nil)) (.cons (.ptr (.cons (.sl (ci .nil)) .nil)) .nil)))),(.cons .bool .nil),λ(x:Int×Int×Int×List Int)=>Qo (x.1,x.2.1) x.2.2.1 x.2.2.2,[],[(true,2),(false,1),(false,1)],[(false,1)],[false],[]⟩
abbrev Qo.E :Env:=V.mkE V.tys [(235,UU.con)] [] [] [] [] []
theorem Qo.eq (x0:Z9)(x1:Int)(x2:List Int):V.evBody Qo.E Qo.con f234 ((x0.1,x0.2,x1,x2):Int×Int×Int×List Int)=Qo x0 x1 x2:=by kernel_rfl
theorem Qo.ok :V.Valid prog 234 Qo.con:=
 V.fo (tab_cons UU.ok tab_nil) func234 (by kernel_rfl) (λx y h=>(show V.evBody Qo.E Qo.con f234 x=_ from Qo.eq (x.1,x.2.1) x.2.2.1 x.2.2.2).trans (V.cfl (by kernel_rfl) h))
abbrev Yl.con :V.Con:=⟨(.cons (.sl (ci (ci .nil))) (.cons (.fn 234 false .nil (.cons (.ptr (ci .nil)) (.cons (.ptr (.cons (.sl (ci .nil)) .nil)) .nil))) .nil)),(ci .nil),λ(x:List Z9×(Unit)×(Int×List Int))=>Yl x.1 x.2,[],[(false,1),(false,1)],[(false,1)],[false],[]⟩
abbrev Yl.E :Env:=V.mkE V.tys [(234,Qo.con)] [(4,[0,1,7,8],[])] [] [] [] []
abbrev Yl.kt (x0:List Z9)(x1:(Unit)×(Int×List Int)):Kt Int:=ktOf Yl.E Yl.con f236 ((x0,x1):List Z9×(Unit)×(Int×List Int))
abbrev Yl.s4 (x0:List Z9)(x1:(Unit)×(Int×List Int))(aF:Int)(aM:Int):St:=⟨[(0, .v false [.val (.sl (ci (ci .nil)) x0)]),(1, .v false [.val (.fn 234 false .nil (.cons (.ptr (ci .nil)) (.cons (.ptr (.cons (.sl (ci .nil)) .nil)) .nil)) () x1.2)]),(7, .v false [.vi (aF)]),(8, .v false [.vi (aM)])],[]⟩
theorem Yl.r4 (x0:List Z9)(x1:(Unit)×(Int×List Int))(R:St->Option Int)(aF:Int)(aM:Int):loopF Yl.E f236.ntmps [1,0,1,0] [] (codeOf f236) (Yl.kt x0 x1) R (Yl.s4 x0 x1 aF aM)=Yl.g4 x0 x1 (λaF aM=>R (Yl.s4 x0 x1 aF aM)) aF aM:=by kernel_rfl
theorem Yl.e4 (x0:List Z9)(x1:(Unit)×(Int×List Int)):∀(n:Nat) (aF:Int) (aM:Int),loopN (loopF Yl.E f236.ntmps [1,0,1,0] [] (codeOf f236) (Yl.kt x0 x1)) n (Yl.s4 x0 x1 aF aM)=Yl.l4 x0 x1 n aF aM:=by
 intro n
 induction n with
 |zero=>intros;rw[loopN_z];rfl
 |succ n ih=>
  intro aF aM
  rw[loopN_s,Yl.r4]
  simp only[ih]
  first|exact(Yl.u4 ..).symm|rfl
theorem Yl.v (x0:List Z9)(x1:(Unit)×(Int×List Int)):V.evBody Yl.E Yl.con f236 ((x0,x1):List Z9×(Unit)×(Int×List Int))=Yl.b x0 x1 (λaF aM=>loopN (loopF Yl.E f236.ntmps [1,0,1,0] [] (codeOf f236) (Yl.kt x0 x1)) V.KK (Yl.s4 x0 x1 aF aM)):=by kernel_rfl
theorem Yl.eq (x0:List Z9)(x1:(Unit)×(Int×List Int)):V.evBody Yl.E Yl.con f236 ((x0,x1):List Z9×(Unit)×(Int×List Int))=Yl x0 x1:=by
 rw[Yl.v]
 simp only[Yl.e4]
 rfl
theorem Yl.ok :V.Valid prog 236 Yl.con:=
 V.fo (tab_cons Qo.ok tab_nil) func236 (by kernel_rfl) (λx y h=>(show V.evBody Yl.E Yl.con f236 x=_ from Yl.eq x.1 x.2).trans (V.cfl (by kernel_rfl) h))
abbrev Q6.con :V.Con:=⟨(.cons (.sl (ci (ci .nil))) (.cons (.fn 234 false .nil (.cons (.ptr (ci .nil)) (.cons (.ptr (.cons (.sl (ci .nil)) .nil)) .nil))) .nil)),(.cons .bool .nil),λ(x:List Z9×(Unit)×(Int×List Int))=>Q6 x.1 x.2,[],[(false,1),(false,1)],[(false,1)],[false],[]⟩
abbrev Q6.E :Env:=V.mkE V.tys [(236,Yl.con)] [] [] [] [] []
theorem Q6.eq (x0:List Z9)(x1:(Unit)×(Int×List Int)):V.evBody Q6.E Q6.con f233 ((x0,x1):List Z9×(Unit)×(Int×List Int))=Q6 x0 x1:=by kernel_rfl
theorem Q6.ok :V.Valid prog 233 Q6.con:=
 V.fo (tab_cons Yl.ok tab_nil) func233 (by kernel_rfl) (λx y h=>(show V.evBody Q6.E Q6.con f233 x=_ from Q6.eq x.1 x.2).trans (V.cfl (by kernel_rfl) h))
abbrev Yv.con :V.Con:=⟨(.cons (.sl (ci .nil)) (ci (.cons (.sl (ci .nil)) (.cons (.sl (ci (ci .nil))) .nil)))),(ci .nil),λ(x:List Int×Int×List Int×List Z9)=>Yv (x.1,x.2.1) x.2.2.1 x.2.2.2,[],[(true,2),(false,1),(false,1)],[(false,1)],[false],[]⟩
abbrev Yv.E :Env:=V.mkE V.tys [(233,Q6.con)] [(6,[2,4,7,11,12,13],[])] [] [] [] []
abbrev Yv.kt (x0:Zc)(x1:List Int)(x2:List Z9):Kt Int:=ktOf Yv.E Yv.con f229 ((x0.1,x0.2,x1,x2):List Int×Int×List Int×List Z9)
abbrev Yv.s6 (x0:Zc)(x1:List Int)(x2:List Z9)(aE:Int)(aD:Int)(aJ:Int):St:=⟨[(2, .v false [.val (.sl (ci (ci .nil)) x2)]),(4, .v false [.ptr 64064 0]),(7, .v false [.vi (aE)]),(11, .v false [.val (.sl (ci .nil) x0.1)]),(12, .v false [.vi (aD)]),(13, .v false [.vi (aJ)])],[(64064, .box [.val (.sl (ci .nil) x1)])]⟩
theorem Yv.r6 (x0:Zc)(x1:List Int)(x2:List Z9)(R:St->Option Int)(aE:Int)(aD:Int)(aJ:Int):loopF Yv.E f229.ntmps [1,1,0,1,0] [] (codeOf f229) (Yv.kt x0 x1 x2) R (Yv.s6 x0 x1 x2 aE aD aJ)=Yv.g6 x0 x1 x2 (λaE aD aJ=>R (Yv.s6 x0 x1 x2 aE aD aJ)) aE aD aJ:=by kernel_rfl
theorem Yv.e6 (x0:Zc)(x1:List Int)(x2:List Z9):∀(n:Nat) (aE:Int) (aD:Int) (aJ:Int),loopN (loopF Yv.E f229.ntmps [1,1,0,1,0] [] (codeOf f229) (Yv.kt x0 x1 x2)) n (Yv.s6 x0 x1 x2 aE aD aJ)=Yv.l6 x0 x1 x2 n aE aD aJ:=by
 intro n
 induction n with
 |zero=>intros;rw[loopN_z];rfl
 |succ n ih=>
  intro aE aD aJ
  rw[loopN_s,Yv.r6]
  simp only[ih]
  first|exact(Yv.u6 ..).symm|rfl
theorem Yv.v (x0:Zc)(x1:List Int)(x2:List Z9):V.evBody Yv.E Yv.con f229 ((x0.1,x0.2,x1,x2):List Int×Int×List Int×List Z9)=Yv.b x0 x1 x2 (λaE aD aJ=>loopN (loopF Yv.E f229.ntmps [1,1,0,1,0] [] (codeOf f229) (Yv.kt x0 x1 x2)) V.KK (Yv.s6 x0 x1 x2 aE aD aJ)):=by kernel_rfl
theorem Yv.eq (x0:Zc)(x1:List Int)(x2:List Z9):V.evBody Yv.E Yv.con f229 ((x0.1,x0.2,x1,x2):List Int×Int×List Int×List Z9)=Yv x0 x1 x2:=by
 rw[Yv.v]
 simp only[Yv.e6]
 rfl
theorem Yv.ok :V.Valid prog 229 Yv.con:=
 V.fo (tab_cons Q6.ok tab_nil) func229 (by kernel_rfl) (λx y h=>(show V.evBody Yv.E Yv.con f229 x=_ from Yv.eq (x.1,x.2.1) x.2.2.1 x.2.2.2).trans (V.cfl (by kernel_rfl) h))
abbrev UV.con :V.Con:=⟨(.cons (.sl (ci .nil)) (ci (.cons (.sl (ci .nil)) (.cons (.sl (ci (ci .nil))) .nil)))),(.cons .bool .nil),λ(x:List Int×Int×List Int×List Z9)=>UV (x.1,x.2.1) x.2.2.1 x.2.2.2,[],[(true,2),(false,1),(false,1)],[(false,1)],[false],[]⟩
abbrev UV.E :Env:=V.mkE V.tys [(210,WC.con),(229,Yv.con)] [] [(1,9)] [] [] []
theorem UV.eq (x0:Zc)(x1:List Int)(x2:List Z9):V.evBody UV.E UV.con f214 ((x0.1,x0.2,x1,x2):List Int×Int×List Int×List Z9)=UV x0 x1 x2:=by kernel_rfl
theorem UV.ok :V.Valid prog 214 UV.con:=
 V.fo (tab_cons WC.ok (tab_cons Yv.ok tab_nil)) func214 (by kernel_rfl) (λx y h=>(show V.evBody UV.E UV.con f214 x=_ from UV.eq (x.1,x.2.1) x.2.2.1 x.2.2.2).trans (V.cfl (by kernel_rfl) h))
abbrev Xn.con :V.Con:=⟨V.A11,(.cons .bool .nil),λ(x:V.D11)=>Xn (V.p11_0 x) (V.p11_1 x),[],[(true,17),(true,2)],[(false,1)],[false],[]⟩
abbrev Xn.E :Env:=V.mkE V.tys [(150,Xo.con),(214,UV.con)] [] [(1,6)] [] [] []
abbrev Xn.kt (x0:Z4)(x1:Zc):Kt Bool:=ktOf Xn.E Xn.con f187 (V.fl11 x0 x1)
abbrev Xn.s (x0:Z4)(x1:Zc):St:=⟨[(0, .v true (V.lsSigned x0)),(1, .v true [.val (.sl (ci .nil) x1.1), .vi (x1.2)])],[]⟩
theorem Xn.v0 (x0:Z4)(x1:Zc):V.evBody Xn.E Xn.con f187 (V.fl11 x0 x1)=evC Xn.E f187.ntmps (codeOf f187) (Xn.kt x0 x1) (Xn.s x0 x1):=by kernel_rfl
theorem Xn.v (x0:Z4)(x1:Zc):evC Xn.E f187.ntmps (codeOf f187) (Xn.kt x0 x1) (Xn.s x0 x1)=Xn x0 x1:=by kernel_rfl
theorem Xn.eq (x0:Z4)(x1:Zc):V.evBody Xn.E Xn.con f187 (V.fl11 x0 x1)=Xn x0 x1:=(Xn.v0 x0 x1).trans (Xn.v x0 x1)
theorem Xn.ok :V.Valid prog 187 Xn.con:=
 V.fo (tab_cons Xo.ok (tab_cons UV.ok tab_nil)) func187 (by kernel_rfl) (λx y h=>(show V.evBody Xn.E Xn.con f187 x=_ from Xn.eq (V.p11_0 x) (V.p11_1 x)).trans (V.cfl (by kernel_rfl) h))
abbrev XN.con :V.Con:=⟨V.A2,(.cons .bool .nil),λ(x:V.D2)=>XN (V.p2_0 x),[],[(true,17)],[(false,1)],[false],[]⟩
abbrev XN.E :Env:=V.mkE V.tys [(185,Xy.con),(186,Q0.con),(187,Xn.con)] [] [(2,31)] [] [] []
abbrev XN.kt (x0:Z4):Kt Bool:=ktOf XN.E XN.con f151 (V.fl2 x0)
abbrev XN.s (x0:Z4):St:=⟨[(0, .v true (V.lsSigned x0))],[]⟩
theorem XN.v0 (x0:Z4):V.evBody XN.E XN.con f151 (V.fl2 x0)=evC XN.E f151.ntmps (codeOf f151) (XN.kt x0) (XN.s x0):=by kernel_rfl
theorem XN.v (x0:Z4):evC XN.E f151.ntmps (codeOf f151) (XN.kt x0) (XN.s x0)=XN x0:=by kernel_rfl
theorem XN.eq (x0:Z4):V.evBody XN.E XN.con f151 (V.fl2 x0)=XN x0:=(XN.v0 x0).trans (XN.v x0)
theorem XN.ok :V.Valid prog 151 XN.con:=
 V.fo (tab_cons Xy.ok (tab_cons Q0.ok (tab_cons Xn.ok tab_nil))) func151 (by kernel_rfl) (λx y h=>(show V.evBody XN.E XN.con f151 x=_ from XN.eq (V.p2_0 x)).trans (V.cfl (by kernel_rfl) h))
abbrev XM.con :V.Con:=⟨V.A0,(ci .nil),λ(x:V.D0)=>XM (V.p0_0 x),[],[(true,16)],[(false,1)],[false],[]⟩
abbrev XM.E :Env:=V.mkE V.tys [(150,Xo.con),(167,ZQ.con)] [] [] [] [] []
abbrev XM.kt (x0:Z5):Kt Int:=ktOf XM.E XM.con f230 (V.fl0 x0)
abbrev XM.s (x0:Z5):St:=⟨[(0, .v true (V.lsHead x0))],[]⟩
theorem XM.v0 (x0:Z5):V.evBody XM.E XM.con f230 (V.fl0 x0)=evC XM.E f230.ntmps (codeOf f230) (XM.kt x0) (XM.s x0):=by kernel_rfl
theorem XM.v (x0:Z5):evC XM.E f230.ntmps (codeOf f230) (XM.kt x0) (XM.s x0)=XM x0:=by kernel_rfl
theorem XM.eq (x0:Z5):V.evBody XM.E XM.con f230 (V.fl0 x0)=XM x0:=(XM.v0 x0).trans (XM.v x0)
theorem XM.ok :V.Valid prog 230 XM.con:=
 V.fo (tab_cons Xo.ok (tab_cons ZQ.ok tab_nil)) func230 (by kernel_rfl) (λx y h=>(show V.evBody XM.E XM.con f230 x=_ from XM.eq (V.p0_0 x)).trans (V.cfl (by kernel_rfl) h))
abbrev XP.con :V.Con:=⟨V.A3,(.cons .bool .nil),λ(x:V.D3)=>XP (V.p3_0 x) (V.p3_1 x),[],[(true,16),(true,16)],[(false,1)],[false],[]⟩
abbrev XP.E :Env:=V.mkE V.tys [(230,XM.con)] [] [(1,25)] [] [] []
abbrev XP.kt (x0:Z5)(x1:Z5):Kt Bool:=ktOf XP.E XP.con f215 (V.fl3 x0 x1)
abbrev XP.s (x0:Z5)(x1:Z5):St:=⟨[(0, .v true (V.lsHead x0)),(1, .v true (V.lsHead x1))],[]⟩
theorem XP.v0 (x0:Z5)(x1:Z5):V.evBody XP.E XP.con f215 (V.fl3 x0 x1)=evC XP.E f215.ntmps (codeOf f215) (XP.kt x0 x1) (XP.s x0 x1):=by kernel_rfl
theorem XP.v (x0:Z5)(x1:Z5):evC XP.E f215.ntmps (codeOf f215) (XP.kt x0 x1) (XP.s x0 x1)=XP x0 x1:=by kernel_rfl
theorem XP.eq (x0:Z5)(x1:Z5):V.evBody XP.E XP.con f215 (V.fl3 x0 x1)=XP x0 x1:=(XP.v0 x0 x1).trans (XP.v x0 x1)
theorem XP.ok :V.Valid prog 215 XP.con:=
 V.fo (tab_cons XM.ok tab_nil) func215 (by kernel_rfl) (λx y h=>(show V.evBody XP.E XP.con f215 x=_ from XP.eq (V.p3_0 x) (V.p3_1 x)).trans (V.cfl (by kernel_rfl) h))
abbrev XR.con :V.Con:=⟨V.A4,(ci .nil),λ(x:V.D4)=>XR (V.p4_0 x) (V.p4_1 x),[],[(true,16),(true,17)],[(false,1)],[false],[]⟩
abbrev XR.E :Env:=V.mkE V.tys [(187,Xn.con)] [] [] [] [] []
abbrev XR.kt (x0:Z5)(x1:Z4):Kt Int:=ktOf XR.E XR.con f216 (V.fl4 x0 x1)
abbrev XR.s (x0:Z5)(x1:Z4):St:=⟨[(0, .v true (V.lsHead x0)),(1, .v true (V.lsSigned x1))],[]⟩
theorem XR.v0 (x0:Z5)(x1:Z4):V.evBody XR.E XR.con f216 (V.fl4 x0 x1)=evC XR.E f216.ntmps (codeOf f216) (XR.kt x0 x1) (XR.s x0 x1):=by kernel_rfl
theorem XR.v (x0:Z5)(x1:Z4):evC XR.E f216.ntmps (codeOf f216) (XR.kt x0 x1) (XR.s x0 x1)=XR x0 x1:=by kernel_rfl
theorem XR.eq (x0:Z5)(x1:Z4):V.evBody XR.E XR.con f216 (V.fl4 x0 x1)=XR x0 x1:=(XR.v0 x0 x1).trans (XR.v x0 x1)
theorem XR.ok :V.Valid prog 216 XR.con:=
 V.fo (tab_cons Xn.ok tab_nil) func216 (by kernel_rfl) (λx y h=>(show V.evBody XR.E XR.con f216 x=_ from XR.eq (V.p4_0 x) (V.p4_1 x)).trans (V.cfl (by kernel_rfl) h))
abbrev ZU.con :V.Con:=⟨(.cons (.sl (ci .nil)) (.cons (.sl (ci .nil)) .nil)),(.cons .bool .nil),λ(x:List Int×List Int)=>ZU x.1 x.2,[],[(false,1),(false,1)],[(false,1)],[false],[]⟩
abbrev ZU.E :Env:=V.mkE V.tys [] [(8,[0,1,12,13],[])] [(6,8)] [] [] []
abbrev ZU.kt (x0:List Int)(x1:List Int):Kt Bool:=ktOf ZU.E ZU.con f76 ((x0,x1):List Int×List Int)
abbrev ZU.s8 (x0:List Int)(x1:List Int)(aG:Int)(aK:Int):St:=⟨[(0, .v false [.val (.sl (ci .nil) x0)]),(1, .v false [.val (.sl (ci .nil) x1)]),(12, .v false [.vi (aG)]),(13, .v false [.vi (aK)])],[]⟩
theorem ZU.r8 (x0:List Int)(x1:List Int)(R:St->Option Bool)(aG:Int)(aK:Int):loopF ZU.E f76.ntmps [1,1,0,1,0] [] (codeOf f76) (ZU.kt x0 x1) R (ZU.s8 x0 x1 aG aK)=ZU.g8 x0 x1 (λaG aK=>R (ZU.s8 x0 x1 aG aK)) aG aK:=by kernel_rfl
theorem ZU.e8 (x0:List Int)(x1:List Int):∀(n:Nat) (aG:Int) (aK:Int),loopN (loopF ZU.E f76.ntmps [1,1,0,1,0] [] (codeOf f76) (ZU.kt x0 x1)) n (ZU.s8 x0 x1 aG aK)=ZU.l8 x0 x1 n aG aK:=by
 intro n
 induction n with
 |zero=>intros;rw[loopN_z];rfl
 |succ n ih=>
  intro aG aK
  rw[loopN_s,ZU.r8]
  simp only[ih]
  first|exact(ZU.u8 ..).symm|rfl
theorem ZU.v (x0:List Int)(x1:List Int):V.evBody ZU.E ZU.con f76 ((x0,x1):List Int×List Int)=ZU.b x0 x1 (λaG aK=>loopN (loopF ZU.E f76.ntmps [1,1,0,1,0] [] (codeOf f76) (ZU.kt x0 x1)) V.KK (ZU.s8 x0 x1 aG aK)):=by kernel_rfl
theorem ZU.eq (x0:List Int)(x1:List Int):V.evBody ZU.E ZU.con f76 ((x0,x1):List Int×List Int)=ZU x0 x1:=by
 rw[ZU.v]
 simp only[ZU.e8]
 rfl
theorem ZU.ok :V.Valid prog 76 ZU.con:=
 V.fo tab_nil func76 (by kernel_rfl) (λx y h=>(show V.evBody ZU.E ZU.con f76 x=_ from ZU.eq x.1 x.2).trans (V.cfl (by kernel_rfl) h))
abbrev W9.con :V.Con:=⟨(.cons (.sl (ci .nil)) (ci (.cons (.sl (ci .nil)) (ci .nil)))),(.cons .bool .nil),λ(x:List Int×Int×List Int×Int)=>W9 (x.1,x.2.1) x.2.2,[],[(true,2),(true,2)],[(false,1)],[false],[]⟩
abbrev W9.E :Env:=V.mkE V.tys [(76,ZU.con)] [] [] [] [] []
theorem W9.eq (x0:Zc)(x1:Zc):V.evBody W9.E W9.con f149 ((x0.1,x0.2,x1.1,x1.2):List Int×Int×List Int×Int)=W9 x0 x1:=by kernel_rfl
theorem W9.ok :V.Valid prog 149 W9.con:=
 V.fo (tab_cons ZU.ok tab_nil) func149 (by kernel_rfl) (λx y h=>(show V.evBody W9.E W9.con f149 x=_ from W9.eq (x.1,x.2.1) x.2.2).trans (V.cfl (by kernel_rfl) h))
abbrev XD.con :V.Con:=⟨V.A3,(.cons .bool .nil),λ(x:V.D3)=>XD (V.p3_0 x) (V.p3_1 x),[],[(true,16),(true,16)],[(false,1)],[false],[]⟩
abbrev XD.E :Env:=V.mkE V.tys [] [] [] [] [] []
abbrev XD.kt (x0:Z5)(x1:Z5):Kt Bool:=ktOf XD.E XD.con f231 (V.fl3 x0 x1)
abbrev XD.s (x0:Z5)(x1:Z5):St:=⟨[(0, .v true (V.lsHead x0)),(1, .v true (V.lsHead x1))],[]⟩
theorem XD.v0 (x0:Z5)(x1:Z5):V.evBody XD.E XD.con f231 (V.fl3 x0 x1)=evC XD.E f231.ntmps (codeOf f231) (XD.kt x0 x1) (XD.s x0 x1):=by kernel_rfl
theorem XD.v (x0:Z5)(x1:Z5):evC XD.E f231.ntmps (codeOf f231) (XD.kt x0 x1) (XD.s x0 x1)=XD x0 x1:=by kernel_rfl
theorem XD.eq (x0:Z5)(x1:Z5):V.evBody XD.E XD.con f231 (V.fl3 x0 x1)=XD x0 x1:=(XD.v0 x0 x1).trans (XD.v x0 x1)
theorem XD.ok :V.Valid prog 231 XD.con:=
 V.fo tab_nil func231 (by kernel_rfl) (λx y h=>(show V.evBody XD.E XD.con f231 x=_ from XD.eq (V.p3_0 x) (V.p3_1 x)).trans (V.cfl (by kernel_rfl) h))
abbrev Zz.con :V.Con:=⟨V.A4,(ci .nil),λ(x:V.D4)=>Zz (V.p4_0 x) (V.p4_1 x),[],[(true,16),(true,17)],[(false,1)],[false],[]⟩
abbrev Zz.E :Env:=V.mkE V.tys [(149,W9.con),(187,Xn.con),(213,Wb.con),(231,XD.con)] [(11,[2,3,5,11],[]),(15,[2,3,25],[])] [] [] [] []
abbrev Zz.kt (x0:Z5)(x1:Z4):Kt Int:=ktOf Zz.E Zz.con f217 (V.fl4 x0 x1)
abbrev Zz.s15 (x0:Z5)(x1:Z4)(eS:Bool):St:=⟨[(2, .v false [.ptr 64000 0]),(3, .v false [.ptr 64064 0]),(25, .v false [.val (.bool eS)])],[(64000, .box (V.lsHead x0)),(64064, .box (V.lsSigned x1))]⟩
abbrev Zz.s11 (x0:Z5)(x1:Z4)(eO:Bool):St:=⟨[(2, .v false [.ptr 64000 0]),(3, .v false [.ptr 64064 0]),(5, .v false [.ptr 128128 0]),(11, .v false [.val (.bool eO)])],[(64000, .box (V.lsHead x0)),(64064, .box (V.lsSigned x1)),(128128, .box [.vi (x1.1), .vi (x1.2.1), .vi (x1.2.2.1), .vi (x1.2.2.2.1), .vi (x1.2.2.2.2.1), .vi (x1.2.2.2.2.2.1), .vi (x1.2.2.2.2.2.2.1), .vi (x1.2.2.2.2.2.2.2.1), .val (.sl (ci .nil) x1.2.2.2.2.2.2.2.2.1), .vi (x1.2.2.2.2.2.2.2.2.2.1), .val (.sl (ci .nil) x1.2.2.2.2.2.2.2.2.2.2.1), .vi (x1.2.2.2.2.2.2.2.2.2.2.2.1), .vi (x1.2.2.2.2.2.2.2.2.2.2.2.2.1), .val (.sl (ci .nil) x1.2.2.2.2.2.2.2.2.2.2.2.2.2.1), .vi (x1.2.2.2.2.2.2.2.2.2.2.2.2.2.2.1), .val (.bool x1.2.2.2.2.2.2.2.2.2.2.2.2.2.2.2.1)])]⟩
theorem Zz.r15 (x0:Z5)(x1:Z4)(eS:Bool):joinF Zz.E f217.ntmps [1,1,0,0,1,1,1,1] [] (codeOf f217) (Zz.kt x0 x1) (Zz.s15 x0 x1 eS)=Zz.g15 x0 x1 eS:=by kernel_rfl
theorem Zz.e15 (x0:Z5)(x1:Z4)(eS:Bool):jn (joinF Zz.E f217.ntmps [1,1,0,0,1,1,1,1] [] (codeOf f217) (Zz.kt x0 x1)) (Zz.s15 x0 x1 eS)=Zz.l15 x0 x1 eS:=by
 rw[jn_eq,Zz.r15]
 rfl
theorem Zz.r11 (x0:Z5)(x1:Z4)(eO:Bool):joinF Zz.E f217.ntmps [1,1,0,0,1,1] [] (codeOf f217) (Zz.kt x0 x1) (Zz.s11 x0 x1 eO)=Zz.g11 x0 x1 (λeS=>jn (joinF Zz.E f217.ntmps [1,1,0,0,1,1,1,1] [] (codeOf f217) (Zz.kt x0 x1)) (Zz.s15 x0 x1 eS)) eO:=by kernel_rfl
theorem Zz.e11 (x0:Z5)(x1:Z4)(eO:Bool):jn (joinF Zz.E f217.ntmps [1,1,0,0,1,1] [] (codeOf f217) (Zz.kt x0 x1)) (Zz.s11 x0 x1 eO)=Zz.l11 x0 x1 eO:=by
 rw[jn_eq,Zz.r11]
 simp only[Zz.e15]
 rfl
abbrev Zz.s (x0:Z5)(x1:Z4):St:=⟨[(0, .v true (V.lsHead x0)),(1, .v true (V.lsSigned x1))],[]⟩
theorem Zz.v0 (x0:Z5)(x1:Z4):V.evBody Zz.E Zz.con f217 (V.fl4 x0 x1)=evC Zz.E f217.ntmps (codeOf f217) (Zz.kt x0 x1) (Zz.s x0 x1):=by kernel_rfl
theorem Zz.v (x0:Z5)(x1:Z4):evC Zz.E f217.ntmps (codeOf f217) (Zz.kt x0 x1) (Zz.s x0 x1)=Zz.b x0 x1 (λeO=>jn (joinF Zz.E f217.ntmps [1,1,0,0,1,1] [] (codeOf f217) (Zz.kt x0 x1)) (Zz.s11 x0 x1 eO)):=by kernel_rfl
theorem Zz.eq (x0:Z5)(x1:Z4):V.evBody Zz.E Zz.con f217 (V.fl4 x0 x1)=Zz x0 x1:=by
 rw[Zz.v0,Zz.v]
 simp only[Zz.e11]
 rfl
theorem Zz.ok :V.Valid prog 217 Zz.con:=
 V.fo (tab_cons W9.ok (tab_cons Xn.ok (tab_cons Wb.ok (tab_cons XD.ok tab_nil)))) func217 (by kernel_rfl) (λx y h=>(show V.evBody Zz.E Zz.con f217 x=_ from Zz.eq (V.p4_0 x) (V.p4_1 x)).trans (V.cfl (by kernel_rfl) h))
abbrev ZA.con :V.Con:=⟨V.A4,(ci .nil),λ(x:V.D4)=>ZA (V.p4_0 x) (V.p4_1 x),[],[(true,16),(true,17)],[(false,1)],[false],[]⟩
abbrev ZA.E :Env:=V.mkE V.tys [(149,W9.con),(187,Xn.con),(213,Wb.con),(231,XD.con)] [(7,[2,3,5,6],[]),(13,[2,3,37],[])] [] [] [] []
abbrev ZA.kt (x0:Z5)(x1:Z4):Kt Int:=ktOf ZA.E ZA.con f218 (V.fl4 x0 x1)
abbrev ZA.s13 (x0:Z5)(x1:Z4)(eR:Bool):St:=⟨[(2, .v false [.ptr 64000 0]),(3, .v false [.ptr 64064 0]),(37, .v false [.val (.bool eR)])],[(64000, .box (V.lsHead x0)),(64064, .box (V.lsSigned x1))]⟩
abbrev ZA.s7 (x0:Z5)(x1:Z4)(bN:Bool):St:=⟨[(2, .v false [.ptr 64000 0]),(3, .v false [.ptr 64064 0]),(5, .v false [.ptr 128128 0]),(6, .v false [.val (.bool bN)])],[(64000, .box (V.lsHead x0)),(64064, .box (V.lsSigned x1)),(128128, .box [.vi (x1.1), .vi (x1.2.1), .vi (x1.2.2.1), .vi (x1.2.2.2.1), .vi (x1.2.2.2.2.1), .vi (x1.2.2.2.2.2.1), .vi (x1.2.2.2.2.2.2.1), .vi (x1.2.2.2.2.2.2.2.1), .val (.sl (ci .nil) x1.2.2.2.2.2.2.2.2.1), .vi (x1.2.2.2.2.2.2.2.2.2.1), .val (.sl (ci .nil) x1.2.2.2.2.2.2.2.2.2.2.1), .vi (x1.2.2.2.2.2.2.2.2.2.2.2.1), .vi (x1.2.2.2.2.2.2.2.2.2.2.2.2.1), .val (.sl (ci .nil) x1.2.2.2.2.2.2.2.2.2.2.2.2.2.1), .vi (x1.2.2.2.2.2.2.2.2.2.2.2.2.2.2.1), .val (.bool x1.2.2.2.2.2.2.2.2.2.2.2.2.2.2.2.1)])]⟩
theorem ZA.r13 (x0:Z5)(x1:Z4)(eR:Bool):joinF ZA.E f218.ntmps [1,1,1,0,0,1,1] [] (codeOf f218) (ZA.kt x0 x1) (ZA.s13 x0 x1 eR)=ZA.g13 x0 x1 eR:=by kernel_rfl
theorem ZA.e13 (x0:Z5)(x1:Z4)(eR:Bool):jn (joinF ZA.E f218.ntmps [1,1,1,0,0,1,1] [] (codeOf f218) (ZA.kt x0 x1)) (ZA.s13 x0 x1 eR)=ZA.l13 x0 x1 eR:=by
 rw[jn_eq,ZA.r13]
 rfl
theorem ZA.r7 (x0:Z5)(x1:Z4)(bN:Bool):joinF ZA.E f218.ntmps [1,1] [] (codeOf f218) (ZA.kt x0 x1) (ZA.s7 x0 x1 bN)=ZA.g7 x0 x1 (λeR=>jn (joinF ZA.E f218.ntmps [1,1,1,0,0,1,1] [] (codeOf f218) (ZA.kt x0 x1)) (ZA.s13 x0 x1 eR)) bN:=by kernel_rfl
theorem ZA.e7 (x0:Z5)(x1:Z4)(bN:Bool):jn (joinF ZA.E f218.ntmps [1,1] [] (codeOf f218) (ZA.kt x0 x1)) (ZA.s7 x0 x1 bN)=ZA.l7 x0 x1 bN:=by
 rw[jn_eq,ZA.r7]
 simp only[ZA.e13]
 rfl
abbrev ZA.s (x0:Z5)(x1:Z4):St:=⟨[(0, .v true (V.lsHead x0)),(1, .v true (V.lsSigned x1))],[]⟩
theorem ZA.v0 (x0:Z5)(x1:Z4):V.evBody ZA.E ZA.con f218 (V.fl4 x0 x1)=evC ZA.E f218.ntmps (codeOf f218) (ZA.kt x0 x1) (ZA.s x0 x1):=by kernel_rfl
theorem ZA.v (x0:Z5)(x1:Z4):evC ZA.E f218.ntmps (codeOf f218) (ZA.kt x0 x1) (ZA.s x0 x1)=ZA.b x0 x1 (λbN=>jn (joinF ZA.E f218.ntmps [1,1] [] (codeOf f218) (ZA.kt x0 x1)) (ZA.s7 x0 x1 bN)):=by kernel_rfl
theorem ZA.eq (x0:Z5)(x1:Z4):V.evBody ZA.E ZA.con f218 (V.fl4 x0 x1)=ZA x0 x1:=by
 rw[ZA.v0,ZA.v]
 simp only[ZA.e7]
 rfl
theorem ZA.ok :V.Valid prog 218 ZA.con:=
 V.fo (tab_cons W9.ok (tab_cons Xn.ok (tab_cons Wb.ok (tab_cons XD.ok tab_nil)))) func218 (by kernel_rfl) (λx y h=>(show V.evBody ZA.E ZA.con f218 x=_ from ZA.eq (V.p4_0 x) (V.p4_1 x)).trans (V.cfl (by kernel_rfl) h))
abbrev Yj.con :V.Con:=⟨V.A4,(ci .nil),λ(x:V.D4)=>Yj (V.p4_0 x) (V.p4_1 x),[],[(true,16),(true,17)],[(false,1)],[false],[]⟩
abbrev Yj.E :Env:=V.mkE V.tys [(185,Xy.con),(215,XP.con),(216,XR.con),(217,Zz.con),(218,ZA.con)] [(5,[2,3,5],[])] [] [] [] []
abbrev Yj.kt (x0:Z5)(x1:Z4):Kt Int:=ktOf Yj.E Yj.con f188 (V.fl4 x0 x1)
abbrev Yj.s5 (x0:Z5)(x1:Z4)(bM:Bool):St:=⟨[(2, .v false [.ptr 64000 0]),(3, .v false [.ptr 64064 0]),(5, .v false [.val (.bool bM)])],[(64000, .box (V.lsHead x0)),(64064, .box (V.lsSigned x1))]⟩
theorem Yj.r5 (x0:Z5)(x1:Z4)(bM:Bool):joinF Yj.E f188.ntmps [1,0,0] [] (codeOf f188) (Yj.kt x0 x1) (Yj.s5 x0 x1 bM)=Yj.g5 x0 x1 bM:=by kernel_rfl
theorem Yj.e5 (x0:Z5)(x1:Z4)(bM:Bool):jn (joinF Yj.E f188.ntmps [1,0,0] [] (codeOf f188) (Yj.kt x0 x1)) (Yj.s5 x0 x1 bM)=Yj.l5 x0 x1 bM:=by
 rw[jn_eq,Yj.r5]
 rfl
abbrev Yj.s (x0:Z5)(x1:Z4):St:=⟨[(0, .v true (V.lsHead x0)),(1, .v true (V.lsSigned x1))],[]⟩
theorem Yj.v0 (x0:Z5)(x1:Z4):V.evBody Yj.E Yj.con f188 (V.fl4 x0 x1)=evC Yj.E f188.ntmps (codeOf f188) (Yj.kt x0 x1) (Yj.s x0 x1):=by kernel_rfl
theorem Yj.v (x0:Z5)(x1:Z4):evC Yj.E f188.ntmps (codeOf f188) (Yj.kt x0 x1) (Yj.s x0 x1)=Yj.b x0 x1 (λbM=>jn (joinF Yj.E f188.ntmps [1,0,0] [] (codeOf f188) (Yj.kt x0 x1)) (Yj.s5 x0 x1 bM)):=by kernel_rfl
theorem Yj.eq (x0:Z5)(x1:Z4):V.evBody Yj.E Yj.con f188 (V.fl4 x0 x1)=Yj x0 x1:=by
 rw[Yj.v0,Yj.v]
 simp only[Yj.e5]
 rfl
theorem Yj.ok :V.Valid prog 188 Yj.con:=
 V.fo (tab_cons Xy.ok (tab_cons XP.ok (tab_cons XR.ok (tab_cons Zz.ok (tab_cons ZA.ok tab_nil))))) func188 (by kernel_rfl) (λx y h=>(show V.evBody Yj.E Yj.con f188 x=_ from Yj.eq (V.p4_0 x) (V.p4_1 x)).trans (V.cfl (by kernel_rfl) h))
abbrev XO.con :V.Con:=⟨V.A4,(.cons .bool .nil),λ(x:V.D4)=>XO (V.p4_0 x) (V.p4_1 x),[],[(true,16),(true,17)],[(false,1)],[false],[]⟩
abbrev XO.E :Env:=V.mkE V.tys [(188,Yj.con)] [] [] [] [] []
abbrev XO.kt (x0:Z5)(x1:Z4):Kt Bool:=ktOf XO.E XO.con f152 (V.fl4 x0 x1)
abbrev XO.s (x0:Z5)(x1:Z4):St:=⟨[(0, .v true (V.lsHead x0)),(1, .v true (V.lsSigned x1))],[]⟩
theorem XO.v0 (x0:Z5)(x1:Z4):V.evBody XO.E XO.con f152 (V.fl4 x0 x1)=evC XO.E f152.ntmps (codeOf f152) (XO.kt x0 x1) (XO.s x0 x1):=by kernel_rfl
theorem XO.v (x0:Z5)(x1:Z4):evC XO.E f152.ntmps (codeOf f152) (XO.kt x0 x1) (XO.s x0 x1)=XO x0 x1:=by kernel_rfl
theorem XO.eq (x0:Z5)(x1:Z4):V.evBody XO.E XO.con f152 (V.fl4 x0 x1)=XO x0 x1:=(XO.v0 x0 x1).trans (XO.v x0 x1)
theorem XO.ok :V.Valid prog 152 XO.con:=
 V.fo (tab_cons Yj.ok tab_nil) func152 (by kernel_rfl) (λx y h=>(show V.evBody XO.E XO.con f152 x=_ from XO.eq (V.p4_0 x) (V.p4_1 x)).trans (V.cfl (by kernel_rfl) h))
abbrev Yp.con :V.Con:=⟨(.cons (.sl V.eSigned) .nil),(ci .nil),λ(x:List Z4)=>Yp x,[],[(false,1)],[(false,1)],[false],[]⟩
abbrev Yp.E :Env:=V.mkE V.tys [(151,XN.con),(152,XO.con)] [(4,[0,5,6,7],[])] [(4,18)] [] [] []
abbrev Yp.kt (x0:List Z4):Kt Int:=ktOf Yp.E Yp.con f117 ((x0):List Z4)
abbrev Yp.s4 (x0:List Z4)(aF:Int)(aM:Int):St:=⟨[(0, .v false [.val (.sl V.eSigned x0)]),(5, .v false [.val (.sl V.eSigned x0)]),(6, .v false [.vi (aF)]),(7, .v false [.vi (aM)])],[]⟩
theorem Yp.r4 (x0:List Z4)(R:St->Option Int)(aF:Int)(aM:Int):loopF Yp.E f117.ntmps [1,0,1,0] [] (codeOf f117) (Yp.kt x0) R (Yp.s4 x0 aF aM)=Yp.g4 x0 (λaF aM=>R (Yp.s4 x0 aF aM)) aF aM:=by kernel_rfl
theorem Yp.e4 (x0:List Z4):∀(n:Nat) (aF:Int) (aM:Int),loopN (loopF Yp.E f117.ntmps [1,0,1,0] [] (codeOf f117) (Yp.kt x0)) n (Yp.s4 x0 aF aM)=Yp.l4 x0 n aF aM:=by
 intro n
 induction n with
 |zero=>intros;rw[loopN_z];rfl
 |succ n ih=>
  intro aF aM
  rw[loopN_s,Yp.r4]
  simp only[ih]
  first|exact(Yp.u4 ..).symm|rfl
theorem Yp.v (x0:List Z4):V.evBody Yp.E Yp.con f117 ((x0):List Z4)=Yp.b x0 (λaF aM=>loopN (loopF Yp.E f117.ntmps [1,0,1,0] [] (codeOf f117) (Yp.kt x0)) V.KK (Yp.s4 x0 aF aM)):=by kernel_rfl
theorem Yp.eq (x0:List Z4):V.evBody Yp.E Yp.con f117 ((x0):List Z4)=Yp x0:=by
 rw[Yp.v]
 simp only[Yp.e4]
 rfl
theorem Yp.ok :V.Valid prog 117 Yp.con:=
 V.fo (tab_cons XN.ok (tab_cons XO.ok tab_nil)) func117 (by kernel_rfl) (λx y h=>(show V.evBody Yp.E Yp.con f117 x=_ from Yp.eq x).trans (V.cfl (by kernel_rfl) h))
abbrev Uc.con :V.Con:=⟨(.cons (.sl V.eSigned) .nil),(.cons .bool .nil),λ(x:List Z4)=>Uc x,[],[(false,1)],[(false,1)],[false],[]⟩
abbrev Uc.E :Env:=V.mkE V.tys [(36,ZW.con),(117,Yp.con)] [] [] [] [] []
theorem Uc.eq (x0:List Z4):V.evBody Uc.E Uc.con f77 ((x0):List Z4)=Uc x0:=by kernel_rfl
theorem Uc.ok :V.Valid prog 77 Uc.con:=
 V.fo (tab_cons ZW.ok (tab_cons Yp.ok tab_nil)) func77 (by kernel_rfl) (λx y h=>(show V.evBody Uc.E Uc.con f77 x=_ from Uc.eq x).trans (V.cfl (by kernel_rfl) h))
abbrev WJ.con :V.Con:=⟨(.cons (.sl V.eSigned) .nil),V.eHead,λ(x:List Z4)=>WJ x,[],[(false,1)],[(true,16)],[false,false,false,false,false,false,false,false,false,false,false,false,false,false,false,false],[]⟩
abbrev WJ.E :Env:=V.mkE V.tys [] [] [] [] [] []
theorem WJ.eq (x0:List Z4):V.evBody WJ.E WJ.con f78 ((x0):List Z4)=WJ x0:=by kernel_rfl
theorem WJ.ok :V.Valid prog 78 WJ.con:=
 V.fo tab_nil func78 (by kernel_rfl) (λx y h=>(show V.evBody WJ.E WJ.con f78 x=_ from WJ.eq x).trans (V.cfl (by kernel_rfl) h))
abbrev ZM.con :V.Con:=⟨(.cons .str .nil),(.cons .bool .nil),λ(x:ByteArray)=>ZM x,[],[(false,1)],[(false,1)],[false],[]⟩
abbrev ZM.E :Env:=V.mkE V.tys [(36,ZW.con)] [(4,[0,6,7],[])] [] [] [] []
abbrev ZM.kt (x0:ByteArray):Kt Bool:=ktOf ZM.E ZM.con f67 ((x0):ByteArray)
abbrev ZM.s4 (x0:ByteArray)(aI:Int)(aF:Int):St:=⟨[(0, .v false [.val (.str x0)]),(6, .v false [.vi (aI)]),(7, .v false [.vi (aF)])],[]⟩
theorem ZM.r4 (x0:ByteArray)(R:St->Option Bool)(aI:Int)(aF:Int):loopF ZM.E f67.ntmps [1,0,1,0] [] (codeOf f67) (ZM.kt x0) R (ZM.s4 x0 aI aF)=ZM.g4 x0 (λaI aF=>R (ZM.s4 x0 aI aF)) aI aF:=by kernel_rfl
theorem ZM.e4 (x0:ByteArray):∀(n:Nat) (aI:Int) (aF:Int),loopN (loopF ZM.E f67.ntmps [1,0,1,0] [] (codeOf f67) (ZM.kt x0)) n (ZM.s4 x0 aI aF)=ZM.l4 x0 n aI aF:=by
 intro n
 induction n with
 |zero=>intros;rw[loopN_z];rfl
 |succ n ih=>
  intro aI aF
  rw[loopN_s,ZM.r4]
  simp only[ih]
  first|exact(ZM.u4 ..).symm|rfl
theorem ZM.v (x0:ByteArray):V.evBody ZM.E ZM.con f67 ((x0):ByteArray)=ZM.b x0 (λaI aF=>loopN (loopF ZM.E f67.ntmps [1,0,1,0] [] (codeOf f67) (ZM.kt x0)) V.KK (ZM.s4 x0 aI aF)):=by kernel_rfl
theorem ZM.eq (x0:ByteArray):V.evBody ZM.E ZM.con f67 ((x0):ByteArray)=ZM x0:=by
 rw[ZM.v]
 simp only[ZM.e4]
 rfl
theorem ZM.ok :V.Valid prog 67 ZM.con:=
 V.fo (tab_cons ZW.ok tab_nil) func67 (by kernel_rfl) (λx y h=>(show V.evBody ZM.E ZM.con f67 x=_ from ZM.eq x).trans (V.cfl (by kernel_rfl) h))
abbrev Qq.con :V.Con:=⟨(.cons .str .nil),(.cons .bool .nil),λ(x:ByteArray)=>Qq x,[],[(false,1)],[(false,1)],[false],[]⟩
abbrev Qq.E :Env:=V.mkE V.tys [(67,ZM.con)] [] [] [] [] []
theorem Qq.eq (x0:ByteArray):V.evBody Qq.E Qq.con f201 ((x0):ByteArray)=Qq x0:=by kernel_rfl
theorem Qq.ok :V.Valid prog 201 Qq.con:=
 V.fo (tab_cons ZM.ok tab_nil) func201 (by kernel_rfl) (λx y h=>(show V.evBody Qq.E Qq.con f201 x=_ from Qq.eq x).trans (V.cfl (by kernel_rfl) h))
abbrev X4.con :V.Con:=⟨(.cons (.sl (.cons .str .nil)) (.cons (.fn 201 false .nil .nil) .nil)),(ci .nil),λ(x:List ByteArray×(Unit)×(Unit))=>X4 x.1 x.2,[],[(false,1),(false,1)],[(false,1)],[false],[]⟩
abbrev X4.E :Env:=V.mkE V.tys [(201,Qq.con)] [(4,[0,1,7,8],[])] [] [] [] []
abbrev X4.kt (x0:List ByteArray)(x1:(Unit)×(Unit)):Kt Int:=ktOf X4.E X4.con f224 ((x0,x1):List ByteArray×(Unit)×(Unit))
abbrev X4.s4 (x0:List ByteArray)(aI:Int)(aF:Int):St:=⟨[(0, .v false [.val (.sl (.cons .str .nil) x0)]),(1, .v false [.val (.fn 201 false .nil .nil () ())]),(7, .v false [.vi (aI)]),(8, .v false [.vi (aF)])],[]⟩
theorem X4.r4 (x0:List ByteArray)(x1:(Unit)×(Unit))(R:St->Option Int)(aI:Int)(aF:Int):loopF X4.E f224.ntmps [1,0,1,0] [] (codeOf f224) (X4.kt x0 x1) R (X4.s4 x0 aI aF)=X4.g4 x0 (λaI aF=>R (X4.s4 x0 aI aF)) aI aF:=by kernel_rfl
theorem X4.e4 (x0:List ByteArray)(x1:(Unit)×(Unit)):∀(n:Nat) (aI:Int) (aF:Int),loopN (loopF X4.E f224.ntmps [1,0,1,0] [] (codeOf f224) (X4.kt x0 x1)) n (X4.s4 x0 aI aF)=X4.l4 x0 n aI aF:=by
 intro n
 induction n with
 |zero=>intros;rw[loopN_z];rfl
 |succ n ih=>
  intro aI aF
  rw[loopN_s,X4.r4]
  simp only[ih]
  first|exact(X4.u4 ..).symm|rfl
theorem X4.v (x0:List ByteArray)(x1:(Unit)×(Unit)):V.evBody X4.E X4.con f224 ((x0,x1):List ByteArray×(Unit)×(Unit))=X4.b x0 x1 (λaI aF=>loopN (loopF X4.E f224.ntmps [1,0,1,0] [] (codeOf f224) (X4.kt x0 x1)) V.KK (X4.s4 x0 aI aF)):=by kernel_rfl
theorem X4.eq (x0:List ByteArray)(x1:(Unit)×(Unit)):V.evBody X4.E X4.con f224 ((x0,x1):List ByteArray×(Unit)×(Unit))=X4 x0 x1:=by
 rw[X4.v]
 simp only[X4.e4]
 rfl
theorem X4.ok :V.Valid prog 224 X4.con:=
 V.fo (tab_cons Qq.ok tab_nil) func224 (by kernel_rfl) (λx y h=>(show V.evBody X4.E X4.con f224 x=_ from X4.eq x.1 x.2).trans (V.cfl (by kernel_rfl) h))
abbrev Q8.con :V.Con:=⟨(.cons (.sl (.cons .str .nil)) (.cons (.fn 201 false .nil .nil) .nil)),(.cons .bool .nil),λ(x:List ByteArray×(Unit)×(Unit))=>Q8 x.1 x.2,[],[(false,1),(false,1)],[(false,1)],[false],[]⟩
abbrev Q8.E :Env:=V.mkE V.tys [(224,X4.con)] [] [] [] [] []
theorem Q8.eq (x0:List ByteArray)(x1:(Unit)×(Unit)):V.evBody Q8.E Q8.con f200 ((x0,x1):List ByteArray×(Unit)×(Unit))=Q8 x0 x1:=by kernel_rfl
theorem Q8.ok :V.Valid prog 200 Q8.con:=
 V.fo (tab_cons X4.ok tab_nil) func200 (by kernel_rfl) (λx y h=>(show V.evBody Q8.E Q8.con f200 x=_ from Q8.eq x.1 x.2).trans (V.cfl (by kernel_rfl) h))
abbrev UT.con :V.Con:=⟨(.cons (.sl (.cons .str .nil)) .nil),(.cons .bool .nil),λ(x:List ByteArray)=>UT x,[],[(false,1)],[(false,1)],[false],[]⟩
abbrev UT.E :Env:=V.mkE V.tys [(36,ZW.con),(200,Q8.con)] [] [] [] [] []
theorem UT.eq (x0:List ByteArray):V.evBody UT.E UT.con f170 ((x0):List ByteArray)=UT x0:=by kernel_rfl
theorem UT.ok :V.Valid prog 170 UT.con:=
 V.fo (tab_cons ZW.ok (tab_cons Q8.ok tab_nil)) func170 (by kernel_rfl) (λx y h=>(show V.evBody UT.E UT.con f170 x=_ from UT.eq x).trans (V.cfl (by kernel_rfl) h))
abbrev Ud.con :V.Con:=⟨V.eEntry,(.cons .bool .nil),λ(x:ByteArray×Int×Int×List ByteArray)=>Ud x,[],[(true,4)],[(false,1)],[false],[]⟩
abbrev Ud.E :Env:=V.mkE V.tys [(36,ZW.con),(67,ZM.con),(169,WD.con),(170,UT.con)] [] [] [] [] []
theorem Ud.eq (x0:Z0):V.evBody Ud.E Ud.con f129 ((x0.1,x0.2.1,x0.2.2.1,x0.2.2.2):ByteArray×Int×Int×List ByteArray)=Ud x0:=by kernel_rfl
theorem Ud.ok :V.Valid prog 129 Ud.con:=
 V.fo (tab_cons ZW.ok (tab_cons ZM.ok (tab_cons WD.ok (tab_cons UT.ok tab_nil)))) func129 (by kernel_rfl) (λx y h=>(show V.evBody Ud.E Ud.con f129 x=_ from Ud.eq x).trans (V.cfl (by kernel_rfl) h))
abbrev Z12.con :V.Con:=⟨.cons .str (.cons .str .nil), .cons (.int .i64) .nil,λ(x:ByteArray×ByteArray)=>Z12 x.1 x.2,[],[(false,1),(false,1)],[(false,1)],[false],[]⟩
theorem Z12.ok :V.Valid prog 202 Z12.con:=
 cmp_valid (ρ:=⟨λn=>bif Nat.beq n 213 then 202 else 225,λt=>bif Nat.beq t 3 then 3 else 9,λx=>x⟩) {mixed:=V.mixed,f213:=by kernel_rfl,f265:=by kernel_rfl,t3:=by kernel_rfl,a3:=λw=>rfl,z3:=λw=>rfl,v3:=λw=>rfl,t9:=by kernel_rfl,a9:=λw=>rfl,z9:=λw=>rfl,v9:=λw=>rfl}
abbrev QF.con :V.Con:=⟨(.cons .str (.cons .str .nil)),(ci .nil),λ(x:ByteArray×ByteArray)=>QF x.1 x.2,[],[(false,1),(false,1)],[(false,1)],[false],[]⟩
abbrev QF.E :Env:=V.mkE V.tys [(202,Z12.con)] [] [] [] [] []
theorem QF.eq (x0:ByteArray)(x1:ByteArray):V.evBody QF.E QF.con f172 ((x0,x1):ByteArray×ByteArray)=QF x0 x1:=by kernel_rfl
theorem QF.ok :V.Valid prog 172 QF.con:=
 V.fo (tab_cons Z12.ok tab_nil) func172 (by kernel_rfl) (λx y h=>(show V.evBody QF.E QF.con f172 x=_ from QF.eq x.1 x.2).trans (V.cfl (by kernel_rfl) h))
abbrev Ws.con :V.Con:=⟨(.cons .str (.cons .str .nil)),(ci .nil),λ(x:ByteArray×ByteArray)=>Ws x.1 x.2,[],[(false,1),(false,1)],[(false,1)],[false],[]⟩
abbrev Ws.E :Env:=V.mkE V.tys [(172,QF.con)] [] [] [] [] []
theorem Ws.eq (x0:ByteArray)(x1:ByteArray):V.evBody Ws.E Ws.con f132 ((x0,x1):ByteArray×ByteArray)=Ws x0 x1:=by kernel_rfl
theorem Ws.ok :V.Valid prog 132 Ws.con:=
 V.fo (tab_cons QF.ok tab_nil) func132 (by kernel_rfl) (λx y h=>(show V.evBody Ws.E Ws.con f132 x=_ from Ws.eq x.1 x.2).trans (V.cfl (by kernel_rfl) h))
abbrev Yd.con :V.Con:=⟨(.cons (.sl V.eEntry) .nil),(.cons .bool .nil),λ(x:List Z0)=>Yd x,[],[(false,1)],[(false,1)],[false],[]⟩
abbrev Yd.E :Env:=V.mkE V.tys [(129,Ud.con),(132,Ws.con)] [(4,[0,5,6,7],[])] [(4,15)] [] [] []
abbrev Yd.kt (x0:List Z0):Kt Bool:=ktOf Yd.E Yd.con f113 ((x0):List Z0)
abbrev Yd.s4 (x0:List Z0)(aF:Int)(aM:Int):St:=⟨[(0, .v false [.val (.sl V.eEntry x0)]),(5, .v false [.val (.sl V.eEntry x0)]),(6, .v false [.vi (aF)]),(7, .v false [.vi (aM)])],[]⟩
theorem Yd.r4 (x0:List Z0)(R:St->Option Bool)(aF:Int)(aM:Int):loopF Yd.E f113.ntmps [1,0,1,0] [] (codeOf f113) (Yd.kt x0) R (Yd.s4 x0 aF aM)=Yd.g4 x0 (λaF aM=>R (Yd.s4 x0 aF aM)) aF aM:=by kernel_rfl
theorem Yd.e4 (x0:List Z0):∀(n:Nat) (aF:Int) (aM:Int),loopN (loopF Yd.E f113.ntmps [1,0,1,0] [] (codeOf f113) (Yd.kt x0)) n (Yd.s4 x0 aF aM)=Yd.l4 x0 n aF aM:=by
 intro n
 induction n with
 |zero=>intros;rw[loopN_z];rfl
 |succ n ih=>
  intro aF aM
  rw[loopN_s,Yd.r4]
  simp only[ih]
  first|exact(Yd.u4 ..).symm|rfl
theorem Yd.v (x0:List Z0):V.evBody Yd.E Yd.con f113 ((x0):List Z0)=Yd.b x0 (λaF aM=>loopN (loopF Yd.E f113.ntmps [1,0,1,0] [] (codeOf f113) (Yd.kt x0)) V.KK (Yd.s4 x0 aF aM)):=by kernel_rfl
theorem Yd.eq (x0:List Z0):V.evBody Yd.E Yd.con f113 ((x0):List Z0)=Yd x0:=by
 rw[Yd.v]
 simp only[Yd.e4]
 rfl
theorem Yd.ok :V.Valid prog 113 Yd.con:=
 V.fo (tab_cons Ud.ok (tab_cons Ws.ok tab_nil)) func113 (by kernel_rfl) (λx y h=>(show V.evBody Yd.E Yd.con f113 x=_ from Yd.eq x).trans (V.cfl (by kernel_rfl) h))
abbrev YO.con :V.Con:=⟨(.cons (.sl (.cons (.int .u8) .nil)) .nil),(.cons (.sl (ci .nil)) .nil),λ(x:List Int)=>YO x,[],[(false,1)],[(false,1)],[true],[]⟩
abbrev YO.E :Env:=V.mkE V.tys [] [(6,[3,9,10,11],[])] [] [] [] []
abbrev YO.kt (x0:List Int):Kt (List Int):=ktOf YO.E YO.con f223 ((x0):List Int)
abbrev YO.s6 (x0:List Int)(aE:Int)(aA:Int)(aD:List Int):St:=⟨[(3, .v false [.ref 64000038400192]),(9, .v false [.val (.sl (.cons (.int .u8) .nil) x0)]),(10, .v false [.vi (aE)]),(11, .v false [.vi (aA)])],[(64000038400192, .row (ci .nil) true aD)]⟩
theorem YO.r6 (x0:List Int)(R:St->Option (List Int))(aE:Int)(aA:Int)(aD:List Int):loopF YO.E f223.ntmps [1,1,0,1,0] [] (codeOf f223) (YO.kt x0) R (YO.s6 x0 aE aA aD)=YO.g6 x0 (λaE aA aD=>R (YO.s6 x0 aE aA aD)) aE aA aD:=by kernel_rfl
theorem YO.e6 (x0:List Int):∀(n:Nat) (aE:Int) (aA:Int) (aD:List Int),loopN (loopF YO.E f223.ntmps [1,1,0,1,0] [] (codeOf f223) (YO.kt x0)) n (YO.s6 x0 aE aA aD)=YO.l6 x0 n aE aA aD:=by
 intro n
 induction n with
 |zero=>intros;rw[loopN_z];rfl
 |succ n ih=>
  intro aE aA aD
  rw[loopN_s,YO.r6]
  simp only[ih]
  first|exact(YO.u6 ..).symm|rfl
theorem YO.v (x0:List Int):V.evBody YO.E YO.con f223 ((x0):List Int)=YO.b x0 (λaE aA aD=>loopN (loopF YO.E f223.ntmps [1,1,0,1,0] [] (codeOf f223) (YO.kt x0)) V.KK (YO.s6 x0 aE aA aD)):=by kernel_rfl
theorem YO.eq (x0:List Int):V.evBody YO.E YO.con f223 ((x0):List Int)=YO x0:=by
 rw[YO.v]
 simp only[YO.e6]
 rfl
theorem YO.ok :V.Valid prog 223 YO.con:=
 V.fo tab_nil func223 (by kernel_rfl) (λx y h=>(show V.evBody YO.E YO.con f223 x=_ from YO.eq x).trans (V.cfl (by kernel_rfl) h))
abbrev Uq.con :V.Con:=⟨(.cons .str .nil),(.cons (.sl (ci .nil)) .nil),λ(x:ByteArray)=>Uq x,[],[(false,1)],[(false,1)],[true],[]⟩
abbrev Uq.E :Env:=V.mkE V.tys [(223,YO.con)] [] [] [] [] []
theorem Uq.eq (x0:ByteArray):V.evBody Uq.E Uq.con f199 ((x0):ByteArray)=Uq x0:=by kernel_rfl
theorem Uq.ok :V.Valid prog 199 Uq.con:=
 V.fo (tab_cons YO.ok tab_nil) func199 (by kernel_rfl) (λx y h=>(show V.evBody Uq.E Uq.con f199 x=_ from Uq.eq x).trans (V.cfl (by kernel_rfl) h))
abbrev YP.con :V.Con:=⟨V.eEntry,(.cons (.sl (ci .nil)) .nil),λ(x:ByteArray×Int×Int×List ByteArray)=>YP x,[],[(true,4)],[(false,1)],[true],[]⟩
abbrev YP.E :Env:=V.mkE V.tys [(199,Uq.con)] [(6,[3,19,20,21],[])] [(1,11)] [] [] []
abbrev YP.kt (x0:Z0):Kt (List Int):=ktOf YP.E YP.con f168 ((x0.1,x0.2.1,x0.2.2.1,x0.2.2.2):ByteArray×Int×Int×List ByteArray)
abbrev YP.s6 (x0:Z0)(aE:Int)(aA:Int)(aD:List Int):St:=⟨[(3, .v false [.ref 64000038400192]),(19, .v false [.val (.sl (.cons .str .nil) x0.2.2.2)]),(20, .v false [.vi (aE)]),(21, .v false [.vi (aA)])],[(64000038400192, .row (ci .nil) true aD)]⟩
theorem YP.r6 (x0:Z0)(R:St->Option (List Int))(aE:Int)(aA:Int)(aD:List Int):loopF YP.E f168.ntmps [1,1,0,1,0] [] (codeOf f168) (YP.kt x0) R (YP.s6 x0 aE aA aD)=YP.g6 x0 (λaE aA aD=>R (YP.s6 x0 aE aA aD)) aE aA aD:=by kernel_rfl
theorem YP.e6 (x0:Z0):∀(n:Nat) (aE:Int) (aA:Int) (aD:List Int),loopN (loopF YP.E f168.ntmps [1,1,0,1,0] [] (codeOf f168) (YP.kt x0)) n (YP.s6 x0 aE aA aD)=YP.l6 x0 n aE aA aD:=by
 intro n
 induction n with
 |zero=>intros;rw[loopN_z];rfl
 |succ n ih=>
  intro aE aA aD
  rw[loopN_s,YP.r6]
  simp only[ih]
  first|exact(YP.u6 ..).symm|rfl
theorem YP.v (x0:Z0):V.evBody YP.E YP.con f168 ((x0.1,x0.2.1,x0.2.2.1,x0.2.2.2):ByteArray×Int×Int×List ByteArray)=YP.b x0 (λaE aA aD=>loopN (loopF YP.E f168.ntmps [1,1,0,1,0] [] (codeOf f168) (YP.kt x0)) V.KK (YP.s6 x0 aE aA aD)):=by kernel_rfl
theorem YP.eq (x0:Z0):V.evBody YP.E YP.con f168 ((x0.1,x0.2.1,x0.2.2.1,x0.2.2.2):ByteArray×Int×Int×List ByteArray)=YP x0:=by
 rw[YP.v]
 simp only[YP.e6]
 rfl
theorem YP.ok :V.Valid prog 168 YP.con:=
 V.fo (tab_cons Uq.ok tab_nil) func168 (by kernel_rfl) (λx y h=>(show V.evBody YP.E YP.con f168 x=_ from YP.eq x).trans (V.cfl (by kernel_rfl) h))
abbrev WX.con :V.Con:=⟨V.eEntry,(ci .nil),λ(x:ByteArray×Int×Int×List ByteArray)=>WX x,[],[(true,4)],[(false,1)],[false],[]⟩
abbrev WX.E :Env:=V.mkE V.tys [(167,ZQ.con),(168,YP.con)] [] [] [] [] []
theorem WX.eq (x0:Z0):V.evBody WX.E WX.con f128 ((x0.1,x0.2.1,x0.2.2.1,x0.2.2.2):ByteArray×Int×Int×List ByteArray)=WX x0:=by kernel_rfl
theorem WX.ok :V.Valid prog 128 WX.con:=
 V.fo (tab_cons ZQ.ok (tab_cons YP.ok tab_nil)) func128 (by kernel_rfl) (λx y h=>(show V.evBody WX.E WX.con f128 x=_ from WX.eq x).trans (V.cfl (by kernel_rfl) h))
abbrev Yw.con :V.Con:=⟨(.cons (.sl V.eEntry) .nil),(.cons (.sl (ci .nil)) .nil),λ(x:List Z0)=>Yw x,[],[(false,1)],[(false,1)],[true],[]⟩
abbrev Yw.E :Env:=V.mkE V.tys [(128,WX.con)] [(6,[3,7,8,9],[(64000038400192,(ci .nil),true)])] [] [] [] []
abbrev Yw.kt (x0:List Z0):Kt (List Int):=ktOf Yw.E Yw.con f112 ((x0):List Z0)
abbrev Yw.s6 (x0:List Z0)(aE:Int)(aA:Int)(aD:List Int):St:=⟨[(3, .v false [.ref 64000038400192]),(7, .v false [.val (.sl V.eEntry x0)]),(8, .v false [.vi (aE)]),(9, .v false [.vi (aA)])],[(64000038400192, .row (ci .nil) true aD)]⟩
theorem Yw.r6 (x0:List Z0)(R:St->Option (List Int))(aE:Int)(aA:Int)(aD:List Int):loopF Yw.E f112.ntmps [1,1,0,1,0] [] (codeOf f112) (Yw.kt x0) R (Yw.s6 x0 aE aA aD)=Yw.g6 x0 (λaE aA aD=>R (Yw.s6 x0 aE aA aD)) aE aA aD:=by kernel_rfl
theorem Yw.e6 (x0:List Z0):∀(n:Nat) (aE:Int) (aA:Int) (aD:List Int),loopN (loopF Yw.E f112.ntmps [1,1,0,1,0] [] (codeOf f112) (Yw.kt x0)) n (Yw.s6 x0 aE aA aD)=Yw.l6 x0 n aE aA aD:=by
 intro n
 induction n with
 |zero=>intros;rw[loopN_z];rfl
 |succ n ih=>
  intro aE aA aD
  rw[loopN_s,Yw.r6]
  simp only[ih]
  first|exact(Yw.u6 ..).symm|rfl
theorem Yw.v (x0:List Z0):V.evBody Yw.E Yw.con f112 ((x0):List Z0)=Yw.b x0 (λaE aA aD=>loopN (loopF Yw.E f112.ntmps [1,1,0,1,0] [] (codeOf f112) (Yw.kt x0)) V.KK (Yw.s6 x0 aE aA aD)):=by kernel_rfl
theorem Yw.eq (x0:List Z0):V.evBody Yw.E Yw.con f112 ((x0):List Z0)=Yw x0:=by
 rw[Yw.v]
 simp only[Yw.e6]
 rfl
theorem Yw.ok :V.Valid prog 112 Yw.con:=
 V.fo (tab_cons WX.ok tab_nil) func112 (by kernel_rfl) (λx y h=>(show V.evBody Yw.E Yw.con f112 x=_ from Yw.eq x).trans (V.cfl (by kernel_rfl) h))
abbrev WP.con :V.Con:=⟨(.cons (.sl (ci .nil)) .nil),(ci .nil),λ(x:List Int)=>WP x,[],[(false,1)],[(false,1)],[false],[]⟩
abbrev WP.E :Env:=V.mkE V.tys [(167,ZQ.con)] [] [] [] [] []
theorem WP.eq (x0:List Int):V.evBody WP.E WP.con f171 ((x0):List Int)=WP x0:=by kernel_rfl
theorem WP.ok :V.Valid prog 171 WP.con:=
 V.fo (tab_cons ZQ.ok tab_nil) func171 (by kernel_rfl) (λx y h=>(show V.evBody WP.E WP.con f171 x=_ from WP.eq x).trans (V.cfl (by kernel_rfl) h))
abbrev WY.con :V.Con:=⟨(ci (ci .nil)),(ci .nil),λ(x:Int×Int)=>WY x.1 x.2,[],[(false,1),(false,1)],[(false,1)],[false],[]⟩
abbrev WY.E :Env:=V.mkE V.tys [(171,WP.con)] [] [] [] [] []
theorem WY.eq (x0:Int)(x1:Int):V.evBody WY.E WY.con f166 ((x0,x1):Int×Int)=WY x0 x1:=by kernel_rfl
theorem WY.ok :V.Valid prog 166 WY.con:=
 V.fo (tab_cons WP.ok tab_nil) func166 (by kernel_rfl) (λx y h=>(show V.evBody WY.E WY.con f166 x=_ from WY.eq x.1 x.2).trans (V.cfl (by kernel_rfl) h))
abbrev Yk.con :V.Con:=⟨(.cons (.sl (ci .nil)) .nil),(.cons (.sl (ci .nil)) .nil),λ(x:List Int)=>Yk x,[],[(false,1)],[(false,1)],[true],[]⟩
abbrev Yk.E :Env:=V.mkE V.tys [(166,WY.con)] [(6,[0,3,4],[(64000038400192,(ci .nil),true)])] [(6,12)] [] [] []
abbrev Yk.kt (x0:List Int):Kt (List Int):=ktOf Yk.E Yk.con f148 ((x0):List Int)
abbrev Yk.s6 (x0:List Int)(aE:Int)(aA:List Int):St:=⟨[(0, .v false [.val (.sl (ci .nil) x0)]),(3, .v false [.ref 64000038400192]),(4, .v false [.vi (aE)])],[(64000038400192, .row (ci .nil) true aA)]⟩
theorem Yk.r6 (x0:List Int)(R:St->Option (List Int))(aE:Int)(aA:List Int):loopF Yk.E f148.ntmps [1,1,0,1,0] [] (codeOf f148) (Yk.kt x0) R (Yk.s6 x0 aE aA)=Yk.g6 x0 (λaE aA=>R (Yk.s6 x0 aE aA)) aE aA:=by kernel_rfl
theorem Yk.e6 (x0:List Int):∀(n:Nat) (aE:Int) (aA:List Int),loopN (loopF Yk.E f148.ntmps [1,1,0,1,0] [] (codeOf f148) (Yk.kt x0)) n (Yk.s6 x0 aE aA)=Yk.l6 x0 n aE aA:=by
 intro n
 induction n with
 |zero=>intros;rw[loopN_z];rfl
 |succ n ih=>
  intro aE aA
  rw[loopN_s,Yk.r6]
  simp only[ih]
  first|exact(Yk.u6 ..).symm|rfl
theorem Yk.v (x0:List Int):V.evBody Yk.E Yk.con f148 ((x0):List Int)=Yk.b x0 (λaE aA=>loopN (loopF Yk.E f148.ntmps [1,1,0,1,0] [] (codeOf f148) (Yk.kt x0)) V.KK (Yk.s6 x0 aE aA)):=by kernel_rfl
theorem Yk.eq (x0:List Int):V.evBody Yk.E Yk.con f148 ((x0):List Int)=Yk x0:=by
 rw[Yk.v]
 simp only[Yk.e6]
 rfl
theorem Yk.ok :V.Valid prog 148 Yk.con:=
 V.fo (tab_cons WY.ok tab_nil) func148 (by kernel_rfl) (λx y h=>(show V.evBody Yk.E Yk.con f148 x=_ from Yk.eq x).trans (V.cfl (by kernel_rfl) h))
abbrev YG.con :V.Con:=⟨(.cons (.sl (ci .nil)) .nil),(ci .nil),λ(x:List Int)=>YG x,[],[(false,1)],[(false,1)],[false],[]⟩
abbrev YG.E :Env:=V.mkE V.tys [(148,Yk.con),(171,WP.con)] [(6,[0],[(0,(ci .nil),false)])] [] [] [] []
abbrev YG.kt (x0:List Int):Kt Int:=ktOf YG.E YG.con f153 ((x0):List Int)
abbrev YG.s6 (aH:List Int):St:=⟨[(0, .v false [.val (.sl (ci .nil) aH)])],[]⟩
theorem YG.r6 (x0:List Int)(R:St->Option Int)(aH:List Int):loopF YG.E f153.ntmps [1,1,0,0] [] (codeOf f153) (YG.kt x0) R (YG.s6 aH)=YG.g6 (λaH=>R (YG.s6 aH)) aH:=by kernel_rfl
theorem YG.e6 (x0:List Int):∀(n:Nat) (aH:List Int),loopN (loopF YG.E f153.ntmps [1,1,0,0] [] (codeOf f153) (YG.kt x0)) n (YG.s6 aH)=YG.l6 n aH:=by
 intro n
 induction n with
 |zero=>intros;rw[loopN_z];rfl
 |succ n ih=>
  intro aH
  rw[loopN_s,YG.r6]
  simp only[ih]
  first|exact(YG.u6 ..).symm|rfl
theorem YG.v (x0:List Int):V.evBody YG.E YG.con f153 ((x0):List Int)=YG.b x0 (λaH=>loopN (loopF YG.E f153.ntmps [1,1,0,0] [] (codeOf f153) (YG.kt x0)) V.KK (YG.s6 aH)):=by kernel_rfl
theorem YG.eq (x0:List Int):V.evBody YG.E YG.con f153 ((x0):List Int)=YG x0:=by
 rw[YG.v]
 simp only[YG.e6]
 rfl
theorem YG.ok :V.Valid prog 153 YG.con:=
 V.fo (tab_cons Yk.ok (tab_cons WP.ok tab_nil)) func153 (by kernel_rfl) (λx y h=>(show V.evBody YG.E YG.con f153 x=_ from YG.eq x).trans (V.cfl (by kernel_rfl) h))
abbrev Uv.con :V.Con:=⟨(ci (ci .nil)),(ci .nil),λ(x:Int×Int)=>Uv x.1 x.2,[],[(false,1),(false,1)],[(false,1)],[false],[]⟩
abbrev Uv.E :Env:=V.mkE V.tys [(171,WP.con)] [] [] [] [] []
theorem Uv.eq (x0:Int)(x1:Int):V.evBody Uv.E Uv.con f130 ((x0,x1):Int×Int)=Uv x0 x1:=by kernel_rfl
theorem Uv.ok :V.Valid prog 130 Uv.con:=
 V.fo (tab_cons WP.ok tab_nil) func130 (by kernel_rfl) (λx y h=>(show V.evBody Uv.E Uv.con f130 x=_ from Uv.eq x.1 x.2).trans (V.cfl (by kernel_rfl) h))
abbrev Uf.con :V.Con:=⟨(.cons (.sl V.eEntry) .nil),(ci .nil),λ(x:List Z0)=>Uf x,[],[(false,1)],[(false,1)],[false],[]⟩
abbrev Uf.E :Env:=V.mkE V.tys [(112,Yw.con),(130,Uv.con),(153,YG.con)] [] [] [] [] []
theorem Uf.eq (x0:List Z0):V.evBody Uf.E Uf.con f118 ((x0):List Z0)=Uf x0:=by kernel_rfl
theorem Uf.ok :V.Valid prog 118 Uf.con:=
 V.fo (tab_cons Yw.ok (tab_cons Uv.ok (tab_cons YG.ok tab_nil))) func118 (by kernel_rfl) (λx y h=>(show V.evBody Uf.E Uf.con f118 x=_ from Uf.eq x).trans (V.cfl (by kernel_rfl) h))
abbrev UR.con :V.Con:=⟨(ci (.cons (.sl V.eEntry) .nil)),(.cons .bool .nil),λ(x:Int×List Z0)=>UR x.1 x.2,[],[(false,1),(false,1)],[(false,1)],[false],[]⟩
abbrev UR.E :Env:=V.mkE V.tys [(113,Yd.con),(118,Uf.con)] [] [] [] [] []
theorem UR.eq (x0:Int)(x1:List Z0):V.evBody UR.E UR.con f79 ((x0,x1):Int×List Z0)=UR x0 x1:=by kernel_rfl
theorem UR.ok :V.Valid prog 79 UR.con:=
 V.fo (tab_cons Yd.ok (tab_cons Uf.ok tab_nil)) func79 (by kernel_rfl) (λx y h=>(show V.evBody UR.E UR.con f79 x=_ from UR.eq x.1 x.2).trans (V.cfl (by kernel_rfl) h))
abbrev Wm.con :V.Con:=⟨(.cons (.sl V.eSigned) (.cons (.sl V.eEntry) .nil)),(.cons .bool .nil),λ(x:List Z4×List Z0)=>Wm x,[],[(true,2)],[(false,1)],[false],[]⟩
abbrev Wm.E :Env:=V.mkE V.tys [(77,Uc.con),(78,WJ.con),(79,UR.con)] [] [] [] [] []
theorem Wm.eq (x0:Z7):V.evBody Wm.E Wm.con f35 ((x0.1,x0.2):List Z4×List Z0)=Wm x0:=by kernel_rfl
theorem Wm.ok :V.Valid prog 35 Wm.con:=
 V.fo (tab_cons Uc.ok (tab_cons WJ.ok (tab_cons UR.ok tab_nil))) func35 (by kernel_rfl) (λx y h=>(show V.evBody Wm.E Wm.con f35 x=_ from Wm.eq x).trans (V.cfl (by kernel_rfl) h))
abbrev Ug.con :V.Con:=⟨(.cons (.sl V.eSigned) (.cons (.sl V.eEntry) .nil)),(ci .nil),λ(x:List Z4×List Z0)=>Ug x,[],[(true,2)],[(false,1)],[false],[]⟩
abbrev Ug.E :Env:=V.mkE V.tys [(35,Wm.con),(78,WJ.con)] [] [] [] [] []
theorem Ug.eq (x0:Z7):V.evBody Ug.E Ug.con f41 ((x0.1,x0.2):List Z4×List Z0)=Ug x0:=by kernel_rfl
theorem Ug.ok :V.Valid prog 41 Ug.con:=
 V.fo (tab_cons Wm.ok (tab_cons WJ.ok tab_nil)) func41 (by kernel_rfl) (λx y h=>(show V.evBody Ug.E Ug.con f41 x=_ from Ug.eq x).trans (V.cfl (by kernel_rfl) h))
abbrev Qs.con :V.Con:=⟨(.cons (.sl V.eSigned) (.cons (.sl V.eEntry) (.cons (.ptr (ci .nil)) .nil))),(.cons .bool .nil),λ(x:List Z4×List Z0×Int)=>Qs (x.1,x.2.1) x.2.2,[],[(true,2),(false,1)],[(false,1)],[false],[]⟩
abbrev Qs.E :Env:=V.mkE V.tys [(41,Ug.con)] [] [(1,3)] [] [] []
theorem Qs.eq (x0:Z7)(x1:Int):V.evBody Qs.E Qs.con f40 ((x0.1,x0.2,x1):List Z4×List Z0×Int)=Qs x0 x1:=by kernel_rfl
theorem Qs.ok :V.Valid prog 40 Qs.con:=
 V.fo (tab_cons Ug.ok tab_nil) func40 (by kernel_rfl) (λx y h=>(show V.evBody Qs.E Qs.con f40 x=_ from Qs.eq (x.1,x.2.1) x.2.2).trans (V.cfl (by kernel_rfl) h))
abbrev X3.con :V.Con:=⟨(.cons (.sl (.cons (.sl V.eSigned) (.cons (.sl V.eEntry) .nil))) (.cons (.fn 40 false .nil (.cons (.ptr (ci .nil)) .nil)) .nil)),(ci .nil),λ(x:List Z7×(Unit)×(Int))=>X3 x.1 x.2,[],[(false,1),(false,1)],[(false,1)],[false],[]⟩
abbrev X3.E :Env:=V.mkE V.tys [(40,Qs.con)] [(4,[0,1,7,8],[])] [] [] [] []
abbrev X3.kt (x0:List Z7)(x1:(Unit)×(Int)):Kt Int:=ktOf X3.E X3.con f39 ((x0,x1):List Z7×(Unit)×(Int))
abbrev X3.s4 (x0:List Z7)(x1:(Unit)×(Int))(aF:Int)(aM:Int):St:=⟨[(0, .v false [.val (.sl (.cons (.sl V.eSigned) (.cons (.sl V.eEntry) .nil)) x0)]),(1, .v false [.val (.fn 40 false .nil (.cons (.ptr (ci .nil)) .nil) () x1.2)]),(7, .v false [.vi (aF)]),(8, .v false [.vi (aM)])],[]⟩
theorem X3.r4 (x0:List Z7)(x1:(Unit)×(Int))(R:St->Option Int)(aF:Int)(aM:Int):loopF X3.E f39.ntmps [1,0,1,0] [] (codeOf f39) (X3.kt x0 x1) R (X3.s4 x0 x1 aF aM)=X3.g4 x0 x1 (λaF aM=>R (X3.s4 x0 x1 aF aM)) aF aM:=by kernel_rfl
theorem X3.e4 (x0:List Z7)(x1:(Unit)×(Int)):∀(n:Nat) (aF:Int) (aM:Int),loopN (loopF X3.E f39.ntmps [1,0,1,0] [] (codeOf f39) (X3.kt x0 x1)) n (X3.s4 x0 x1 aF aM)=X3.l4 x0 x1 n aF aM:=by
 intro n
 induction n with
 |zero=>intros;rw[loopN_z];rfl
 |succ n ih=>
  intro aF aM
  rw[loopN_s,X3.r4]
  simp only[ih]
  first|exact(X3.u4 ..).symm|rfl
theorem X3.v (x0:List Z7)(x1:(Unit)×(Int)):V.evBody X3.E X3.con f39 ((x0,x1):List Z7×(Unit)×(Int))=X3.b x0 x1 (λaF aM=>loopN (loopF X3.E f39.ntmps [1,0,1,0] [] (codeOf f39) (X3.kt x0 x1)) V.KK (X3.s4 x0 x1 aF aM)):=by kernel_rfl
theorem X3.eq (x0:List Z7)(x1:(Unit)×(Int)):V.evBody X3.E X3.con f39 ((x0,x1):List Z7×(Unit)×(Int))=X3 x0 x1:=by
 rw[X3.v]
 simp only[X3.e4]
 rfl
theorem X3.ok :V.Valid prog 39 X3.con:=
 V.fo (tab_cons Qs.ok tab_nil) func39 (by kernel_rfl) (λx y h=>(show V.evBody X3.E X3.con f39 x=_ from X3.eq x.1 x.2).trans (V.cfl (by kernel_rfl) h))
abbrev Wu.con :V.Con:=⟨(.cons (.sl (.cons (.sl V.eSigned) (.cons (.sl V.eEntry) .nil))) (ci (ci .nil))),(ci .nil),λ(x:List Z7×Int×Int)=>Wu (x.1,x.2.1) x.2.2,[],[(true,2),(false,1)],[(false,1)],[false],[]⟩
abbrev Wu.E :Env:=V.mkE V.tys [(39,X3.con)] [] [] [] [] []
theorem Wu.eq (x0:Z8)(x1:Int):V.evBody Wu.E Wu.con f11 ((x0.1,x0.2,x1):List Z7×Int×Int)=Wu x0 x1:=by kernel_rfl
theorem Wu.ok :V.Valid prog 11 Wu.con:=
 V.fo (tab_cons X3.ok tab_nil) func11 (by kernel_rfl) (λx y h=>(show V.evBody Wu.E Wu.con f11 x=_ from Wu.eq (x.1,x.2.1) x.2.2).trans (V.cfl (by kernel_rfl) h))
abbrev Q4.con :V.Con:=⟨(.cons (.sl (ci .nil)) .nil),(.cons (.sl (ci .nil)) .nil),λ(x:List Int)=>Q4 x,[],[(false,1)],[(false,1)],[true],[]⟩
abbrev Q4.E :Env:=V.mkE V.tys [] [] [] [] [] []
theorem Q4.eq (x0:List Int):V.evBody Q4.E Q4.con f165 ((x0):List Int)=Q4 x0:=by kernel_rfl
theorem Q4.ok :V.Valid prog 165 Q4.con:=
 V.fo tab_nil func165 (by kernel_rfl) (λx y h=>(show V.evBody Q4.E Q4.con f165 x=_ from Q4.eq x).trans (V.cfl (by kernel_rfl) h))
abbrev Us.con :V.Con:=⟨(.cons (.sl (ci .nil)) (ci .nil)),(.cons (.sl (ci .nil)) (ci .nil)),λ(x:List Int×Int)=>Us x,[],[(true,2)],[(true,2)],[true,false],[]⟩
abbrev Us.E :Env:=V.mkE V.tys [(165,Q4.con)] [] [(1,5)] [] [] []
theorem Us.eq (x0:Zc):V.evBody Us.E Us.con f126 ((x0.1,x0.2):List Int×Int)=Us x0:=by kernel_rfl
theorem Us.ok :V.Valid prog 126 Us.con:=
 V.fo (tab_cons Q4.ok tab_nil) func126 (by kernel_rfl) (λx y h=>(show V.evBody Us.E Us.con f126 x=_ from Us.eq x).trans (V.cfl (by kernel_rfl) h))
abbrev XC.con :V.Con:=⟨V.A0,V.eHead,λ(x:V.D0)=>XC (V.p0_0 x),[],[(true,16)],[(true,16)],[false,false,false,false,false,false,false,false,true,false,true,false,false,true,false,false],[]⟩
abbrev XC.E :Env:=V.mkE V.tys [(126,Us.con)] [] [(1,10)] [] [] []
abbrev XC.kt (x0:Z5):Kt Z5:=ktOf XC.E XC.con f89 (V.fl0 x0)
abbrev XC.s (x0:Z5):St:=⟨[(0, .v true (V.lsHead x0))],[]⟩
theorem XC.v0 (x0:Z5):V.evBody XC.E XC.con f89 (V.fl0 x0)=evC XC.E f89.ntmps (codeOf f89) (XC.kt x0) (XC.s x0):=by kernel_rfl
theorem XC.v (x0:Z5):evC XC.E f89.ntmps (codeOf f89) (XC.kt x0) (XC.s x0)=XC x0:=by kernel_rfl
theorem XC.eq (x0:Z5):V.evBody XC.E XC.con f89 (V.fl0 x0)=XC x0:=(XC.v0 x0).trans (XC.v x0)
theorem XC.ok :V.Valid prog 89 XC.con:=
 V.fo (tab_cons Us.ok tab_nil) func89 (by kernel_rfl) (λx y h=>(show V.evBody XC.E XC.con f89 x=_ from XC.eq (V.p0_0 x)).trans (V.cfl (by kernel_rfl) h))
abbrev Q3.con :V.Con:=⟨(.cons (.sl (ci (ci .nil))) .nil),(.cons (.sl (ci (ci .nil))) .nil),λ(x:List Z9)=>Q3 x,[],[(false,1)],[(false,1)],[true],[]⟩
abbrev Q3.E :Env:=V.mkE V.tys [] [] [] [] [] []
theorem Q3.eq (x0:List Z9):V.evBody Q3.E Q3.con f147 ((x0):List Z9)=Q3 x0:=by kernel_rfl
theorem Q3.ok :V.Valid prog 147 Q3.con:=
 V.fo tab_nil func147 (by kernel_rfl) (λx y h=>(show V.evBody Q3.E Q3.con f147 x=_ from Q3.eq x).trans (V.cfl (by kernel_rfl) h))
abbrev XI.con :V.Con:=⟨V.A2,V.eSigned,λ(x:V.D2)=>XI (V.p2_0 x),[],[(true,17)],[(true,17)],[false,false,false,false,false,false,false,false,true,false,true,false,false,true,false,false,true],[]⟩
abbrev XI.E :Env:=V.mkE V.tys [(89,XC.con),(147,Q3.con)] [] [(1,5)] [] [] []
abbrev XI.kt (x0:Z4):Kt Z4:=ktOf XI.E XI.con f107 (V.fl2 x0)
abbrev XI.s (x0:Z4):St:=⟨[(0, .v true (V.lsSigned x0))],[]⟩
theorem XI.v0 (x0:Z4):V.evBody XI.E XI.con f107 (V.fl2 x0)=evC XI.E f107.ntmps (codeOf f107) (XI.kt x0) (XI.s x0):=by kernel_rfl
theorem XI.v (x0:Z4):evC XI.E f107.ntmps (codeOf f107) (XI.kt x0) (XI.s x0)=XI x0:=by kernel_rfl
theorem XI.eq (x0:Z4):V.evBody XI.E XI.con f107 (V.fl2 x0)=XI x0:=(XI.v0 x0).trans (XI.v x0)
theorem XI.ok :V.Valid prog 107 XI.con:=
 V.fo (tab_cons XC.ok (tab_cons Q3.ok tab_nil)) func107 (by kernel_rfl) (λx y h=>(show V.evBody XI.E XI.con f107 x=_ from XI.eq (V.p2_0 x)).trans (V.cfl (by kernel_rfl) h))
abbrev Yy.con :V.Con:=⟨(.cons (.sl V.eSigned) .nil),(.cons (.sl V.eSigned) .nil),λ(x:List Z4)=>Yy x,[],[(false,1)],[(false,1)],[true],[]⟩
abbrev Yy.E :Env:=V.mkE V.tys [(107,XI.con)] [(6,[3,7,8,9],[(64000038400192,V.eSigned,true)])] [] [] [] []
abbrev Yy.kt (x0:List Z4):Kt (List Z4):=ktOf Yy.E Yy.con f68 ((x0):List Z4)
abbrev Yy.s6 (x0:List Z4)(aE:Int)(aA:Int)(aD:List Z4):St:=⟨[(3, .v false [.ref 64000038400192]),(7, .v false [.val (.sl V.eSigned x0)]),(8, .v false [.vi (aE)]),(9, .v false [.vi (aA)])],[(64000038400192, .row V.eSigned true aD)]⟩
theorem Yy.r6 (x0:List Z4)(R:St->Option (List Z4))(aE:Int)(aA:Int)(aD:List Z4):loopF Yy.E f68.ntmps [1,1,0,1,0] [] (codeOf f68) (Yy.kt x0) R (Yy.s6 x0 aE aA aD)=Yy.g6 x0 (λaE aA aD=>R (Yy.s6 x0 aE aA aD)) aE aA aD:=by kernel_rfl
theorem Yy.e6 (x0:List Z4):∀(n:Nat) (aE:Int) (aA:Int) (aD:List Z4),loopN (loopF Yy.E f68.ntmps [1,1,0,1,0] [] (codeOf f68) (Yy.kt x0)) n (Yy.s6 x0 aE aA aD)=Yy.l6 x0 n aE aA aD:=by
 intro n
 induction n with
 |zero=>intros;rw[loopN_z];rfl
 |succ n ih=>
  intro aE aA aD
  rw[loopN_s,Yy.r6]
  simp only[ih]
  first|exact(Yy.u6 ..).symm|rfl
theorem Yy.v (x0:List Z4):V.evBody Yy.E Yy.con f68 ((x0):List Z4)=Yy.b x0 (λaE aA aD=>loopN (loopF Yy.E f68.ntmps [1,1,0,1,0] [] (codeOf f68) (Yy.kt x0)) V.KK (Yy.s6 x0 aE aA aD)):=by kernel_rfl
theorem Yy.eq (x0:List Z4):V.evBody Yy.E Yy.con f68 ((x0):List Z4)=Yy x0:=by
 rw[Yy.v]
 simp only[Yy.e6]
 rfl
theorem Yy.ok :V.Valid prog 68 Yy.con:=
 V.fo (tab_cons XI.ok tab_nil) func68 (by kernel_rfl) (λx y h=>(show V.evBody Yy.E Yy.con f68 x=_ from Yy.eq x).trans (V.cfl (by kernel_rfl) h))
abbrev Qp.con :V.Con:=⟨(.cons .str (ci (ci (.cons (.sl (.cons .str .nil)) (.cons (.ptr (.cons .str .nil)) .nil))))),(.cons .bool .nil),λ(x:ByteArray×Int×Int×List ByteArray×ByteArray)=>Qp (x.1,x.2.1,x.2.2.1,x.2.2.2.1) x.2.2.2.2,[],[(true,4),(false,1)],[(false,1)],[false],[]⟩
abbrev Qp.E :Env:=V.mkE V.tys [] [] [] [] [] []
theorem Qp.eq (x0:Z0)(x1:ByteArray):V.evBody Qp.E Qp.con f109 ((x0.1,x0.2.1,x0.2.2.1,x0.2.2.2,x1):ByteArray×Int×Int×List ByteArray×ByteArray)=Qp x0 x1:=by kernel_rfl
theorem Qp.ok :V.Valid prog 109 Qp.con:=
 V.fo tab_nil func109 (by kernel_rfl) (λx y h=>(show V.evBody Qp.E Qp.con f109 x=_ from Qp.eq (x.1,x.2.1,x.2.2.1,x.2.2.2.1) x.2.2.2.2).trans (V.cfl (by kernel_rfl) h))
abbrev X1.con :V.Con:=⟨(.cons (.sl V.eEntry) (.cons (.fn 109 false .nil (.cons (.ptr (.cons .str .nil)) .nil)) .nil)),(ci .nil),λ(x:List Z0×(Unit)×(ByteArray))=>X1 x.1 x.2,[],[(false,1),(false,1)],[(false,1)],[false],[]⟩
abbrev X1.E :Env:=V.mkE V.tys [(109,Qp.con)] [(4,[0,1,7,8],[])] [] [] [] []
abbrev X1.kt (x0:List Z0)(x1:(Unit)×(ByteArray)):Kt Int:=ktOf X1.E X1.con f108 ((x0,x1):List Z0×(Unit)×(ByteArray))
abbrev X1.s4 (x0:List Z0)(x1:(Unit)×(ByteArray))(aF:Int)(aM:Int):St:=⟨[(0, .v false [.val (.sl V.eEntry x0)]),(1, .v false [.val (.fn 109 false .nil (.cons (.ptr (.cons .str .nil)) .nil) () x1.2)]),(7, .v false [.vi (aF)]),(8, .v false [.vi (aM)])],[]⟩
theorem X1.r4 (x0:List Z0)(x1:(Unit)×(ByteArray))(R:St->Option Int)(aF:Int)(aM:Int):loopF X1.E f108.ntmps [1,0,1,0] [] (codeOf f108) (X1.kt x0 x1) R (X1.s4 x0 x1 aF aM)=X1.g4 x0 x1 (λaF aM=>R (X1.s4 x0 x1 aF aM)) aF aM:=by kernel_rfl
theorem X1.e4 (x0:List Z0)(x1:(Unit)×(ByteArray)):∀(n:Nat) (aF:Int) (aM:Int),loopN (loopF X1.E f108.ntmps [1,0,1,0] [] (codeOf f108) (X1.kt x0 x1)) n (X1.s4 x0 x1 aF aM)=X1.l4 x0 x1 n aF aM:=by
 intro n
 induction n with
 |zero=>intros;rw[loopN_z];rfl
 |succ n ih=>
  intro aF aM
  rw[loopN_s,X1.r4]
  simp only[ih]
  first|exact(X1.u4 ..).symm|rfl
theorem X1.v (x0:List Z0)(x1:(Unit)×(ByteArray)):V.evBody X1.E X1.con f108 ((x0,x1):List Z0×(Unit)×(ByteArray))=X1.b x0 x1 (λaF aM=>loopN (loopF X1.E f108.ntmps [1,0,1,0] [] (codeOf f108) (X1.kt x0 x1)) V.KK (X1.s4 x0 x1 aF aM)):=by kernel_rfl
theorem X1.eq (x0:List Z0)(x1:(Unit)×(ByteArray)):V.evBody X1.E X1.con f108 ((x0,x1):List Z0×(Unit)×(ByteArray))=X1 x0 x1:=by
 rw[X1.v]
 simp only[X1.e4]
 rfl
theorem X1.ok :V.Valid prog 108 X1.con:=
 V.fo (tab_cons Qp.ok tab_nil) func108 (by kernel_rfl) (λx y h=>(show V.evBody X1.E X1.con f108 x=_ from X1.eq x.1 x.2).trans (V.cfl (by kernel_rfl) h))
abbrev WO.con :V.Con:=⟨(.cons (.sl V.eEntry) (.cons .str .nil)),(ci .nil),λ(x:List Z0×ByteArray)=>WO x.1 x.2,[],[(false,1),(false,1)],[(false,1)],[false],[]⟩
abbrev WO.E :Env:=V.mkE V.tys [(108,X1.con)] [] [] [] [] []
theorem WO.eq (x0:List Z0)(x1:ByteArray):V.evBody WO.E WO.con f69 ((x0,x1):List Z0×ByteArray)=WO x0 x1:=by kernel_rfl
theorem WO.ok :V.Valid prog 69 WO.con:=
 V.fo (tab_cons X1.ok tab_nil) func69 (by kernel_rfl) (λx y h=>(show V.evBody WO.E WO.con f69 x=_ from WO.eq x.1 x.2).trans (V.cfl (by kernel_rfl) h))
abbrev Q5.con :V.Con:=⟨(.cons (.sl (.cons .str .nil)) .nil),(.cons (.sl (.cons .str .nil)) .nil),λ(x:List ByteArray)=>Q5 x,[],[(false,1)],[(false,1)],[true],[]⟩
abbrev Q5.E :Env:=V.mkE V.tys [] [] [] [] [] []
theorem Q5.eq (x0:List ByteArray):V.evBody Q5.E Q5.con f110 ((x0):List ByteArray)=Q5 x0:=by kernel_rfl
theorem Q5.ok :V.Valid prog 110 Q5.con:=
 V.fo tab_nil func110 (by kernel_rfl) (λx y h=>(show V.evBody Q5.E Q5.con f110 x=_ from Q5.eq x).trans (V.cfl (by kernel_rfl) h))
abbrev Wn.con :V.Con:=⟨V.eEntry,V.eEntry,λ(x:ByteArray×Int×Int×List ByteArray)=>Wn x,[],[(true,4)],[(true,4)],[false,false,false,true],[]⟩
abbrev Wn.E :Env:=V.mkE V.tys [(110,Q5.con)] [] [] [] [] []
theorem Wn.eq (x0:Z0):V.evBody Wn.E Wn.con f70 ((x0.1,x0.2.1,x0.2.2.1,x0.2.2.2):ByteArray×Int×Int×List ByteArray)=Wn x0:=by kernel_rfl
theorem Wn.ok :V.Valid prog 70 Wn.con:=
 V.fo (tab_cons Q5.ok tab_nil) func70 (by kernel_rfl) (λx y h=>(show V.evBody Wn.E Wn.con f70 x=_ from Wn.eq x).trans (V.cfl (by kernel_rfl) h))
abbrev YD.con :V.Con:=⟨(.cons (.sl (ci .nil)) (ci .nil)),(.cons (.sl (ci .nil)) .nil),λ(x:List Int×Int)=>YD x.1 x.2,[],[(false,1),(false,1)],[(false,1)],[true],[]⟩
abbrev YD.E :Env:=V.mkE V.tys [(36,ZW.con),(148,Yk.con)] [(8,[0,1,5],[(0,(ci .nil),false),(64000051200320,(ci .nil),true)])] [] [] [] []
abbrev YD.kt (x0:List Int)(x1:Int):Kt (List Int):=ktOf YD.E YD.con f111 ((x0,x1):List Int×Int)
abbrev YD.s8 (aU:List Int)(aO:Int)(aG:List Int):St:=⟨[(0, .v false [.val (.sl (ci .nil) aU)]),(1, .v false [.vi (aO)]),(5, .v false [.ref 64000051200320])],[(64000051200320, .row (ci .nil) true aG)]⟩
theorem YD.r8 (x0:List Int)(x1:Int)(R:St->Option (List Int))(aU:List Int)(aO:Int)(aG:List Int):loopF YD.E f111.ntmps [1,1,1,0,0] [] (codeOf f111) (YD.kt x0 x1) R (YD.s8 aU aO aG)=YD.g8 (λaU aO aG=>R (YD.s8 aU aO aG)) aU aO aG:=by kernel_rfl
theorem YD.e8 (x0:List Int)(x1:Int):∀(n:Nat) (aU:List Int) (aO:Int) (aG:List Int),loopN (loopF YD.E f111.ntmps [1,1,1,0,0] [] (codeOf f111) (YD.kt x0 x1)) n (YD.s8 aU aO aG)=YD.l8 n aU aO aG:=by
 intro n
 induction n with
 |zero=>intros;rw[loopN_z];rfl
 |succ n ih=>
  intro aU aO aG
  rw[loopN_s,YD.r8]
  simp only[ih]
  first|exact(YD.u8 ..).symm|rfl
theorem YD.v (x0:List Int)(x1:Int):V.evBody YD.E YD.con f111 ((x0,x1):List Int×Int)=YD.b x0 x1 (λaU aO aG=>loopN (loopF YD.E f111.ntmps [1,1,1,0,0] [] (codeOf f111) (YD.kt x0 x1)) V.KK (YD.s8 aU aO aG)):=by kernel_rfl
theorem YD.eq (x0:List Int)(x1:Int):V.evBody YD.E YD.con f111 ((x0,x1):List Int×Int)=YD x0 x1:=by
 rw[YD.v]
 simp only[YD.e8]
 rfl
theorem YD.ok :V.Valid prog 111 YD.con:=
 V.fo (tab_cons ZW.ok (tab_cons Yk.ok tab_nil)) func111 (by kernel_rfl) (λx y h=>(show V.evBody YD.E YD.con f111 x=_ from YD.eq x.1 x.2).trans (V.cfl (by kernel_rfl) h))
abbrev WZ.con :V.Con:=⟨(.cons (.sl V.eEntry) (.cons .str .nil)),(ci (.cons (.sl (ci .nil)) (.cons .bool .nil))),λ(x:List Z0×ByteArray)=>WZ x.1 x.2,[],[(false,1),(false,1)],[(true,2),(false,1)],[false,true,false],[]⟩
abbrev WZ.E :Env:=V.mkE V.tys [(69,WO.con),(111,YD.con),(112,Yw.con)] [] [] [] [] []
theorem WZ.eq (x0:List Z0)(x1:ByteArray):V.evBody WZ.E WZ.con f71 ((x0,x1):List Z0×ByteArray)=WZ x0 x1:=by kernel_rfl
theorem WZ.ok :V.Valid prog 71 WZ.con:=
 V.fo (tab_cons WO.ok (tab_cons YD.ok (tab_cons Yw.ok tab_nil))) func71 (by kernel_rfl) (λx y h=>(show V.evBody WZ.E WZ.con f71 x=_ from WZ.eq x.1 x.2).trans (V.cfl (by kernel_rfl) h))
abbrev YQ.con :V.Con:=⟨(.cons (.sl V.eEntry) (.cons .str .nil)),(ci .nil),λ(x:List Z0×ByteArray)=>YQ x.1 x.2,[],[(false,1),(false,1)],[(false,1)],[false],[]⟩
abbrev YQ.E :Env:=V.mkE V.tys [(132,Ws.con)] [(6,[1,5,8,9,10],[])] [] [] [] []
abbrev YQ.kt (x0:List Z0)(x1:ByteArray):Kt Int:=ktOf YQ.E YQ.con f114 ((x0,x1):List Z0×ByteArray)
abbrev YQ.s6 (x0:List Z0)(x1:ByteArray)(aE:Int)(aD:Int)(aJ:Int):St:=⟨[(1, .v false [.val (.str x1)]),(5, .v false [.vi (aE)]),(8, .v false [.val (.sl V.eEntry x0)]),(9, .v false [.vi (aD)]),(10, .v false [.vi (aJ)])],[]⟩
theorem YQ.r6 (x0:List Z0)(x1:ByteArray)(R:St->Option Int)(aE:Int)(aD:Int)(aJ:Int):loopF YQ.E f114.ntmps [1,1,0,1,0] [] (codeOf f114) (YQ.kt x0 x1) R (YQ.s6 x0 x1 aE aD aJ)=YQ.g6 x0 x1 (λaE aD aJ=>R (YQ.s6 x0 x1 aE aD aJ)) aE aD aJ:=by kernel_rfl
theorem YQ.e6 (x0:List Z0)(x1:ByteArray):∀(n:Nat) (aE:Int) (aD:Int) (aJ:Int),loopN (loopF YQ.E f114.ntmps [1,1,0,1,0] [] (codeOf f114) (YQ.kt x0 x1)) n (YQ.s6 x0 x1 aE aD aJ)=YQ.l6 x0 x1 n aE aD aJ:=by
 intro n
 induction n with
 |zero=>intros;rw[loopN_z];rfl
 |succ n ih=>
  intro aE aD aJ
  rw[loopN_s,YQ.r6]
  simp only[ih]
  first|exact(YQ.u6 ..).symm|rfl
theorem YQ.v (x0:List Z0)(x1:ByteArray):V.evBody YQ.E YQ.con f114 ((x0,x1):List Z0×ByteArray)=YQ.b x0 x1 (λaE aD aJ=>loopN (loopF YQ.E f114.ntmps [1,1,0,1,0] [] (codeOf f114) (YQ.kt x0 x1)) V.KK (YQ.s6 x0 x1 aE aD aJ)):=by kernel_rfl
theorem YQ.eq (x0:List Z0)(x1:ByteArray):V.evBody YQ.E YQ.con f114 ((x0,x1):List Z0×ByteArray)=YQ x0 x1:=by
 rw[YQ.v]
 simp only[YQ.e6]
 rfl
theorem YQ.ok :V.Valid prog 114 YQ.con:=
 V.fo (tab_cons Ws.ok tab_nil) func114 (by kernel_rfl) (λx y h=>(show V.evBody YQ.E YQ.con f114 x=_ from YQ.eq x.1 x.2).trans (V.cfl (by kernel_rfl) h))
abbrev ZN.con :V.Con:=⟨(.cons (.sl V.eEntry) (.cons .str .nil)),V.eRGapBool,λ(x:List Z0×ByteArray)=>ZN x.1 x.2,[],[(false,1),(false,1)],[(true,13),(false,1)],[false,false,false,false,true,false,false,false,true,false,true,false,true,false],[]⟩
abbrev ZN.E :Env:=V.mkE V.tys [(67,ZM.con),(69,WO.con),(70,Wn.con),(71,WZ.con),(113,Yd.con),(114,YQ.con)] [(5,[0,1,4,20],[]),(15,[0,4,6],[(64000000000016400388,(.cons .str .nil),true),(64000000000016400394,(ci .nil),true)])] [] [] [] []
abbrev ZN.kt (x0:List Z0)(x1:ByteArray):Kt Wr:=ktOf ZN.E ZN.con f72 ((x0,x1):List Z0×ByteArray)
abbrev ZN.s15 (x0:List Z0)(y2:Int)(dX:ByteArray)(dY:Int)(dZ:Int)(eA:Int)(eB:List ByteArray)(eC:List Int):St:=⟨[(0, .v false [.val (.sl V.eEntry x0)]),(4, .v false [.ptr 64000 0]),(6, .v false [.ptr 256256 0])],[(64000, .box [.vi ((0:Int)), .val (.str (⟨#[]⟩:ByteArray)), .vi ((0:Int)), .vi ((0:Int)), .nil0, .val (.str (⟨#[]⟩:ByteArray)), .vi ((0:Int)), .vi ((0:Int)), .nil0, .vi ((0:Int)), .nil0, .vi ((0:Int)), .nil0]),(256256, .box [.vi (y2), .val (.str dX), .vi (dY), .vi (dZ), .ref 64000000000016400388, .val (.str (⟨#[]⟩:ByteArray)), .vi ((0:Int)), .vi ((0:Int)), .nil0, .vi (eA), .ref 64000000000016400394, .vi ((0:Int)), .nil0]),(64000000000016400388, .row (.cons .str .nil) true eB),(64000000000016400394, .row (ci .nil) true eC)]⟩
abbrev ZN.s5 (x0:List Z0)(x1:ByteArray)(aQ:Bool):St:=⟨[(0, .v false [.val (.sl V.eEntry x0)]),(1, .v false [.val (.str x1)]),(4, .v false [.ptr 64000 0]),(20, .v false [.val (.bool aQ)])],[(64000, .box [.vi ((0:Int)), .val (.str (⟨#[]⟩:ByteArray)), .vi ((0:Int)), .vi ((0:Int)), .nil0, .val (.str (⟨#[]⟩:ByteArray)), .vi ((0:Int)), .vi ((0:Int)), .nil0, .vi ((0:Int)), .nil0, .vi ((0:Int)), .nil0])]⟩
theorem ZN.r15 (x0:List Z0)(x1:ByteArray)(y2:Int)(dX:ByteArray)(dY:Int)(dZ:Int)(eA:Int)(eB:List ByteArray)(eC:List Int):joinF ZN.E f72.ntmps [1,1,1] [] (codeOf f72) (ZN.kt x0 x1) (ZN.s15 x0 y2 dX dY dZ eA eB eC)=ZN.g15 x0 y2 dX dY dZ eA eB eC:=by kernel_rfl
theorem ZN.e15 (x0:List Z0)(x1:ByteArray)(y2:Int)(dX:ByteArray)(dY:Int)(dZ:Int)(eA:Int)(eB:List ByteArray)(eC:List Int):jn (joinF ZN.E f72.ntmps [1,1,1] [] (codeOf f72) (ZN.kt x0 x1)) (ZN.s15 x0 y2 dX dY dZ eA eB eC)=ZN.l15 x0 y2 dX dY dZ eA eB eC:=by
 rw[jn_eq,ZN.r15]
 rfl
theorem ZN.r5 (x0:List Z0)(x1:ByteArray)(aQ:Bool):joinF ZN.E f72.ntmps [1,0] [] (codeOf f72) (ZN.kt x0 x1) (ZN.s5 x0 x1 aQ)=ZN.g5 x0 x1 (λy2 dX dY dZ eA eB eC=>jn (joinF ZN.E f72.ntmps [1,1,1] [] (codeOf f72) (ZN.kt x0 x1)) (ZN.s15 x0 y2 dX dY dZ eA eB eC)) aQ:=by kernel_rfl
theorem ZN.e5 (x0:List Z0)(x1:ByteArray)(aQ:Bool):jn (joinF ZN.E f72.ntmps [1,0] [] (codeOf f72) (ZN.kt x0 x1)) (ZN.s5 x0 x1 aQ)=ZN.l5 x0 x1 aQ:=by
 rw[jn_eq,ZN.r5]
 simp only[ZN.e15]
 rfl
theorem ZN.v (x0:List Z0)(x1:ByteArray):V.evBody ZN.E ZN.con f72 ((x0,x1):List Z0×ByteArray)=ZN.b x0 x1 (λaQ=>jn (joinF ZN.E f72.ntmps [1,0] [] (codeOf f72) (ZN.kt x0 x1)) (ZN.s5 x0 x1 aQ)):=by kernel_rfl
theorem ZN.eq (x0:List Z0)(x1:ByteArray):V.evBody ZN.E ZN.con f72 ((x0,x1):List Z0×ByteArray)=ZN x0 x1:=by
 rw[ZN.v]
 simp only[ZN.e5]
 rfl
theorem ZN.ok :V.Valid prog 72 ZN.con:=
 V.fo (tab_cons ZM.ok (tab_cons WO.ok (tab_cons Wn.ok (tab_cons WZ.ok (tab_cons Yd.ok (tab_cons YQ.ok tab_nil)))))) func72 (by kernel_rfl) (λx y h=>(show V.evBody ZN.E ZN.con f72 x=_ from ZN.eq x.1 x.2).trans (V.cfl (by kernel_rfl) h))
abbrev Xi.con :V.Con:=⟨(.cons (.sl V.eSigned) (.cons (.sl V.eEntry) (.cons .str .nil))),V.eAnswer,λ(x:List Z4×List Z0×ByteArray)=>Xi (x.1,x.2.1) x.2.2,[],[(true,2),(false,1)],[(true,21)],[true,false,false,false,false,true,false,true,false,false,false,false,true,false,false,false,true,false,true,false,true],[]⟩
abbrev Xi.E :Env:=V.mkE V.tys [(35,Wm.con),(67,ZM.con),(68,Yy.con),(69,WO.con),(70,Wn.con),(71,WZ.con),(72,ZN.con)] [(7,[1,2,4],[])] [] [] [] []
abbrev Xi.kt (x0:Z7)(x1:ByteArray):Kt Zk:=ktOf Xi.E Xi.con f27 ((x0.1,x0.2,x1):List Z4×List Z0×ByteArray)
abbrev Xi.s7 (x0:Z7)(x1:ByteArray):St:=⟨[(1, .v false [.val (.str x1)]),(2, .v false [.ptr 64000 0]),(4, .v false [.ptr 64064 0])],[(64000, .box [.val (.sl V.eSigned x0.1), .val (.sl V.eEntry x0.2)]),(64064, .box [.nil0, .val (.bool false), .val (.str (⟨#[]⟩:ByteArray)), .vi ((0:Int)), .vi ((0:Int)), .nil0, .vi ((0:Int)), .nil0, .vi ((0:Int)), .val (.str (⟨#[]⟩:ByteArray)), .vi ((0:Int)), .vi ((0:Int)), .nil0, .val (.str (⟨#[]⟩:ByteArray)), .vi ((0:Int)), .vi ((0:Int)), .nil0, .vi ((0:Int)), .nil0, .vi ((0:Int)), .nil0])]⟩
theorem Xi.r7 (x0:Z7)(x1:ByteArray):joinF Xi.E f27.ntmps [1] [] (codeOf f27) (Xi.kt x0 x1) (Xi.s7 x0 x1)=Xi.g7 x0 x1:=by kernel_rfl
theorem Xi.e7 (x0:Z7)(x1:ByteArray):jn (joinF Xi.E f27.ntmps [1] [] (codeOf f27) (Xi.kt x0 x1)) (Xi.s7 x0 x1)=Xi.l7 x0 x1:=by
 rw[jn_eq,Xi.r7]
 rfl
theorem Xi.v (x0:Z7)(x1:ByteArray):V.evBody Xi.E Xi.con f27 ((x0.1,x0.2,x1):List Z4×List Z0×ByteArray)=Xi.b x0 x1 (jn (joinF Xi.E f27.ntmps [1] [] (codeOf f27) (Xi.kt x0 x1)) (Xi.s7 x0 x1)):=by kernel_rfl
theorem Xi.eq (x0:Z7)(x1:ByteArray):V.evBody Xi.E Xi.con f27 ((x0.1,x0.2,x1):List Z4×List Z0×ByteArray)=Xi x0 x1:=by
 rw[Xi.v]
 simp only[Xi.e7]
 rfl
theorem Xi.ok :V.Valid prog 27 Xi.con:=
 V.fo (tab_cons Wm.ok (tab_cons ZM.ok (tab_cons Yy.ok (tab_cons WO.ok (tab_cons Wn.ok (tab_cons WZ.ok (tab_cons ZN.ok tab_nil))))))) func27 (by kernel_rfl) (λx y h=>(show V.evBody Xi.E Xi.con f27 x=_ from Xi.eq (x.1,x.2.1) x.2.2).trans (V.cfl (by kernel_rfl) h))
abbrev X0.con :V.Con:=⟨V.eRServerIntStr,V.eAnswer,λ(x:List Z7×Int×Int×ByteArray)=>X0 (x.1,x.2.1) x.2.2.1 x.2.2.2,[],[(true,2),(false,1),(false,1)],[(true,21)],[true,false,false,false,false,true,false,true,false,false,false,false,true,false,false,false,true,false,true,false,true],[]⟩
abbrev X0.E :Env:=V.mkE V.tys [(11,Wu.con),(27,Xi.con)] [(9,[2,3,6,7],[])] [] [] [] []
abbrev X0.kt (x0:Z8)(x1:Int)(x2:ByteArray):Kt Zk:=ktOf X0.E X0.con f6 ((x0.1,x0.2,x1,x2):List Z7×Int×Int×ByteArray)
abbrev X0.s9 (x0:Z8)(x2:ByteArray)(y1:Int):St:=⟨[(2, .v false [.val (.str x2)]),(3, .v false [.ptr 64000 0]),(6, .v false [.ptr 64064 0]),(7, .v false [.vi (y1)])],[(64000, .box [.val (.sl (.cons (.sl V.eSigned) (.cons (.sl V.eEntry) .nil)) x0.1), .vi (x0.2)]),(64064, .box [.nil0, .val (.bool false), .val (.str (⟨#[]⟩:ByteArray)), .vi ((0:Int)), .vi ((0:Int)), .nil0, .vi ((0:Int)), .nil0, .vi ((0:Int)), .val (.str (⟨#[]⟩:ByteArray)), .vi ((0:Int)), .vi ((0:Int)), .nil0, .val (.str (⟨#[]⟩:ByteArray)), .vi ((0:Int)), .vi ((0:Int)), .nil0, .vi ((0:Int)), .nil0, .vi ((0:Int)), .nil0])]⟩
theorem X0.r9 (x0:Z8)(x1:Int)(x2:ByteArray)(y1:Int):joinF X0.E f6.ntmps [1,1] [] (codeOf f6) (X0.kt x0 x1 x2) (X0.s9 x0 x2 y1)=X0.g9 x0 x2 y1:=by kernel_rfl
theorem X0.e9 (x0:Z8)(x1:Int)(x2:ByteArray)(y1:Int):jn (joinF X0.E f6.ntmps [1,1] [] (codeOf f6) (X0.kt x0 x1 x2)) (X0.s9 x0 x2 y1)=X0.l9 x0 x2 y1:=by
 rw[jn_eq,X0.r9]
 rfl
theorem X0.v (x0:Z8)(x1:Int)(x2:ByteArray):V.evBody X0.E X0.con f6 ((x0.1,x0.2,x1,x2):List Z7×Int×Int×ByteArray)=X0.b x0 x1 x2 (λy1=>jn (joinF X0.E f6.ntmps [1,1] [] (codeOf f6) (X0.kt x0 x1 x2)) (X0.s9 x0 x2 y1)):=by kernel_rfl
theorem X0.eq (x0:Z8)(x1:Int)(x2:ByteArray):V.evBody X0.E X0.con f6 ((x0.1,x0.2,x1,x2):List Z7×Int×Int×ByteArray)=X0 x0 x1 x2:=by
 rw[X0.v]
 simp only[X0.e9]
 rfl
theorem X0.ok :V.Valid prog 6 X0.con:=
 V.fo (tab_cons Wu.ok (tab_cons Xi.ok tab_nil)) func6 (by kernel_rfl) (λx y h=>(show V.evBody X0.E X0.con f6 x=_ from X0.eq (x.1,x.2.1) x.2.2.1 x.2.2.2).trans (V.cfl (by kernel_rfl) h))
abbrev Y6.con :V.Con:=⟨(.cons (.sl V.eEntry) (.cons .str .nil)),(ci .nil),λ(x:List Z0×ByteArray)=>Y6 x.1 x.2,[],[(false,1),(false,1)],[(false,1)],[false],[]⟩
abbrev Y6.E :Env:=V.mkE V.tys [] [(4,[0,1,5],[])] [] [] [] []
abbrev Y6.kt (x0:List Z0)(x1:ByteArray):Kt Int:=ktOf Y6.E Y6.con f44 ((x0,x1):List Z0×ByteArray)
abbrev Y6.s4 (x0:List Z0)(x1:ByteArray)(aF:Int):St:=⟨[(0, .v false [.val (.sl V.eEntry x0)]),(1, .v false [.val (.str x1)]),(5, .v false [.vi (aF)])],[]⟩
theorem Y6.r4 (x0:List Z0)(x1:ByteArray)(R:St->Option Int)(aF:Int):loopF Y6.E f44.ntmps [1,0,1,0] [] (codeOf f44) (Y6.kt x0 x1) R (Y6.s4 x0 x1 aF)=Y6.g4 x0 x1 (λaF=>R (Y6.s4 x0 x1 aF)) aF:=by kernel_rfl
theorem Y6.e4 (x0:List Z0)(x1:ByteArray):∀(n:Nat) (aF:Int),loopN (loopF Y6.E f44.ntmps [1,0,1,0] [] (codeOf f44) (Y6.kt x0 x1)) n (Y6.s4 x0 x1 aF)=Y6.l4 x0 x1 n aF:=by
 intro n
 induction n with
 |zero=>intros;rw[loopN_z];rfl
 |succ n ih=>
  intro aF
  rw[loopN_s,Y6.r4]
  simp only[ih]
  first|exact(Y6.u4 ..).symm|rfl
theorem Y6.v (x0:List Z0)(x1:ByteArray):V.evBody Y6.E Y6.con f44 ((x0,x1):List Z0×ByteArray)=Y6.b x0 x1 (λaF=>loopN (loopF Y6.E f44.ntmps [1,0,1,0] [] (codeOf f44) (Y6.kt x0 x1)) V.KK (Y6.s4 x0 x1 aF)):=by kernel_rfl
theorem Y6.eq (x0:List Z0)(x1:ByteArray):V.evBody Y6.E Y6.con f44 ((x0,x1):List Z0×ByteArray)=Y6 x0 x1:=by
 rw[Y6.v]
 simp only[Y6.e4]
 rfl
theorem Y6.ok :V.Valid prog 44 Y6.con:=
 V.fo tab_nil func44 (by kernel_rfl) (λx y h=>(show V.evBody Y6.E Y6.con f44 x=_ from Y6.eq x.1 x.2).trans (V.cfl (by kernel_rfl) h))
abbrev Zy.con :V.Con:=⟨(.cons (.sl (ci .nil)) (ci .nil)),(.cons (.sl (ci .nil)) .nil),λ(x:List Int×Int)=>Zy x.1 x.2,[],[(false,1),(false,1)],[(false,1)],[true],[]⟩
abbrev Zy.E :Env:=V.mkE V.tys [(38,Y3.con),(120,Ys.con)] [(10,[1,5,6],[(6,(ci .nil),false),(64000064000320,(ci .nil),true)]),(19,[1,5,6],[])] [] [] [] []
abbrev Zy.kt (x0:List Int)(x1:Int):Kt (List Int):=ktOf Zy.E Zy.con f83 ((x0,x1):List Int×Int)
abbrev Zy.s19 (aS:Int)(aV:List Int)(eV:List Int):St:=⟨[(1, .v false [.vi (aS)]),(5, .v false [.ref 64000121600320]),(6, .v false [.val (.sl (ci .nil) aV)])],[(64000121600320, .row (ci .nil) true eV)]⟩
abbrev Zy.s10 (aS:Int)(aV:List Int)(b8:List Int):St:=⟨[(1, .v false [.vi (aS)]),(5, .v false [.ref 64000064000320]),(6, .v false [.val (.sl (ci .nil) aV)])],[(64000064000320, .row (ci .nil) true b8)]⟩
theorem Zy.r19 (x0:List Int)(x1:Int)(aS:Int)(aV:List Int)(R10:St->Option (List Int))(eV:List Int):joinF Zy.E f83.ntmps [1,1,1,1,0,0,0,1,0,1] [R10] (codeOf f83) (Zy.kt x0 x1) (Zy.s19 aS aV eV)=Zy.g19 aS aV (λaS aV b8=>R10 (Zy.s10 aS aV b8)) eV:=by kernel_rfl
theorem Zy.e19 (x0:List Int)(x1:Int)(aS:Int)(aV:List Int)(R10:St->Option (List Int))(eV:List Int):jn (joinF Zy.E f83.ntmps [1,1,1,1,0,0,0,1,0,1] [R10] (codeOf f83) (Zy.kt x0 x1)) (Zy.s19 aS aV eV)=Zy.l19 aS aV (λaS aV b8=>R10 (Zy.s10 aS aV b8)) eV:=by
 rw[jn_eq,Zy.r19]
 rfl
theorem Zy.r10 (x0:List Int)(x1:Int)(R:St->Option (List Int))(aS:Int)(aV:List Int)(b8:List Int):loopF Zy.E f83.ntmps [1,1,1,1,0,0] [] (codeOf f83) (Zy.kt x0 x1) R (Zy.s10 aS aV b8)=Zy.g10 (λaS aV b8=>R (Zy.s10 aS aV b8)) (λeV=>jn (joinF Zy.E f83.ntmps [1,1,1,1,0,0,0,1,0,1] [R] (codeOf f83) (Zy.kt x0 x1)) (Zy.s19 aS aV eV)) aS aV b8:=by kernel_rfl
theorem Zy.e10 (x0:List Int)(x1:Int):∀(n:Nat) (aS:Int) (aV:List Int) (b8:List Int),loopN (loopF Zy.E f83.ntmps [1,1,1,1,0,0] [] (codeOf f83) (Zy.kt x0 x1)) n (Zy.s10 aS aV b8)=Zy.l10 n aS aV b8:=by
 intro n
 induction n with
 |zero=>intros;rw[loopN_z];rfl
 |succ n ih=>
  intro aS aV b8
  rw[loopN_s,Zy.r10]
  simp only[Zy.e19,ih]
  first|exact(Zy.u10 ..).symm|rfl
theorem Zy.v (x0:List Int)(x1:Int):V.evBody Zy.E Zy.con f83 ((x0,x1):List Int×Int)=Zy.b x0 x1 (λaS aV b8=>loopN (loopF Zy.E f83.ntmps [1,1,1,1,0,0] [] (codeOf f83) (Zy.kt x0 x1)) V.KK (Zy.s10 aS aV b8)):=by kernel_rfl
theorem Zy.eq (x0:List Int)(x1:Int):V.evBody Zy.E Zy.con f83 ((x0,x1):List Int×Int)=Zy x0 x1:=by
 rw[Zy.v]
 simp only[Zy.e10]
 rfl
theorem Zy.ok :V.Valid prog 83 Zy.con:=
 V.fo (tab_cons Y3.ok (tab_cons Ys.ok tab_nil)) func83 (by kernel_rfl) (λx y h=>(show V.evBody Zy.E Zy.con f83 x=_ from Zy.eq x.1 x.2).trans (V.cfl (by kernel_rfl) h))
abbrev U2.con :V.Con:=⟨(.cons (.sl V.eEntry) (.cons .str .nil)),(ci (.cons (.sl (ci .nil)) (.cons .bool .nil))),λ(x:List Z0×ByteArray)=>U2 x.1 x.2,[],[(false,1),(false,1)],[(true,2),(false,1)],[false,true,false],[]⟩
abbrev U2.E :Env:=V.mkE V.tys [(44,Y6.con),(83,Zy.con),(84,YA.con)] [] [] [] [] []
theorem U2.eq (x0:List Z0)(x1:ByteArray):V.evBody U2.E U2.con f46 ((x0,x1):List Z0×ByteArray)=U2 x0 x1:=by kernel_rfl
theorem U2.ok :V.Valid prog 46 U2.con:=
 V.fo (tab_cons Y6.ok (tab_cons Zy.ok (tab_cons YA.ok tab_nil))) func46 (by kernel_rfl) (λx y h=>(show V.evBody U2.E U2.con f46 x=_ from U2.eq x.1 x.2).trans (V.cfl (by kernel_rfl) h))
abbrev YY.con :V.Con:=⟨(.cons (.sl V.eEntry) (.cons .str .nil)),(ci .nil),λ(x:List Z0×ByteArray)=>YY x.1 x.2,[],[(false,1),(false,1)],[(false,1)],[false],[]⟩
abbrev YY.E :Env:=V.mkE V.tys [(123,WE.con)] [(6,[0,1,5,6],[])] [] [] [] []
abbrev YY.kt (x0:List Z0)(x1:ByteArray):Kt Int:=ktOf YY.E YY.con f86 ((x0,x1):List Z0×ByteArray)
abbrev YY.s6 (x0:List Z0)(x1:ByteArray)(aA:Int)(aD:Int):St:=⟨[(0, .v false [.val (.sl V.eEntry x0)]),(1, .v false [.val (.str x1)]),(5, .v false [.vi (aA)]),(6, .v false [.vi (aD)])],[]⟩
theorem YY.r6 (x0:List Z0)(x1:ByteArray)(R:St->Option Int)(aA:Int)(aD:Int):loopF YY.E f86.ntmps [1,1,0,1,0] [] (codeOf f86) (YY.kt x0 x1) R (YY.s6 x0 x1 aA aD)=YY.g6 x0 x1 (λaA aD=>R (YY.s6 x0 x1 aA aD)) aA aD:=by kernel_rfl
theorem YY.e6 (x0:List Z0)(x1:ByteArray):∀(n:Nat) (aA:Int) (aD:Int),loopN (loopF YY.E f86.ntmps [1,1,0,1,0] [] (codeOf f86) (YY.kt x0 x1)) n (YY.s6 x0 x1 aA aD)=YY.l6 x0 x1 n aA aD:=by
 intro n
 induction n with
 |zero=>intros;rw[loopN_z];rfl
 |succ n ih=>
  intro aA aD
  rw[loopN_s,YY.r6]
  simp only[ih]
  first|exact(YY.u6 ..).symm|rfl
theorem YY.v (x0:List Z0)(x1:ByteArray):V.evBody YY.E YY.con f86 ((x0,x1):List Z0×ByteArray)=YY.b x0 x1 (λaA aD=>loopN (loopF YY.E f86.ntmps [1,1,0,1,0] [] (codeOf f86) (YY.kt x0 x1)) V.KK (YY.s6 x0 x1 aA aD)):=by kernel_rfl
theorem YY.eq (x0:List Z0)(x1:ByteArray):V.evBody YY.E YY.con f86 ((x0,x1):List Z0×ByteArray)=YY x0 x1:=by
 rw[YY.v]
 simp only[YY.e6]
 rfl
theorem YY.ok :V.Valid prog 86 YY.con:=
 V.fo (tab_cons WE.ok tab_nil) func86 (by kernel_rfl) (λx y h=>(show V.evBody YY.E YY.con f86 x=_ from YY.eq x.1 x.2).trans (V.cfl (by kernel_rfl) h))
abbrev ZP.con :V.Con:=⟨(.cons (.sl V.eEntry) (.cons .str .nil)),V.eRGapBool,λ(x:List Z0×ByteArray)=>ZP x.1 x.2,[],[(false,1),(false,1)],[(true,13),(false,1)],[false,false,false,false,true,false,false,false,true,false,true,false,true,false],[]⟩
abbrev ZP.E :Env:=V.mkE V.tys [(42,Zv.con),(44,Y6.con),(45,W8.con),(46,U2.con),(85,ZO.con),(86,YY.con)] [(5,[0,1,4,21],[]),(17,[0,4,6,7],[(64000000000020488196,(.cons .str .nil),true),(64000000000020488202,(ci .nil),true)])] [] [] [] []
abbrev ZP.kt (x0:List Z0)(x1:ByteArray):Kt Wr:=ktOf ZP.E ZP.con f47 ((x0,x1):List Z0×ByteArray)
abbrev ZP.s17 (x0:List Z0)(y2:Int)(eD:ByteArray)(eE:Int)(eF:Int)(eG:Int)(eH:List ByteArray)(eI:List Int):St:=⟨[(0, .v false [.val (.sl V.eEntry x0)]),(4, .v false [.ptr 64000 0]),(6, .v false [.vi (y2)]),(7, .v false [.ptr 320128 0])],[(64000, .box [.vi ((0:Int)), .val (.str (⟨#[]⟩:ByteArray)), .vi ((0:Int)), .vi ((0:Int)), .nil0, .val (.str (⟨#[]⟩:ByteArray)), .vi ((0:Int)), .vi ((0:Int)), .nil0, .vi ((0:Int)), .nil0, .vi ((0:Int)), .nil0]),(320128, .box [.vi (y2), .val (.str eD), .vi (eE), .vi (eF), .ref 64000000000020488196, .val (.str (⟨#[]⟩:ByteArray)), .vi ((0:Int)), .vi ((0:Int)), .nil0, .vi (eG), .ref 64000000000020488202, .vi ((0:Int)), .nil0]),(64000000000020488196, .row (.cons .str .nil) true eH),(64000000000020488202, .row (ci .nil) true eI)]⟩
abbrev ZP.s5 (x0:List Z0)(x1:ByteArray)(aQ:Bool):St:=⟨[(0, .v false [.val (.sl V.eEntry x0)]),(1, .v false [.val (.str x1)]),(4, .v false [.ptr 64000 0]),(21, .v false [.val (.bool aQ)])],[(64000, .box [.vi ((0:Int)), .val (.str (⟨#[]⟩:ByteArray)), .vi ((0:Int)), .vi ((0:Int)), .nil0, .val (.str (⟨#[]⟩:ByteArray)), .vi ((0:Int)), .vi ((0:Int)), .nil0, .vi ((0:Int)), .nil0, .vi ((0:Int)), .nil0])]⟩
theorem ZP.r17 (x0:List Z0)(x1:ByteArray)(y2:Int)(eD:ByteArray)(eE:Int)(eF:Int)(eG:Int)(eH:List ByteArray)(eI:List Int):joinF ZP.E f47.ntmps [1,1,1,1] [] (codeOf f47) (ZP.kt x0 x1) (ZP.s17 x0 y2 eD eE eF eG eH eI)=ZP.g17 x0 y2 eD eE eF eG eH eI:=by kernel_rfl
theorem ZP.e17 (x0:List Z0)(x1:ByteArray)(y2:Int)(eD:ByteArray)(eE:Int)(eF:Int)(eG:Int)(eH:List ByteArray)(eI:List Int):jn (joinF ZP.E f47.ntmps [1,1,1,1] [] (codeOf f47) (ZP.kt x0 x1)) (ZP.s17 x0 y2 eD eE eF eG eH eI)=ZP.l17 x0 y2 eD eE eF eG eH eI:=by
 rw[jn_eq,ZP.r17]
 rfl
theorem ZP.r5 (x0:List Z0)(x1:ByteArray)(aQ:Bool):joinF ZP.E f47.ntmps [1,0] [] (codeOf f47) (ZP.kt x0 x1) (ZP.s5 x0 x1 aQ)=ZP.g5 x0 x1 (λy2 eD eE eF eG eH eI=>jn (joinF ZP.E f47.ntmps [1,1,1,1] [] (codeOf f47) (ZP.kt x0 x1)) (ZP.s17 x0 y2 eD eE eF eG eH eI)) aQ:=by kernel_rfl
theorem ZP.e5 (x0:List Z0)(x1:ByteArray)(aQ:Bool):jn (joinF ZP.E f47.ntmps [1,0] [] (codeOf f47) (ZP.kt x0 x1)) (ZP.s5 x0 x1 aQ)=ZP.l5 x0 x1 aQ:=by
 rw[jn_eq,ZP.r5]
 simp only[ZP.e17]
 rfl
theorem ZP.v (x0:List Z0)(x1:ByteArray):V.evBody ZP.E ZP.con f47 ((x0,x1):List Z0×ByteArray)=ZP.b x0 x1 (λaQ=>jn (joinF ZP.E f47.ntmps [1,0] [] (codeOf f47) (ZP.kt x0 x1)) (ZP.s5 x0 x1 aQ)):=by kernel_rfl
theorem ZP.eq (x0:List Z0)(x1:ByteArray):V.evBody ZP.E ZP.con f47 ((x0,x1):List Z0×ByteArray)=ZP x0 x1:=by
 rw[ZP.v]
 simp only[ZP.e5]
 rfl
theorem ZP.ok :V.Valid prog 47 ZP.con:=
 V.fo (tab_cons Zv.ok (tab_cons Y6.ok (tab_cons W8.ok (tab_cons U2.ok (tab_cons ZO.ok (tab_cons YY.ok tab_nil)))))) func47 (by kernel_rfl) (λx y h=>(show V.evBody ZP.E ZP.con f47 x=_ from ZP.eq x.1 x.2).trans (V.cfl (by kernel_rfl) h))
abbrev Xa.con :V.Con:=⟨(.cons (.sl V.eSigned) (.cons (.sl V.eEntry) (.cons .str .nil))),V.eAnswer,λ(x:List Z4×List Z0×ByteArray)=>Xa (x.1,x.2.1) x.2.2,[],[(true,2),(false,1)],[(true,21)],[true,false,false,false,false,true,false,true,false,false,false,false,true,false,false,false,true,false,true,false,true],[]⟩
abbrev Xa.E :Env:=V.mkE V.tys [(37,Wa.con),(42,Zv.con),(43,Y8.con),(44,Y6.con),(45,W8.con),(46,U2.con),(47,ZP.con)] [(7,[1,2,4],[])] [] [] [] []
abbrev Xa.kt (x0:Z7)(x1:ByteArray):Kt Zk:=ktOf Xa.E Xa.con f12 ((x0.1,x0.2,x1):List Z4×List Z0×ByteArray)
abbrev Xa.s7 (x0:Z7)(x1:ByteArray):St:=⟨[(1, .v false [.val (.str x1)]),(2, .v false [.ptr 64000 0]),(4, .v false [.ptr 64064 0])],[(64000, .box [.val (.sl V.eSigned x0.1), .val (.sl V.eEntry x0.2)]),(64064, .box [.nil0, .val (.bool false), .val (.str (⟨#[]⟩:ByteArray)), .vi ((0:Int)), .vi ((0:Int)), .nil0, .vi ((0:Int)), .nil0, .vi ((0:Int)), .val (.str (⟨#[]⟩:ByteArray)), .vi ((0:Int)), .vi ((0:Int)), .nil0, .val (.str (⟨#[]⟩:ByteArray)), .vi ((0:Int)), .vi ((0:Int)), .nil0, .vi ((0:Int)), .nil0, .vi ((0:Int)), .nil0])]⟩
theorem Xa.r7 (x0:Z7)(x1:ByteArray):joinF Xa.E f12.ntmps [1] [] (codeOf f12) (Xa.kt x0 x1) (Xa.s7 x0 x1)=Xa.g7 x0 x1:=by kernel_rfl
theorem Xa.e7 (x0:Z7)(x1:ByteArray):jn (joinF Xa.E f12.ntmps [1] [] (codeOf f12) (Xa.kt x0 x1)) (Xa.s7 x0 x1)=Xa.l7 x0 x1:=by
 rw[jn_eq,Xa.r7]
 rfl
theorem Xa.v (x0:Z7)(x1:ByteArray):V.evBody Xa.E Xa.con f12 ((x0.1,x0.2,x1):List Z4×List Z0×ByteArray)=Xa.b x0 x1 (jn (joinF Xa.E f12.ntmps [1] [] (codeOf f12) (Xa.kt x0 x1)) (Xa.s7 x0 x1)):=by kernel_rfl
theorem Xa.eq (x0:Z7)(x1:ByteArray):V.evBody Xa.E Xa.con f12 ((x0.1,x0.2,x1):List Z4×List Z0×ByteArray)=Xa x0 x1:=by
 rw[Xa.v]
 simp only[Xa.e7]
 rfl
theorem Xa.ok :V.Valid prog 12 Xa.con:=
 V.fo (tab_cons Wa.ok (tab_cons Zv.ok (tab_cons Y8.ok (tab_cons Y6.ok (tab_cons W8.ok (tab_cons U2.ok (tab_cons ZP.ok tab_nil))))))) func12 (by kernel_rfl) (λx y h=>(show V.evBody Xa.E Xa.con f12 x=_ from Xa.eq (x.1,x.2.1) x.2.2).trans (V.cfl (by kernel_rfl) h))
abbrev Xh.con :V.Con:=⟨V.eRServerIntStr,V.eAnswer,λ(x:List Z7×Int×Int×ByteArray)=>Xh (x.1,x.2.1) x.2.2.1 x.2.2.2,[],[(true,2),(false,1),(false,1)],[(true,21)],[true,false,false,false,false,true,false,true,false,false,false,false,true,false,false,false,true,false,true,false,true],[]⟩
abbrev Xh.E :Env:=V.mkE V.tys [(12,Xa.con),(32,Ya.con)] [(9,[2,3,6,7],[])] [] [] [] []
abbrev Xh.kt (x0:Z8)(x1:Int)(x2:ByteArray):Kt Zk:=ktOf Xh.E Xh.con f8 ((x0.1,x0.2,x1,x2):List Z7×Int×Int×ByteArray)
abbrev Xh.s9 (x0:Z8)(x2:ByteArray)(y1:Int):St:=⟨[(2, .v false [.val (.str x2)]),(3, .v false [.ptr 64000 0]),(6, .v false [.ptr 64064 0]),(7, .v false [.vi (y1)])],[(64000, .box [.val (.sl (.cons (.sl V.eSigned) (.cons (.sl V.eEntry) .nil)) x0.1), .vi (x0.2)]),(64064, .box [.nil0, .val (.bool false), .val (.str (⟨#[]⟩:ByteArray)), .vi ((0:Int)), .vi ((0:Int)), .nil0, .vi ((0:Int)), .nil0, .vi ((0:Int)), .val (.str (⟨#[]⟩:ByteArray)), .vi ((0:Int)), .vi ((0:Int)), .nil0, .val (.str (⟨#[]⟩:ByteArray)), .vi ((0:Int)), .vi ((0:Int)), .nil0, .vi ((0:Int)), .nil0, .vi ((0:Int)), .nil0])]⟩
theorem Xh.r9 (x0:Z8)(x1:Int)(x2:ByteArray)(y1:Int):joinF Xh.E f8.ntmps [1,1] [] (codeOf f8) (Xh.kt x0 x1 x2) (Xh.s9 x0 x2 y1)=Xh.g9 x0 x2 y1:=by kernel_rfl
theorem Xh.e9 (x0:Z8)(x1:Int)(x2:ByteArray)(y1:Int):jn (joinF Xh.E f8.ntmps [1,1] [] (codeOf f8) (Xh.kt x0 x1 x2)) (Xh.s9 x0 x2 y1)=Xh.l9 x0 x2 y1:=by
 rw[jn_eq,Xh.r9]
 rfl
theorem Xh.v (x0:Z8)(x1:Int)(x2:ByteArray):V.evBody Xh.E Xh.con f8 ((x0.1,x0.2,x1,x2):List Z7×Int×Int×ByteArray)=Xh.b x0 x1 x2 (λy1=>jn (joinF Xh.E f8.ntmps [1,1] [] (codeOf f8) (Xh.kt x0 x1 x2)) (Xh.s9 x0 x2 y1)):=by kernel_rfl
theorem Xh.eq (x0:Z8)(x1:Int)(x2:ByteArray):V.evBody Xh.E Xh.con f8 ((x0.1,x0.2,x1,x2):List Z7×Int×Int×ByteArray)=Xh x0 x1 x2:=by
 rw[Xh.v]
 simp only[Xh.e9]
 rfl
theorem Xh.ok :V.Valid prog 8 Xh.con:=
 V.fo (tab_cons Xa.ok (tab_cons Ya.ok tab_nil)) func8 (by kernel_rfl) (λx y h=>(show V.evBody Xh.E Xh.con f8 x=_ from Xh.eq (x.1,x.2.1) x.2.2.1 x.2.2.2).trans (V.cfl (by kernel_rfl) h))
abbrev XK.con :V.Con:=⟨V.A3,(.cons .bool .nil),λ(x:V.D3)=>XK (V.p3_0 x) (V.p3_1 x),[],[(true,16),(true,16)],[(false,1)],[false],[]⟩
abbrev XK.E :Env:=V.mkE V.tys [(76,ZU.con),(149,W9.con),(150,Xo.con)] [] [(1,23)] [] [] []
abbrev XK.kt (x0:Z5)(x1:Z5):Kt Bool:=ktOf XK.E XK.con f115 (V.fl3 x0 x1)
abbrev XK.s (x0:Z5)(x1:Z5):St:=⟨[(0, .v true (V.lsHead x0)),(1, .v true (V.lsHead x1))],[]⟩
theorem XK.v0 (x0:Z5)(x1:Z5):V.evBody XK.E XK.con f115 (V.fl3 x0 x1)=evC XK.E f115.ntmps (codeOf f115) (XK.kt x0 x1) (XK.s x0 x1):=by kernel_rfl
theorem XK.v (x0:Z5)(x1:Z5):evC XK.E f115.ntmps (codeOf f115) (XK.kt x0 x1) (XK.s x0 x1)=XK x0 x1:=by kernel_rfl
theorem XK.eq (x0:Z5)(x1:Z5):V.evBody XK.E XK.con f115 (V.fl3 x0 x1)=XK x0 x1:=(XK.v0 x0 x1).trans (XK.v x0 x1)
theorem XK.ok :V.Valid prog 115 XK.con:=
 V.fo (tab_cons ZU.ok (tab_cons W9.ok (tab_cons Xo.ok tab_nil))) func115 (by kernel_rfl) (λx y h=>(show V.evBody XK.E XK.con f115 x=_ from XK.eq (V.p3_0 x) (V.p3_1 x)).trans (V.cfl (by kernel_rfl) h))
abbrev Y9.con :V.Con:=⟨(.cons (.sl (ci (ci .nil))) (.cons (.sl (ci (ci .nil))) .nil)),(.cons .bool .nil),λ(x:List Z9×List Z9)=>Y9 x.1 x.2,[],[(false,1),(false,1)],[(false,1)],[false],[]⟩
abbrev Y9.E :Env:=V.mkE V.tys [] [(8,[0,1,12,13],[])] [(6,8)] [] [] []
abbrev Y9.kt (x0:List Z9)(x1:List Z9):Kt Bool:=ktOf Y9.E Y9.con f116 ((x0,x1):List Z9×List Z9)
abbrev Y9.s8 (x0:List Z9)(x1:List Z9)(aG:Int)(aK:Int):St:=⟨[(0, .v false [.val (.sl (ci (ci .nil)) x0)]),(1, .v false [.val (.sl (ci (ci .nil)) x1)]),(12, .v false [.vi (aG)]),(13, .v false [.vi (aK)])],[]⟩
theorem Y9.r8 (x0:List Z9)(x1:List Z9)(R:St->Option Bool)(aG:Int)(aK:Int):loopF Y9.E f116.ntmps [1,1,0,1,0] [] (codeOf f116) (Y9.kt x0 x1) R (Y9.s8 x0 x1 aG aK)=Y9.g8 x0 x1 (λaG aK=>R (Y9.s8 x0 x1 aG aK)) aG aK:=by kernel_rfl
theorem Y9.e8 (x0:List Z9)(x1:List Z9):∀(n:Nat) (aG:Int) (aK:Int),loopN (loopF Y9.E f116.ntmps [1,1,0,1,0] [] (codeOf f116) (Y9.kt x0 x1)) n (Y9.s8 x0 x1 aG aK)=Y9.l8 x0 x1 n aG aK:=by
 intro n
 induction n with
 |zero=>intros;rw[loopN_z];rfl
 |succ n ih=>
  intro aG aK
  rw[loopN_s,Y9.r8]
  simp only[ih]
  first|exact(Y9.u8 ..).symm|rfl
theorem Y9.v (x0:List Z9)(x1:List Z9):V.evBody Y9.E Y9.con f116 ((x0,x1):List Z9×List Z9)=Y9.b x0 x1 (λaG aK=>loopN (loopF Y9.E f116.ntmps [1,1,0,1,0] [] (codeOf f116) (Y9.kt x0 x1)) V.KK (Y9.s8 x0 x1 aG aK)):=by kernel_rfl
theorem Y9.eq (x0:List Z9)(x1:List Z9):V.evBody Y9.E Y9.con f116 ((x0,x1):List Z9×List Z9)=Y9 x0 x1:=by
 rw[Y9.v]
 simp only[Y9.e8]
 rfl
theorem Y9.ok :V.Valid prog 116 Y9.con:=
 V.fo tab_nil func116 (by kernel_rfl) (λx y h=>(show V.evBody Y9.E Y9.con f116 x=_ from Y9.eq x.1 x.2).trans (V.cfl (by kernel_rfl) h))
abbrev XL.con :V.Con:=⟨V.A12,(.cons .bool .nil),λ(x:V.D12)=>XL (V.p12_0 x) (V.p12_1 x),[],[(true,17),(true,17)],[(false,1)],[false],[]⟩
abbrev XL.E :Env:=V.mkE V.tys [(115,XK.con),(116,Y9.con)] [] [] [] [] []
abbrev XL.kt (x0:Z4)(x1:Z4):Kt Bool:=ktOf XL.E XL.con f74 (V.fl12 x0 x1)
abbrev XL.s (x0:Z4)(x1:Z4):St:=⟨[(0, .v true (V.lsSigned x0)),(1, .v true (V.lsSigned x1))],[]⟩
theorem XL.v0 (x0:Z4)(x1:Z4):V.evBody XL.E XL.con f74 (V.fl12 x0 x1)=evC XL.E f74.ntmps (codeOf f74) (XL.kt x0 x1) (XL.s x0 x1):=by kernel_rfl
theorem XL.v (x0:Z4)(x1:Z4):evC XL.E f74.ntmps (codeOf f74) (XL.kt x0 x1) (XL.s x0 x1)=XL x0 x1:=by kernel_rfl
theorem XL.eq (x0:Z4)(x1:Z4):V.evBody XL.E XL.con f74 (V.fl12 x0 x1)=XL x0 x1:=(XL.v0 x0 x1).trans (XL.v x0 x1)
theorem XL.ok :V.Valid prog 74 XL.con:=
 V.fo (tab_cons XK.ok (tab_cons Y9.ok tab_nil)) func74 (by kernel_rfl) (λx y h=>(show V.evBody XL.E XL.con f74 x=_ from XL.eq (V.p12_0 x) (V.p12_1 x)).trans (V.cfl (by kernel_rfl) h))
abbrev YT.con :V.Con:=⟨(.cons (.sl V.eSigned) (.cons (.sl V.eSigned) (.cons (.fn 74 false .nil .nil) .nil))),(.cons .bool .nil),λ(x:List Z4×List Z4×(Unit)×(Unit))=>YT x.1 x.2.1 x.2.2,[],[(false,1),(false,1),(false,1)],[(false,1)],[false],[]⟩
abbrev YT.E :Env:=V.mkE V.tys [(74,XL.con)] [(8,[1,2,15,16,17],[])] [] [] [] []
abbrev YT.kt (x0:List Z4)(x1:List Z4)(x2:(Unit)×(Unit)):Kt Bool:=ktOf YT.E YT.con f73 ((x0,x1,x2):List Z4×List Z4×(Unit)×(Unit))
abbrev YT.s8 (x0:List Z4)(x1:List Z4)(aG:Int)(aK:Int):St:=⟨[(1, .v false [.val (.sl V.eSigned x1)]),(2, .v false [.val (.fn 74 false .nil .nil () ())]),(15, .v false [.val (.sl V.eSigned x0)]),(16, .v false [.vi (aG)]),(17, .v false [.vi (aK)])],[]⟩
theorem YT.r8 (x0:List Z4)(x1:List Z4)(x2:(Unit)×(Unit))(R:St->Option Bool)(aG:Int)(aK:Int):loopF YT.E f73.ntmps [1,1,0,1,0] [] (codeOf f73) (YT.kt x0 x1 x2) R (YT.s8 x0 x1 aG aK)=YT.g8 x0 x1 (λaG aK=>R (YT.s8 x0 x1 aG aK)) aG aK:=by kernel_rfl
theorem YT.e8 (x0:List Z4)(x1:List Z4)(x2:(Unit)×(Unit)):∀(n:Nat) (aG:Int) (aK:Int),loopN (loopF YT.E f73.ntmps [1,1,0,1,0] [] (codeOf f73) (YT.kt x0 x1 x2)) n (YT.s8 x0 x1 aG aK)=YT.l8 x0 x1 n aG aK:=by
 intro n
 induction n with
 |zero=>intros;rw[loopN_z];rfl
 |succ n ih=>
  intro aG aK
  rw[loopN_s,YT.r8]
  simp only[ih]
  first|exact(YT.u8 ..).symm|rfl
theorem YT.v (x0:List Z4)(x1:List Z4)(x2:(Unit)×(Unit)):V.evBody YT.E YT.con f73 ((x0,x1,x2):List Z4×List Z4×(Unit)×(Unit))=YT.b x0 x1 x2 (λaG aK=>loopN (loopF YT.E f73.ntmps [1,1,0,1,0] [] (codeOf f73) (YT.kt x0 x1 x2)) V.KK (YT.s8 x0 x1 aG aK)):=by kernel_rfl
theorem YT.eq (x0:List Z4)(x1:List Z4)(x2:(Unit)×(Unit)):V.evBody YT.E YT.con f73 ((x0,x1,x2):List Z4×List Z4×(Unit)×(Unit))=YT x0 x1 x2:=by
 rw[YT.v]
 simp only[YT.e8]
 rfl
theorem YT.ok :V.Valid prog 73 YT.con:=
 V.fo (tab_cons XL.ok tab_nil) func73 (by kernel_rfl) (λx y h=>(show V.evBody YT.E YT.con f73 x=_ from YT.eq x.1 x.2.1 x.2.2).trans (V.cfl (by kernel_rfl) h))
abbrev Uh.con :V.Con:=⟨(.cons (.sl V.eSigned) (.cons (.sl V.eSigned) .nil)),(.cons .bool .nil),λ(x:List Z4×List Z4)=>Uh x.1 x.2,[],[(false,1),(false,1)],[(false,1)],[false],[]⟩
abbrev Uh.E :Env:=V.mkE V.tys [(73,YT.con)] [] [] [] [] []
theorem Uh.eq (x0:List Z4)(x1:List Z4):V.evBody Uh.E Uh.con f28 ((x0,x1):List Z4×List Z4)=Uh x0 x1:=by kernel_rfl
theorem Uh.ok :V.Valid prog 28 Uh.con:=
 V.fo (tab_cons YT.ok tab_nil) func28 (by kernel_rfl) (λx y h=>(show V.evBody Uh.E Uh.con f28 x=_ from Uh.eq x.1 x.2).trans (V.cfl (by kernel_rfl) h))
abbrev YV.con :V.Con:=⟨(.cons (.sl (.cons .str .nil)) (.cons (.sl (.cons .str .nil)) .nil)),(.cons .bool .nil),λ(x:List ByteArray×List ByteArray)=>YV x.1 x.2,[],[(false,1),(false,1)],[(false,1)],[false],[]⟩
abbrev YV.E :Env:=V.mkE V.tys [] [(8,[0,1,12,13],[])] [(6,8)] [] [] []
abbrev YV.kt (x0:List ByteArray)(x1:List ByteArray):Kt Bool:=ktOf YV.E YV.con f75 ((x0,x1):List ByteArray×List ByteArray)
abbrev YV.s8 (x0:List ByteArray)(x1:List ByteArray)(aG:Int)(aK:Int):St:=⟨[(0, .v false [.val (.sl (.cons .str .nil) x0)]),(1, .v false [.val (.sl (.cons .str .nil) x1)]),(12, .v false [.vi (aG)]),(13, .v false [.vi (aK)])],[]⟩
theorem YV.r8 (x0:List ByteArray)(x1:List ByteArray)(R:St->Option Bool)(aG:Int)(aK:Int):loopF YV.E f75.ntmps [1,1,0,1,0] [] (codeOf f75) (YV.kt x0 x1) R (YV.s8 x0 x1 aG aK)=YV.g8 x0 x1 (λaG aK=>R (YV.s8 x0 x1 aG aK)) aG aK:=by kernel_rfl
theorem YV.e8 (x0:List ByteArray)(x1:List ByteArray):∀(n:Nat) (aG:Int) (aK:Int),loopN (loopF YV.E f75.ntmps [1,1,0,1,0] [] (codeOf f75) (YV.kt x0 x1)) n (YV.s8 x0 x1 aG aK)=YV.l8 x0 x1 n aG aK:=by
 intro n
 induction n with
 |zero=>intros;rw[loopN_z];rfl
 |succ n ih=>
  intro aG aK
  rw[loopN_s,YV.r8]
  simp only[ih]
  first|exact(YV.u8 ..).symm|rfl
theorem YV.v (x0:List ByteArray)(x1:List ByteArray):V.evBody YV.E YV.con f75 ((x0,x1):List ByteArray×List ByteArray)=YV.b x0 x1 (λaG aK=>loopN (loopF YV.E f75.ntmps [1,1,0,1,0] [] (codeOf f75) (YV.kt x0 x1)) V.KK (YV.s8 x0 x1 aG aK)):=by kernel_rfl
theorem YV.eq (x0:List ByteArray)(x1:List ByteArray):V.evBody YV.E YV.con f75 ((x0,x1):List ByteArray×List ByteArray)=YV x0 x1:=by
 rw[YV.v]
 simp only[YV.e8]
 rfl
theorem YV.ok :V.Valid prog 75 YV.con:=
 V.fo tab_nil func75 (by kernel_rfl) (λx y h=>(show V.evBody YV.E YV.con f75 x=_ from YV.eq x.1 x.2).trans (V.cfl (by kernel_rfl) h))
abbrev Wd.con :V.Con:=⟨(.cons .str (ci (ci (.cons (.sl (.cons .str .nil)) (.cons .str (ci (ci (.cons (.sl (.cons .str .nil)) .nil)))))))),(.cons .bool .nil),λ(x:ByteArray×Int×Int×List ByteArray×ByteArray×Int×Int×List ByteArray)=>Wd (x.1,x.2.1,x.2.2.1,x.2.2.2.1) x.2.2.2.2,[],[(true,4),(true,4)],[(false,1)],[false],[]⟩
abbrev Wd.E :Env:=V.mkE V.tys [(75,YV.con)] [] [] [] [] []
theorem Wd.eq (x0:Z0)(x1:Z0):V.evBody Wd.E Wd.con f29 ((x0.1,x0.2.1,x0.2.2.1,x0.2.2.2,x1.1,x1.2.1,x1.2.2.1,x1.2.2.2):ByteArray×Int×Int×List ByteArray×ByteArray×Int×Int×List ByteArray)=Wd x0 x1:=by kernel_rfl
theorem Wd.ok :V.Valid prog 29 Wd.con:=
 V.fo (tab_cons YV.ok tab_nil) func29 (by kernel_rfl) (λx y h=>(show V.evBody Wd.E Wd.con f29 x=_ from Wd.eq (x.1,x.2.1,x.2.2.1,x.2.2.2.1) x.2.2.2.2).trans (V.cfl (by kernel_rfl) h))
abbrev WB.con :V.Con:=⟨(ci (.cons (.sl (ci .nil)) (ci (.cons (.sl (ci .nil)) .nil)))),(.cons .bool .nil),λ(x:Int×List Int×Int×List Int)=>WB (x.1,x.2.1) x.2.2,[],[(true,2),(true,2)],[(false,1)],[false],[]⟩
abbrev WB.E :Env:=V.mkE V.tys [(76,ZU.con)] [] [] [] [] []
theorem WB.eq (x0:Xw)(x1:Xw):V.evBody WB.E WB.con f30 ((x0.1,x0.2,x1.1,x1.2):Int×List Int×Int×List Int)=WB x0 x1:=by kernel_rfl
theorem WB.ok :V.Valid prog 30 WB.con:=
 V.fo (tab_cons ZU.ok tab_nil) func30 (by kernel_rfl) (λx y h=>(show V.evBody WB.E WB.con f30 x=_ from WB.eq (x.1,x.2.1) x.2.2).trans (V.cfl (by kernel_rfl) h))
abbrev XB.con :V.Con:=⟨V.A13,(.cons .bool .nil),λ(x:V.D13)=>XB (V.p13_0 x) (V.p13_1 x),[],[(true,13),(true,13)],[(false,1)],[false],[]⟩
abbrev XB.E :Env:=V.mkE V.tys [(29,Wd.con),(30,WB.con)] [] [] [] [] []
abbrev XB.kt (x0:Y5)(x1:Y5):Kt Bool:=ktOf XB.E XB.con f31 (V.fl13 x0 x1)
abbrev XB.s (x0:Y5)(x1:Y5):St:=⟨[(0, .v true (V.lsGap x0)),(1, .v true (V.lsGap x1))],[]⟩
theorem XB.v0 (x0:Y5)(x1:Y5):V.evBody XB.E XB.con f31 (V.fl13 x0 x1)=evC XB.E f31.ntmps (codeOf f31) (XB.kt x0 x1) (XB.s x0 x1):=by kernel_rfl
theorem XB.v (x0:Y5)(x1:Y5):evC XB.E f31.ntmps (codeOf f31) (XB.kt x0 x1) (XB.s x0 x1)=XB x0 x1:=by kernel_rfl
theorem XB.eq (x0:Y5)(x1:Y5):V.evBody XB.E XB.con f31 (V.fl13 x0 x1)=XB x0 x1:=(XB.v0 x0 x1).trans (XB.v x0 x1)
theorem XB.ok :V.Valid prog 31 XB.con:=
 V.fo (tab_cons Wd.ok (tab_cons WB.ok tab_nil)) func31 (by kernel_rfl) (λx y h=>(show V.evBody XB.E XB.con f31 x=_ from XB.eq (V.p13_0 x) (V.p13_1 x)).trans (V.cfl (by kernel_rfl) h))
abbrev XH.con :V.Con:=⟨V.A14,(.cons .bool .nil),λ(x:V.D14)=>XH (V.p14_0 x) (V.p14_1 x),[],[(true,21),(true,21)],[(false,1)],[false],[]⟩
abbrev XH.E :Env:=V.mkE V.tys [(28,Uh.con),(29,Wd.con),(30,WB.con),(31,XB.con)] [] [] [] [] []
abbrev XH.kt (x0:Zk)(x1:Zk):Kt Bool:=ktOf XH.E XH.con f7 (V.fl14 x0 x1)
abbrev XH.s (x0:Zk)(x1:Zk):St:=⟨[(0, .v true (V.lsAnswer x0)),(1, .v true (V.lsAnswer x1))],[]⟩
theorem XH.v0 (x0:Zk)(x1:Zk):V.evBody XH.E XH.con f7 (V.fl14 x0 x1)=evC XH.E f7.ntmps (codeOf f7) (XH.kt x0 x1) (XH.s x0 x1):=by kernel_rfl
theorem XH.v (x0:Zk)(x1:Zk):evC XH.E f7.ntmps (codeOf f7) (XH.kt x0 x1) (XH.s x0 x1)=XH x0 x1:=by kernel_rfl
theorem XH.eq (x0:Zk)(x1:Zk):V.evBody XH.E XH.con f7 (V.fl14 x0 x1)=XH x0 x1:=(XH.v0 x0 x1).trans (XH.v x0 x1)
theorem XH.ok :V.Valid prog 7 XH.con:=
 V.fo (tab_cons Uh.ok (tab_cons Wd.ok (tab_cons WB.ok (tab_cons XB.ok tab_nil)))) func7 (by kernel_rfl) (λx y h=>(show V.evBody XH.E XH.con f7 x=_ from XH.eq (V.p14_0 x) (V.p14_1 x)).trans (V.cfl (by kernel_rfl) h))
abbrev Qr.con :V.Con:=⟨(.cons (.sl V.eSigned) (.cons (.sl V.eEntry) .nil)),(.cons .bool .nil),λ(x:List Z4×List Z0)=>Qr x,[],[(true,2)],[(false,1)],[false],[]⟩
abbrev Qr.E :Env:=V.mkE V.tys [(35,Wm.con)] [] [] [] [] []
theorem Qr.eq (x0:Z7):V.evBody Qr.E Qr.con f34 ((x0.1,x0.2):List Z4×List Z0)=Qr x0:=by kernel_rfl
theorem Qr.ok :V.Valid prog 34 Qr.con:=
 V.fo (tab_cons Wm.ok tab_nil) func34 (by kernel_rfl) (λx y h=>(show V.evBody Qr.E Qr.con f34 x=_ from Qr.eq x).trans (V.cfl (by kernel_rfl) h))
abbrev X2.con :V.Con:=⟨(.cons (.sl (.cons (.sl V.eSigned) (.cons (.sl V.eEntry) .nil))) (.cons (.fn 34 false .nil .nil) .nil)),(ci .nil),λ(x:List Z7×(Unit)×(Unit))=>X2 x.1 x.2,[],[(false,1),(false,1)],[(false,1)],[false],[]⟩
abbrev X2.E :Env:=V.mkE V.tys [(34,Qr.con)] [(4,[0,1,7,8],[])] [] [] [] []
abbrev X2.kt (x0:List Z7)(x1:(Unit)×(Unit)):Kt Int:=ktOf X2.E X2.con f39 ((x0,x1):List Z7×(Unit)×(Unit))
abbrev X2.s4 (x0:List Z7)(aI:Int)(aF:Int):St:=⟨[(0, .v false [.val (.sl (.cons (.sl V.eSigned) (.cons (.sl V.eEntry) .nil)) x0)]),(1, .v false [.val (.fn 34 false .nil .nil () ())]),(7, .v false [.vi (aI)]),(8, .v false [.vi (aF)])],[]⟩
theorem X2.r4 (x0:List Z7)(x1:(Unit)×(Unit))(R:St->Option Int)(aI:Int)(aF:Int):loopF X2.E f39.ntmps [1,0,1,0] [] (codeOf f39) (X2.kt x0 x1) R (X2.s4 x0 aI aF)=X2.g4 x0 (λaI aF=>R (X2.s4 x0 aI aF)) aI aF:=by kernel_rfl
theorem X2.e4 (x0:List Z7)(x1:(Unit)×(Unit)):∀(n:Nat) (aI:Int) (aF:Int),loopN (loopF X2.E f39.ntmps [1,0,1,0] [] (codeOf f39) (X2.kt x0 x1)) n (X2.s4 x0 aI aF)=X2.l4 x0 n aI aF:=by
 intro n
 induction n with
 |zero=>intros;rw[loopN_z];rfl
 |succ n ih=>
  intro aI aF
  rw[loopN_s,X2.r4]
  simp only[ih]
  first|exact(X2.u4 ..).symm|rfl
theorem X2.v (x0:List Z7)(x1:(Unit)×(Unit)):V.evBody X2.E X2.con f39 ((x0,x1):List Z7×(Unit)×(Unit))=X2.b x0 x1 (λaI aF=>loopN (loopF X2.E f39.ntmps [1,0,1,0] [] (codeOf f39) (X2.kt x0 x1)) V.KK (X2.s4 x0 aI aF)):=by kernel_rfl
theorem X2.eq (x0:List Z7)(x1:(Unit)×(Unit)):V.evBody X2.E X2.con f39 ((x0,x1):List Z7×(Unit)×(Unit))=X2 x0 x1:=by
 rw[X2.v]
 simp only[X2.e4]
 rfl
theorem X2.ok :V.Valid prog 39 X2.con:=
 V.fo (tab_cons Qr.ok tab_nil) func39 (by kernel_rfl) (λx y h=>(show V.evBody X2.E X2.con f39 x=_ from X2.eq x.1 x.2).trans (V.cfl (by kernel_rfl) h))
abbrev Q7.con :V.Con:=⟨(.cons (.sl (.cons (.sl V.eSigned) (.cons (.sl V.eEntry) .nil))) (.cons (.fn 34 false .nil .nil) .nil)),(.cons .bool .nil),λ(x:List Z7×(Unit)×(Unit))=>Q7 x.1 x.2,[],[(false,1),(false,1)],[(false,1)],[false],[]⟩
abbrev Q7.E :Env:=V.mkE V.tys [(39,X2.con)] [] [] [] [] []
theorem Q7.eq (x0:List Z7)(x1:(Unit)×(Unit)):V.evBody Q7.E Q7.con f33 ((x0,x1):List Z7×(Unit)×(Unit))=Q7 x0 x1:=by kernel_rfl
theorem Q7.ok :V.Valid prog 33 Q7.con:=
 V.fo (tab_cons X2.ok tab_nil) func33 (by kernel_rfl) (λx y h=>(show V.evBody Q7.E Q7.con f33 x=_ from Q7.eq x.1 x.2).trans (V.cfl (by kernel_rfl) h))
abbrev Ue.con :V.Con:=⟨(.cons (.sl (.cons (.sl V.eSigned) (.cons (.sl V.eEntry) .nil))) (ci .nil)),(.cons .bool .nil),λ(x:List Z7×Int)=>Ue x,[],[(true,2)],[(false,1)],[false],[]⟩
abbrev Ue.E :Env:=V.mkE V.tys [(33,Q7.con),(36,ZW.con)] [] [] [] [] []
theorem Ue.eq (x0:Z8):V.evBody Ue.E Ue.con f9 ((x0.1,x0.2):List Z7×Int)=Ue x0:=by kernel_rfl
theorem Ue.ok :V.Valid prog 9 Ue.con:=
 V.fo (tab_cons Q7.ok (tab_cons ZW.ok tab_nil)) func9 (by kernel_rfl) (λx y h=>(show V.evBody Ue.E Ue.con f9 x=_ from Ue.eq x).trans (V.cfl (by kernel_rfl) h))
abbrev UX.con :V.Con:=⟨(.cons (.sl V.eSigned) .nil),V.eRHeadBool,λ(x:List Z4)=>UX x,[],[(false,1)],[(true,16),(false,1)],[false,false,false,false,false,false,false,false,true,false,true,false,false,true,false,false,false],[]⟩
abbrev UX.E :Env:=V.mkE V.tys [(77,Uc.con),(78,WJ.con),(89,XC.con)] [] [] [] [] []
theorem UX.eq (x0:List Z4):V.evBody UX.E UX.con f50 ((x0):List Z4)=UX x0:=by kernel_rfl
theorem UX.ok :V.Valid prog 50 UX.con:=
 V.fo (tab_cons Uc.ok (tab_cons WJ.ok (tab_cons XC.ok tab_nil))) func50 (by kernel_rfl) (λx y h=>(show V.evBody UX.E UX.con f50 x=_ from UX.eq x).trans (V.cfl (by kernel_rfl) h))
abbrev W4.con :V.Con:=⟨V.A15,(.cons .bool .nil),λ(x:V.D15)=>W4 (V.p15_0 x) (V.p15_1 x),[],[(true,16),(false,1)],[(false,1)],[false],[]⟩
abbrev W4.E :Env:=V.mkE V.tys [(36,ZW.con)] [] [] [] [] []
abbrev W4.kt (x0:Z5)(x1:Int):Kt Bool:=ktOf W4.E W4.con f51 (V.fl15 x0 x1)
abbrev W4.s (x0:Z5)(x1:Int):St:=⟨[(0, .v true (V.lsHead x0)),(1, .v false [.vi (x1)])],[]⟩
theorem W4.v0 (x0:Z5)(x1:Int):V.evBody W4.E W4.con f51 (V.fl15 x0 x1)=evC W4.E f51.ntmps (codeOf f51) (W4.kt x0 x1) (W4.s x0 x1):=by kernel_rfl
theorem W4.v (x0:Z5)(x1:Int):evC W4.E f51.ntmps (codeOf f51) (W4.kt x0 x1) (W4.s x0 x1)=W4 x0 x1:=by kernel_rfl
theorem W4.eq (x0:Z5)(x1:Int):V.evBody W4.E W4.con f51 (V.fl15 x0 x1)=W4 x0 x1:=(W4.v0 x0 x1).trans (W4.v x0 x1)
theorem W4.ok :V.Valid prog 51 W4.con:=
 V.fo (tab_cons ZW.ok tab_nil) func51 (by kernel_rfl) (λx y h=>(show V.evBody W4.E W4.con f51 x=_ from W4.eq (V.p15_0 x) (V.p15_1 x)).trans (V.cfl (by kernel_rfl) h))
abbrev Zp.con :V.Con:=⟨(ci (ci (ci (.cons (.sl (ci .nil)) .nil)))),(ci (.cons .bool .nil)),λ(x:Int×Int×Int×List Int)=>Zp x.1 x.2.1 x.2.2.1 x.2.2.2,[],[(false,1),(false,1),(false,1),(false,1)],[(false,1),(false,1)],[false,false],[]⟩
abbrev Zp.E :Env:=V.mkE V.tys [(36,ZW.con),(166,WY.con)] [(6,[0,1,2,3],[]),(7,[0,1,2,3],[]),(9,[0,1,2,3],[])] [] [] [] []
abbrev Zp.kt (x0:Int)(x1:Int)(x2:Int)(x3:List Int):Kt (Int×Bool):=ktOf Zp.E Zp.con f127 ((x0,x1,x2,x3):Int×Int×Int×List Int)
abbrev Zp.s9 (aE:Int)(aA:Int)(b7:Int)(bP:List Int):St:=⟨[(0, .v false [.vi (b7)]),(1, .v false [.vi (aE)]),(2, .v false [.vi (aA)]),(3, .v false [.val (.sl (ci .nil) bP)])],[]⟩
abbrev Zp.s6 (aH:Int)(aE:Int)(aA:Int)(aD:List Int):St:=⟨[(0, .v false [.vi (aH)]),(1, .v false [.vi (aE)]),(2, .v false [.vi (aA)]),(3, .v false [.val (.sl (ci .nil) aD)])],[]⟩
abbrev Zp.s7 (x0:Int)(x1:Int)(x2:Int)(x3:List Int):St:=⟨[(0, .v false [.vi (x0)]),(1, .v false [.vi (x1)]),(2, .v false [.vi (x2)]),(3, .v false [.val (.sl (ci .nil) x3)])],[]⟩
theorem Zp.r9 (x0:Int)(x1:Int)(x2:Int)(x3:List Int)(aE:Int)(aA:Int)(R6:St->Option (Int×Bool))(b7:Int)(bP:List Int):joinF Zp.E f127.ntmps [1,1,0,0,0,1] [R6] (codeOf f127) (Zp.kt x0 x1 x2 x3) (Zp.s9 aE aA b7 bP)=Zp.g9 aE aA (λaH aE aA aD=>R6 (Zp.s6 aH aE aA aD)) b7 bP:=by kernel_rfl
theorem Zp.e9 (x0:Int)(x1:Int)(x2:Int)(x3:List Int)(aE:Int)(aA:Int)(R6:St->Option (Int×Bool))(b7:Int)(bP:List Int):jn (joinF Zp.E f127.ntmps [1,1,0,0,0,1] [R6] (codeOf f127) (Zp.kt x0 x1 x2 x3)) (Zp.s9 aE aA b7 bP)=Zp.l9 aE aA (λaH aE aA aD=>R6 (Zp.s6 aH aE aA aD)) b7 bP:=by
 rw[jn_eq,Zp.r9]
 rfl
theorem Zp.r6 (x0:Int)(x1:Int)(x2:Int)(x3:List Int)(R:St->Option (Int×Bool))(aH:Int)(aE:Int)(aA:Int)(aD:List Int):loopF Zp.E f127.ntmps [1,1,0,0] [] (codeOf f127) (Zp.kt x0 x1 x2 x3) R (Zp.s6 aH aE aA aD)=Zp.g6 (λaH aE aA aD=>R (Zp.s6 aH aE aA aD)) (λb7 bP=>jn (joinF Zp.E f127.ntmps [1,1,0,0,0,1] [R] (codeOf f127) (Zp.kt x0 x1 x2 x3)) (Zp.s9 aE aA b7 bP)) aH aE aA aD:=by kernel_rfl
theorem Zp.e6 (x0:Int)(x1:Int)(x2:Int)(x3:List Int):∀(n:Nat) (aH:Int) (aE:Int) (aA:Int) (aD:List Int),loopN (loopF Zp.E f127.ntmps [1,1,0,0] [] (codeOf f127) (Zp.kt x0 x1 x2 x3)) n (Zp.s6 aH aE aA aD)=Zp.l6 n aH aE aA aD:=by
 intro n
 induction n with
 |zero=>intros;rw[loopN_z];rfl
 |succ n ih=>
  intro aH aE aA aD
  rw[loopN_s,Zp.r6]
  simp only[Zp.e9,ih]
  first|exact(Zp.u6 ..).symm|rfl
theorem Zp.r7 (x0:Int)(x1:Int)(x2:Int)(x3:List Int):joinF Zp.E f127.ntmps [1] [] (codeOf f127) (Zp.kt x0 x1 x2 x3) (Zp.s7 x0 x1 x2 x3)=Zp.g7 x0 x1 x2 x3 (λaH aE aA aD=>loopN (loopF Zp.E f127.ntmps [1,1,0,0] [] (codeOf f127) (Zp.kt x0 x1 x2 x3)) V.KK (Zp.s6 aH aE aA aD)):=by kernel_rfl
theorem Zp.e7 (x0:Int)(x1:Int)(x2:Int)(x3:List Int):jn (joinF Zp.E f127.ntmps [1] [] (codeOf f127) (Zp.kt x0 x1 x2 x3)) (Zp.s7 x0 x1 x2 x3)=Zp.l7 x0 x1 x2 x3:=by
 rw[jn_eq,Zp.r7]
 simp only[Zp.e6]
 rfl
theorem Zp.v (x0:Int)(x1:Int)(x2:Int)(x3:List Int):V.evBody Zp.E Zp.con f127 ((x0,x1,x2,x3):Int×Int×Int×List Int)=Zp.b x0 x1 x2 x3 (jn (joinF Zp.E f127.ntmps [1] [] (codeOf f127) (Zp.kt x0 x1 x2 x3)) (Zp.s7 x0 x1 x2 x3)):=by kernel_rfl
theorem Zp.eq (x0:Int)(x1:Int)(x2:Int)(x3:List Int):V.evBody Zp.E Zp.con f127 ((x0,x1,x2,x3):Int×Int×Int×List Int)=Zp x0 x1 x2 x3:=by
 rw[Zp.v]
 simp only[Zp.e7]
 rfl
theorem Zp.ok :V.Valid prog 127 Zp.con:=
 V.fo (tab_cons ZW.ok (tab_cons WY.ok tab_nil)) func127 (by kernel_rfl) (λx y h=>(show V.evBody Zp.E Zp.con f127 x=_ from Zp.eq x.1 x.2.1 x.2.2.1 x.2.2.2).trans (V.cfl (by kernel_rfl) h))
abbrev Ub.con :V.Con:=⟨(ci (ci (.cons .str (ci (ci (.cons (.sl (.cons .str .nil)) (ci (.cons (.sl (ci .nil)) .nil)))))))),(.cons .bool .nil),λ(x:Int×Int×ByteArray×Int×Int×List ByteArray×Int×List Int)=>Ub x.1 x.2.1 (x.2.2.1,x.2.2.2.1,x.2.2.2.2.1,x.2.2.2.2.2.1) x.2.2.2.2.2.2,[],[(false,1),(false,1),(true,4),(true,2)],[(false,1)],[false],[]⟩
abbrev Ub.E :Env:=V.mkE V.tys [(127,Zp.con),(128,WX.con),(129,Ud.con),(130,Uv.con)] [] [(1,11)] [] [] []
theorem Ub.eq (x0:Int)(x1:Int)(x2:Z0)(x3:Xw):V.evBody Ub.E Ub.con f90 ((x0,x1,x2.1,x2.2.1,x2.2.2.1,x2.2.2.2,x3.1,x3.2):Int×Int×ByteArray×Int×Int×List ByteArray×Int×List Int)=Ub x0 x1 x2 x3:=by kernel_rfl
theorem Ub.ok :V.Valid prog 90 Ub.con:=
 V.fo (tab_cons Zp.ok (tab_cons WX.ok (tab_cons Ud.ok (tab_cons Uv.ok tab_nil)))) func90 (by kernel_rfl) (λx y h=>(show V.evBody Ub.E Ub.con f90 x=_ from Ub.eq x.1 x.2.1 (x.2.2.1,x.2.2.2.1,x.2.2.2.2.1,x.2.2.2.2.2.1) x.2.2.2.2.2.2).trans (V.cfl (by kernel_rfl) h))
abbrev Ut.con :V.Con:=⟨V.eEntry,(.cons .bool .nil),λ(x:ByteArray×Int×Int×List ByteArray)=>Ut x,[],[(true,4)],[(false,1)],[false],[]⟩
abbrev Ut.E :Env:=V.mkE V.tys [(29,Wd.con)] [] [] [] [] []
theorem Ut.eq (x0:Z0):V.evBody Ut.E Ut.con f92 ((x0.1,x0.2.1,x0.2.2.1,x0.2.2.2):ByteArray×Int×Int×List ByteArray)=Ut x0:=by kernel_rfl
theorem Ut.ok :V.Valid prog 92 Ut.con:=
 V.fo (tab_cons Wd.ok tab_nil) func92 (by kernel_rfl) (λx y h=>(show V.evBody Ut.E Ut.con f92 x=_ from Ut.eq x).trans (V.cfl (by kernel_rfl) h))
abbrev Uu.con :V.Con:=⟨(ci (.cons (.sl (ci .nil)) .nil)),(.cons .bool .nil),λ(x:Int×List Int)=>Uu x,[],[(true,2)],[(false,1)],[false],[]⟩
abbrev Uu.E :Env:=V.mkE V.tys [(30,WB.con)] [] [] [] [] []
theorem Uu.eq (x0:Xw):V.evBody Uu.E Uu.con f93 ((x0.1,x0.2):Int×List Int)=Uu x0:=by kernel_rfl
theorem Uu.ok :V.Valid prog 93 Uu.con:=
 V.fo (tab_cons WB.ok tab_nil) func93 (by kernel_rfl) (λx y h=>(show V.evBody Uu.E Uu.con f93 x=_ from Uu.eq x).trans (V.cfl (by kernel_rfl) h))
abbrev UF.con :V.Con:=⟨(ci (ci (.cons .str (ci (ci (.cons (.sl (.cons .str .nil)) (ci (.cons (.sl (ci .nil)) (ci .nil))))))))),(.cons .bool .nil),λ(x:Int×Int×ByteArray×Int×Int×List ByteArray×Int×List Int×Int)=>UF x.1 x.2.1 (x.2.2.1,x.2.2.2.1,x.2.2.2.2.1,x.2.2.2.2.2.1) (x.2.2.2.2.2.2.1,x.2.2.2.2.2.2.2.1) x.2.2.2.2.2.2.2.2,[],[(false,1),(false,1),(true,4),(true,2),(false,1)],[(false,1)],[false],[]⟩
abbrev UF.E :Env:=V.mkE V.tys [(36,ZW.con),(90,Ub.con),(92,Ut.con),(93,Uu.con)] [] [] [] [] []
theorem UF.eq (x0:Int)(x1:Int)(x2:Z0)(x3:Xw)(x4:Int):V.evBody UF.E UF.con f131 ((x0,x1,x2.1,x2.2.1,x2.2.2.1,x2.2.2.2,x3.1,x3.2,x4):Int×Int×ByteArray×Int×Int×List ByteArray×Int×List Int×Int)=UF x0 x1 x2 x3 x4:=by kernel_rfl
theorem UF.ok :V.Valid prog 131 UF.con:=
 V.fo (tab_cons ZW.ok (tab_cons Ub.ok (tab_cons Ut.ok (tab_cons Uu.ok tab_nil)))) func131 (by kernel_rfl) (λx y h=>(show V.evBody UF.E UF.con f131 x=_ from UF.eq x.1 x.2.1 (x.2.2.1,x.2.2.2.1,x.2.2.2.2.1,x.2.2.2.2.2.1) (x.2.2.2.2.2.2.1,x.2.2.2.2.2.2.2.1) x.2.2.2.2.2.2.2.2).trans (V.cfl (by kernel_rfl) h))
abbrev ZB.con :V.Con:=⟨V.A16,(.cons .bool .nil),λ(x:V.D16)=>ZB (V.p16_0 x) (V.p16_1 x) (V.p16_2 x) (V.p16_3 x),[],[(false,1),(false,1),(false,1),(true,13)],[(false,1)],[false],[]⟩
abbrev ZB.E :Env:=V.mkE V.tys [(36,ZW.con),(67,ZM.con),(118,Uf.con),(131,UF.con),(132,Ws.con)] [(7,[0,1,2,7],[]),(11,[1,2,7],[])] [] [] [] []
abbrev ZB.kt (x0:Int)(x1:Int)(x2:ByteArray)(x3:Y5):Kt Bool:=ktOf ZB.E ZB.con f91 (V.fl16 x0 x1 x2 x3)
abbrev ZB.s11 (x1:Int)(x2:ByteArray)(x3:Y5):St:=⟨[(1, .v false [.vi (x1)]),(2, .v false [.val (.str x2)]),(7, .v false [.ptr 64000 0])],[(64000, .box (V.lsGap x3))]⟩
abbrev ZB.s7 (x0:Int)(x1:Int)(x2:ByteArray)(x3:Y5):St:=⟨[(0, .v false [.vi (x0)]),(1, .v false [.vi (x1)]),(2, .v false [.val (.str x2)]),(7, .v false [.ptr 64000 0])],[(64000, .box (V.lsGap x3))]⟩
theorem ZB.r11 (x0:Int)(x1:Int)(x2:ByteArray)(x3:Y5):joinF ZB.E f91.ntmps [1,1] [] (codeOf f91) (ZB.kt x0 x1 x2 x3) (ZB.s11 x1 x2 x3)=ZB.g11 x1 x2 x3:=by kernel_rfl
theorem ZB.e11 (x0:Int)(x1:Int)(x2:ByteArray)(x3:Y5):jn (joinF ZB.E f91.ntmps [1,1] [] (codeOf f91) (ZB.kt x0 x1 x2 x3)) (ZB.s11 x1 x2 x3)=ZB.l11 x1 x2 x3:=by
 rw[jn_eq,ZB.r11]
 rfl
theorem ZB.r7 (x0:Int)(x1:Int)(x2:ByteArray)(x3:Y5):joinF ZB.E f91.ntmps [1] [] (codeOf f91) (ZB.kt x0 x1 x2 x3) (ZB.s7 x0 x1 x2 x3)=ZB.g7 x0 x1 x2 x3 (jn (joinF ZB.E f91.ntmps [1,1] [] (codeOf f91) (ZB.kt x0 x1 x2 x3)) (ZB.s11 x1 x2 x3)):=by kernel_rfl
theorem ZB.e7 (x0:Int)(x1:Int)(x2:ByteArray)(x3:Y5):jn (joinF ZB.E f91.ntmps [1] [] (codeOf f91) (ZB.kt x0 x1 x2 x3)) (ZB.s7 x0 x1 x2 x3)=ZB.l7 x0 x1 x2 x3:=by
 rw[jn_eq,ZB.r7]
 simp only[ZB.e11]
 rfl
abbrev ZB.s (x0:Int)(x1:Int)(x2:ByteArray)(x3:Y5):St:=⟨[(0, .v false [.vi (x0)]),(1, .v false [.vi (x1)]),(2, .v false [.val (.str x2)]),(3, .v true (V.lsGap x3))],[]⟩
theorem ZB.v0 (x0:Int)(x1:Int)(x2:ByteArray)(x3:Y5):V.evBody ZB.E ZB.con f91 (V.fl16 x0 x1 x2 x3)=evC ZB.E f91.ntmps (codeOf f91) (ZB.kt x0 x1 x2 x3) (ZB.s x0 x1 x2 x3):=by kernel_rfl
theorem ZB.v (x0:Int)(x1:Int)(x2:ByteArray)(x3:Y5):evC ZB.E f91.ntmps (codeOf f91) (ZB.kt x0 x1 x2 x3) (ZB.s x0 x1 x2 x3)=ZB.b x0 x1 x2 x3 (jn (joinF ZB.E f91.ntmps [1] [] (codeOf f91) (ZB.kt x0 x1 x2 x3)) (ZB.s7 x0 x1 x2 x3)):=by kernel_rfl
theorem ZB.eq (x0:Int)(x1:Int)(x2:ByteArray)(x3:Y5):V.evBody ZB.E ZB.con f91 (V.fl16 x0 x1 x2 x3)=ZB x0 x1 x2 x3:=by
 rw[ZB.v0,ZB.v]
 simp only[ZB.e7]
 rfl
theorem ZB.ok :V.Valid prog 91 ZB.con:=
 V.fo (tab_cons ZW.ok (tab_cons ZM.ok (tab_cons Uf.ok (tab_cons UF.ok (tab_cons Ws.ok tab_nil))))) func91 (by kernel_rfl) (λx y h=>(show V.evBody ZB.E ZB.con f91 x=_ from ZB.eq (V.p16_0 x) (V.p16_1 x) (V.p16_2 x) (V.p16_3 x)).trans (V.cfl (by kernel_rfl) h))
abbrev XQ.con :V.Con:=⟨V.A17,(.cons .bool .nil),λ(x:V.D17)=>XQ (V.p17_0 x) (V.p17_1 x) (V.p17_2 x),[],[(true,16),(false,1),(true,21)],[(false,1)],[false],[]⟩
abbrev XQ.E :Env:=V.mkE V.tys [(31,XB.con),(90,Ub.con),(91,ZB.con),(92,Ut.con),(93,Uu.con)] [] [] [] [] []
abbrev XQ.kt (x0:Z5)(x1:ByteArray)(x2:Zk):Kt Bool:=ktOf XQ.E XQ.con f52 (V.fl17 x0 x1 x2)
abbrev XQ.s (x0:Z5)(x1:ByteArray)(x2:Zk):St:=⟨[(0, .v true (V.lsHead x0)),(1, .v false [.val (.str x1)]),(2, .v true (V.lsAnswer x2))],[]⟩
theorem XQ.v0 (x0:Z5)(x1:ByteArray)(x2:Zk):V.evBody XQ.E XQ.con f52 (V.fl17 x0 x1 x2)=evC XQ.E f52.ntmps (codeOf f52) (XQ.kt x0 x1 x2) (XQ.s x0 x1 x2):=by kernel_rfl
theorem XQ.v (x0:Z5)(x1:ByteArray)(x2:Zk):evC XQ.E f52.ntmps (codeOf f52) (XQ.kt x0 x1 x2) (XQ.s x0 x1 x2)=XQ x0 x1 x2:=by kernel_rfl
theorem XQ.eq (x0:Z5)(x1:ByteArray)(x2:Zk):V.evBody XQ.E XQ.con f52 (V.fl17 x0 x1 x2)=XQ x0 x1 x2:=(XQ.v0 x0 x1 x2).trans (XQ.v x0 x1 x2)
theorem XQ.ok :V.Valid prog 52 XQ.con:=
 V.fo (tab_cons XB.ok (tab_cons Ub.ok (tab_cons ZB.ok (tab_cons Ut.ok (tab_cons Uu.ok tab_nil))))) func52 (by kernel_rfl) (λx y h=>(show V.evBody XQ.E XQ.con f52 x=_ from XQ.eq (V.p17_0 x) (V.p17_1 x) (V.p17_2 x)).trans (V.cfl (by kernel_rfl) h))
abbrev XJ.con :V.Con:=⟨V.A18,(ci .nil),λ(x:V.D18)=>XJ (V.p18_0 x) (V.p18_1 x) (V.p18_2 x) (V.p18_3 x),[],[(false,1),(false,1),(true,21),(false,1)],[(false,1)],[false],[]⟩
abbrev XJ.E :Env:=V.mkE V.tys [(50,UX.con),(51,W4.con),(52,XQ.con)] [] [] [] [] []
abbrev XJ.kt (x0:Int)(x1:ByteArray)(x2:Zk)(x3:Int):Kt Int:=ktOf XJ.E XJ.con f14 (V.fl18 x0 x1 x2 x3)
abbrev XJ.s (x0:Int)(x1:ByteArray)(x2:Zk)(x3:Int):St:=⟨[(0, .v false [.vi (x0)]),(1, .v false [.val (.str x1)]),(2, .v true (V.lsAnswer x2)),(3, .v false [.vi (x3)])],[]⟩
theorem XJ.v0 (x0:Int)(x1:ByteArray)(x2:Zk)(x3:Int):V.evBody XJ.E XJ.con f14 (V.fl18 x0 x1 x2 x3)=evC XJ.E f14.ntmps (codeOf f14) (XJ.kt x0 x1 x2 x3) (XJ.s x0 x1 x2 x3):=by kernel_rfl
theorem XJ.v (x0:Int)(x1:ByteArray)(x2:Zk)(x3:Int):evC XJ.E f14.ntmps (codeOf f14) (XJ.kt x0 x1 x2 x3) (XJ.s x0 x1 x2 x3)=XJ x0 x1 x2 x3:=by kernel_rfl
theorem XJ.eq (x0:Int)(x1:ByteArray)(x2:Zk)(x3:Int):V.evBody XJ.E XJ.con f14 (V.fl18 x0 x1 x2 x3)=XJ x0 x1 x2 x3:=(XJ.v0 x0 x1 x2 x3).trans (XJ.v x0 x1 x2 x3)
theorem XJ.ok :V.Valid prog 14 XJ.con:=
 V.fo (tab_cons UX.ok (tab_cons W4.ok (tab_cons XQ.ok tab_nil))) func14 (by kernel_rfl) (λx y h=>(show V.evBody XJ.E XJ.con f14 x=_ from XJ.eq (V.p18_0 x) (V.p18_1 x) (V.p18_2 x) (V.p18_3 x)).trans (V.cfl (by kernel_rfl) h))
abbrev YE.con :V.Con:=⟨(.cons (.sl (.cons (.int .u8) .nil)) .nil),(.cons (.sl (.cons (.sl (.cons (.sl V.eSigned) (.cons (.sl V.eEntry) .nil))) (ci .nil))) (ci (.cons .str .nil))),λ(x:List Int)=>YE x,[],[(false,1)],[(false,1),(false,1),(false,1)],[false,false,false],[]⟩
abbrev YE.E :Env:=V.mkE V.tys [(24,Zx.con),(25,WK.con),(26,ZE.con),(53,Zd.con),(54,Yt.con)] [(12,[5,6,7,8,9,10],[])] [] [320064] [] []
abbrev YE.kt (x0:List Int):Kt (List Z8×Int×ByteArray):=ktOf YE.E YE.con f15 ((x0):List Int)
abbrev YE.s12 (y1:(Z3))(y2:(Z3)×List Z7×Int)(y3:(Z3)×Int×ByteArray)(cY:Int)(aW:Int)(d7:Int)(cR:List Z8):St:=⟨[(5, .v false [.ptr 128064 0]),(6, .v false [.ptr 192128 0]),(7, .v false [.vi (y3.2.1)]),(8, .v false [.val (.str y3.2.2)]),(9, .v false [.ref 64000076800576]),(10, .v false [.vi (cY)])],[(128064, .box [.val (.sl (.cons (.int .u8) .nil) y1.1), .vi (aW), .vi (d7)]),(192128, .box [.val (.sl (.cons (.sl V.eSigned) (.cons (.sl V.eEntry) .nil)) y2.2.1), .vi (y2.2.2)]),(64000076800576, .row (.cons (.sl (.cons (.sl V.eSigned) (.cons (.sl V.eEntry) .nil))) (ci .nil)) false cR)]⟩
theorem YE.r12 (x0:List Int)(y1:(Z3))(y2:(Z3)×List Z7×Int)(y3:(Z3)×Int×ByteArray)(R:St->Option (List Z8×Int×ByteArray))(cY:Int)(aW:Int)(d7:Int)(cR:List Z8):loopF YE.E f15.ntmps [1,1,1,1,1,0,1,0] [] (codeOf f15) (YE.kt x0) R (YE.s12 y1 y2 y3 cY aW d7 cR)=YE.g12 y1 y2 y3 (λcY aW d7 cR=>R (YE.s12 y1 y2 y3 cY aW d7 cR)) cY aW d7 cR:=by kernel_rfl
theorem YE.e12 (x0:List Int)(y1:(Z3))(y2:(Z3)×List Z7×Int)(y3:(Z3)×Int×ByteArray):∀(n:Nat) (cY:Int) (aW:Int) (d7:Int) (cR:List Z8),loopN (loopF YE.E f15.ntmps [1,1,1,1,1,0,1,0] [] (codeOf f15) (YE.kt x0)) n (YE.s12 y1 y2 y3 cY aW d7 cR)=YE.l12 y1 y2 y3 n cY aW d7 cR:=by
 intro n
 induction n with
 |zero=>intros;rw[loopN_z];rfl
 |succ n ih=>
  intro cY aW d7 cR
  rw[loopN_s,YE.r12]
  simp only[ih]
  first|exact(YE.u12 ..).symm|rfl
theorem YE.v (x0:List Int):V.evBody YE.E YE.con f15 ((x0):List Int)=YE.b x0 (λy1 y2 y3 cY aW d7 cR=>loopN (loopF YE.E f15.ntmps [1,1,1,1,1,0,1,0] [] (codeOf f15) (YE.kt x0)) V.KK (YE.s12 y1 y2 y3 cY aW d7 cR)):=by kernel_rfl
theorem YE.eq (x0:List Int):V.evBody YE.E YE.con f15 ((x0):List Int)=YE x0:=by
 rw[YE.v]
 simp only[YE.e12]
 rfl
theorem YE.ok :V.Valid prog 15 YE.con:=
 V.fo (tab_cons Zx.ok (tab_cons WK.ok (tab_cons ZE.ok (tab_cons Zd.ok (tab_cons Yt.ok tab_nil))))) func15 (by kernel_rfl) (λx y h=>(show V.evBody YE.E YE.con f15 x=_ from YE.eq x).trans (V.cfl (by kernel_rfl) h))
abbrev X7.con :V.Con:=⟨(.cons (.sl (.cons (.int .u8) .nil)) .nil),V.eRServerZone,λ(x:List Int)=>X7 x,[],[(false,1)],[(true,2),(true,2)],[false,false,false,false],[]⟩
abbrev X7.E :Env:=V.mkE V.tys [(24,Zx.con),(25,WK.con),(55,Xu.con),(56,Zq.con),(57,U4.con)] [(9,[2,3,4,5,17],[])] [] [] [] [(4,[1000]),(5,[1000])]
abbrev X7.kt (x0:List Int):Kt U7:=ktOf X7.E X7.con f16 ((x0):List Int)
abbrev X7.s9 (y1:(Z3))(y2:(Z3)×List Z7×Int)(b7:Bool)(bP:Int)(dR:Int):St:=⟨[(2, .v false [.ptr 64000 0]),(3, .v false [.ptr 64064 0]),(4, .v false [.ptr 128064 0]),(5, .v false [.ptr 192128 0]),(17, .v false [.val (.bool b7)])],[(64000, .box [.nil0, .vi ((0:Int))]),(64064, .box [.nil0, .nil0]),(128064, .box [.val (.sl (.cons (.int .u8) .nil) y1.1), .vi (bP), .vi (dR)]),(192128, .box [.val (.sl (.cons (.sl V.eSigned) (.cons (.sl V.eEntry) .nil)) y2.2.1), .vi (y2.2.2)])]⟩
theorem X7.r9 (x0:List Int)(y1:(Z3))(y2:(Z3)×List Z7×Int)(b7:Bool)(bP:Int)(dR:Int):joinF X7.E f16.ntmps [1,1,1,0] [] (codeOf f16) (X7.kt x0) (X7.s9 y1 y2 b7 bP dR)=X7.g9 y1 y2 b7 bP dR:=by kernel_rfl
theorem X7.e9 (x0:List Int)(y1:(Z3))(y2:(Z3)×List Z7×Int)(b7:Bool)(bP:Int)(dR:Int):jn (joinF X7.E f16.ntmps [1,1,1,0] [] (codeOf f16) (X7.kt x0)) (X7.s9 y1 y2 b7 bP dR)=X7.l9 y1 y2 b7 bP dR:=by
 rw[jn_eq,X7.r9]
 rfl
theorem X7.v (x0:List Int):V.evBody X7.E X7.con f16 ((x0):List Int)=X7.b x0 (λy1 y2 b7 bP dR=>jn (joinF X7.E f16.ntmps [1,1,1,0] [] (codeOf f16) (X7.kt x0)) (X7.s9 y1 y2 b7 bP dR)):=by kernel_rfl
theorem X7.eq (x0:List Int):V.evBody X7.E X7.con f16 ((x0):List Int)=X7 x0:=by
 rw[X7.v]
 simp only[X7.e9]
 rfl
theorem X7.ok :V.Valid prog 16 X7.con:=
 V.fo (tab_cons Zx.ok (tab_cons WK.ok (tab_cons Xu.ok (tab_cons Zq.ok (tab_cons U4.ok tab_nil))))) func16 (by kernel_rfl) (λx y h=>(show V.evBody X7.E X7.con f16 x=_ from X7.eq x).trans (V.cfl (by kernel_rfl) h))
abbrev YR.con :V.Con:=⟨(.cons (.sl V.eEntry) .nil),(.cons (.sl V.eEntry) .nil),λ(x:List Z0)=>YR x,[],[(false,1)],[(false,1)],[true],[]⟩
abbrev YR.E :Env:=V.mkE V.tys [(70,Wn.con)] [(6,[3,7,8,9],[(64000038400192,V.eEntry,true)])] [] [] [] []
abbrev YR.kt (x0:List Z0):Kt (List Z0):=ktOf YR.E YR.con f102 ((x0):List Z0)
abbrev YR.s6 (x0:List Z0)(aE:Int)(aA:Int)(aD:List Z0):St:=⟨[(3, .v false [.ref 64000038400192]),(7, .v false [.val (.sl V.eEntry x0)]),(8, .v false [.vi (aE)]),(9, .v false [.vi (aA)])],[(64000038400192, .row V.eEntry true aD)]⟩
theorem YR.r6 (x0:List Z0)(R:St->Option (List Z0))(aE:Int)(aA:Int)(aD:List Z0):loopF YR.E f102.ntmps [1,1,0,1,0] [] (codeOf f102) (YR.kt x0) R (YR.s6 x0 aE aA aD)=YR.g6 x0 (λaE aA aD=>R (YR.s6 x0 aE aA aD)) aE aA aD:=by kernel_rfl
theorem YR.e6 (x0:List Z0):∀(n:Nat) (aE:Int) (aA:Int) (aD:List Z0),loopN (loopF YR.E f102.ntmps [1,1,0,1,0] [] (codeOf f102) (YR.kt x0)) n (YR.s6 x0 aE aA aD)=YR.l6 x0 n aE aA aD:=by
 intro n
 induction n with
 |zero=>intros;rw[loopN_z];rfl
 |succ n ih=>
  intro aE aA aD
  rw[loopN_s,YR.r6]
  simp only[ih]
  first|exact(YR.u6 ..).symm|rfl
theorem YR.v (x0:List Z0):V.evBody YR.E YR.con f102 ((x0):List Z0)=YR.b x0 (λaE aA aD=>loopN (loopF YR.E f102.ntmps [1,1,0,1,0] [] (codeOf f102) (YR.kt x0)) V.KK (YR.s6 x0 aE aA aD)):=by kernel_rfl
theorem YR.eq (x0:List Z0):V.evBody YR.E YR.con f102 ((x0):List Z0)=YR x0:=by
 rw[YR.v]
 simp only[YR.e6]
 rfl
theorem YR.ok :V.Valid prog 102 YR.con:=
 V.fo (tab_cons Wn.ok tab_nil) func102 (by kernel_rfl) (λx y h=>(show V.evBody YR.E YR.con f102 x=_ from YR.eq x).trans (V.cfl (by kernel_rfl) h))
abbrev WI.con :V.Con:=⟨(.cons (.sl V.eSigned) (.cons (.sl V.eEntry) .nil)),(.cons (.sl V.eSigned) (.cons (.sl V.eEntry) .nil)),λ(x:List Z4×List Z0)=>WI x,[],[(true,2)],[(true,2)],[true,true],[]⟩
abbrev WI.E :Env:=V.mkE V.tys [(68,Yy.con),(102,YR.con)] [] [(1,5)] [] [] []
theorem WI.eq (x0:Z7):V.evBody WI.E WI.con f59 ((x0.1,x0.2):List Z4×List Z0)=WI x0:=by kernel_rfl
theorem WI.ok :V.Valid prog 59 WI.con:=
 V.fo (tab_cons Yy.ok (tab_cons YR.ok tab_nil)) func59 (by kernel_rfl) (λx y h=>(show V.evBody WI.E WI.con f59 x=_ from WI.eq x).trans (V.cfl (by kernel_rfl) h))
abbrev YH.con :V.Con:=⟨(.cons (.sl (.cons (.sl V.eSigned) (.cons (.sl V.eEntry) .nil))) (ci .nil)),(.cons (.sl (.cons (.sl V.eSigned) (.cons (.sl V.eEntry) .nil))) (ci .nil)),λ(x:List Z7×Int)=>YH x,[],[(true,2)],[(true,2)],[true,false],[]⟩
abbrev YH.E :Env:=V.mkE V.tys [(59,WI.con)] [(6,[2,3,10,11,12],[(64000000000008204288,(.cons (.sl V.eSigned) (.cons (.sl V.eEntry) .nil)),true)])] [(5,4)] [] [] [(5,[0,1])]
abbrev YH.kt (x0:Z8):Kt Z8:=ktOf YH.E YH.con f58 ((x0.1,x0.2):List Z7×Int)
abbrev YH.s6 (x0:Z8)(aE:Int)(aA:Int)(aN:List Z7):St:=⟨[(2, .v false [.ptr 64064 0]),(3, .v false [.ptr 128192 0]),(10, .v false [.val (.sl (.cons (.sl V.eSigned) (.cons (.sl V.eEntry) .nil)) x0.1)]),(11, .v false [.vi (aE)]),(12, .v false [.vi (aA)])],[(64064, .box [.nil0, .vi ((0:Int))]),(128192, .box [.ref 64000000000008204288, .vi (x0.2)]),(64000000000008204288, .row (.cons (.sl V.eSigned) (.cons (.sl V.eEntry) .nil)) true aN)]⟩
theorem YH.r6 (x0:Z8)(R:St->Option Z8)(aE:Int)(aA:Int)(aN:List Z7):loopF YH.E f58.ntmps [1,1,0,1,0] [] (codeOf f58) (YH.kt x0) R (YH.s6 x0 aE aA aN)=YH.g6 x0 (λaE aA aN=>R (YH.s6 x0 aE aA aN)) aE aA aN:=by kernel_rfl
theorem YH.e6 (x0:Z8):∀(n:Nat) (aE:Int) (aA:Int) (aN:List Z7),loopN (loopF YH.E f58.ntmps [1,1,0,1,0] [] (codeOf f58) (YH.kt x0)) n (YH.s6 x0 aE aA aN)=YH.l6 x0 n aE aA aN:=by
 intro n
 induction n with
 |zero=>intros;rw[loopN_z];rfl
 |succ n ih=>
  intro aE aA aN
  rw[loopN_s,YH.r6]
  simp only[ih]
  first|exact(YH.u6 ..).symm|rfl
theorem YH.v (x0:Z8):V.evBody YH.E YH.con f58 ((x0.1,x0.2):List Z7×Int)=YH.b x0 (λaE aA aN=>loopN (loopF YH.E f58.ntmps [1,1,0,1,0] [] (codeOf f58) (YH.kt x0)) V.KK (YH.s6 x0 aE aA aN)):=by kernel_rfl
theorem YH.eq (x0:Z8):V.evBody YH.E YH.con f58 ((x0.1,x0.2):List Z7×Int)=YH x0:=by
 rw[YH.v]
 simp only[YH.e6]
 rfl
theorem YH.ok :V.Valid prog 58 YH.con:=
 V.fo (tab_cons WI.ok tab_nil) func58 (by kernel_rfl) (λx y h=>(show V.evBody YH.E YH.con f58 x=_ from YH.eq x).trans (V.cfl (by kernel_rfl) h))
abbrev Xb.con :V.Con:=⟨V.eRServerZone,(.cons (.sl (.cons (.sl V.eSigned) (.cons (.sl V.eEntry) .nil))) (ci (.cons .bool .nil))),λ(x:List Z7×Int×List Z4×List Z0)=>Xb (x.1,x.2.1) x.2.2,[],[(true,2),(true,2)],[(true,2),(false,1)],[true,false,false],[]⟩
abbrev Xb.E :Env:=V.mkE V.tys [(9,Ue.con),(11,Wu.con),(35,Wm.con),(41,Ug.con),(58,YH.con),(59,WI.con)] [(7,[2,3,4,6,17],[])] [(4,3),(5,4),(7,5)] [] [] [(5,[0,1])]
abbrev Xb.kt (x0:Z8)(x1:Z7):Kt Wf:=ktOf Xb.E Xb.con f17 ((x0.1,x0.2,x1.1,x1.2):List Z7×Int×List Z4×List Z0)
abbrev Xb.s7 (x0:Z8)(x1:Z7)(y1:Z8)(bN:Bool):St:=⟨[(2, .v false [.ptr 64000 0]),(3, .v false [.ptr 64064 0]),(4, .v false [.ptr 64128 0]),(6, .v false [.ptr 128128 0]),(17, .v false [.val (.bool bN)])],[(64000, .box [.val (.sl (.cons (.sl V.eSigned) (.cons (.sl V.eEntry) .nil)) x0.1), .vi (x0.2)]),(64064, .box [.val (.sl V.eSigned x1.1), .val (.sl V.eEntry x1.2)]),(64128, .box [.nil0, .vi ((0:Int))]),(128128, .box [.ref 64000000000008200192, .vi (y1.2)]),(64000000000008200192, .row (.cons (.sl V.eSigned) (.cons (.sl V.eEntry) .nil)) true y1.1)]⟩
theorem Xb.r7 (x0:Z8)(x1:Z7)(y1:Z8)(bN:Bool):joinF Xb.E f17.ntmps [1,1,0] [] (codeOf f17) (Xb.kt x0 x1) (Xb.s7 x0 x1 y1 bN)=Xb.g7 x0 x1 y1 bN:=by kernel_rfl
theorem Xb.e7 (x0:Z8)(x1:Z7)(y1:Z8)(bN:Bool):jn (joinF Xb.E f17.ntmps [1,1,0] [] (codeOf f17) (Xb.kt x0 x1)) (Xb.s7 x0 x1 y1 bN)=Xb.l7 x0 x1 y1 bN:=by
 rw[jn_eq,Xb.r7]
 rfl
theorem Xb.v (x0:Z8)(x1:Z7):V.evBody Xb.E Xb.con f17 ((x0.1,x0.2,x1.1,x1.2):List Z7×Int×List Z4×List Z0)=Xb.b x0 x1 (λy1 bN=>jn (joinF Xb.E f17.ntmps [1,1,0] [] (codeOf f17) (Xb.kt x0 x1)) (Xb.s7 x0 x1 y1 bN)):=by kernel_rfl
theorem Xb.eq (x0:Z8)(x1:Z7):V.evBody Xb.E Xb.con f17 ((x0.1,x0.2,x1.1,x1.2):List Z7×Int×List Z4×List Z0)=Xb x0 x1:=by
 rw[Xb.v]
 simp only[Xb.e7]
 rfl
theorem Xb.ok :V.Valid prog 17 Xb.con:=
 V.fo (tab_cons Ue.ok (tab_cons Wu.ok (tab_cons Wm.ok (tab_cons Ug.ok (tab_cons YH.ok (tab_cons WI.ok tab_nil)))))) func17 (by kernel_rfl) (λx y h=>(show V.evBody Xb.E Xb.con f17 x=_ from Xb.eq (x.1,x.2.1) x.2.2).trans (V.cfl (by kernel_rfl) h))
abbrev YS.con :V.Con:=⟨(.cons (.sl V.eEntry) (.cons (.sl V.eEntry) (.cons (.fn 29 false .nil .nil) .nil))),(.cons .bool .nil),λ(x:List Z0×List Z0×(Unit)×(Unit))=>YS x.1 x.2.1 x.2.2,[],[(false,1),(false,1),(false,1)],[(false,1)],[false],[]⟩
abbrev YS.E :Env:=V.mkE V.tys [(29,Wd.con)] [(8,[1,2,15,16,17],[])] [] [] [] []
abbrev YS.kt (x0:List Z0)(x1:List Z0)(x2:(Unit)×(Unit)):Kt Bool:=ktOf YS.E YS.con f104 ((x0,x1,x2):List Z0×List Z0×(Unit)×(Unit))
abbrev YS.s8 (x0:List Z0)(x1:List Z0)(aG:Int)(aK:Int):St:=⟨[(1, .v false [.val (.sl V.eEntry x1)]),(2, .v false [.val (.fn 29 false .nil .nil () ())]),(15, .v false [.val (.sl V.eEntry x0)]),(16, .v false [.vi (aG)]),(17, .v false [.vi (aK)])],[]⟩
theorem YS.r8 (x0:List Z0)(x1:List Z0)(x2:(Unit)×(Unit))(R:St->Option Bool)(aG:Int)(aK:Int):loopF YS.E f104.ntmps [1,1,0,1,0] [] (codeOf f104) (YS.kt x0 x1 x2) R (YS.s8 x0 x1 aG aK)=YS.g8 x0 x1 (λaG aK=>R (YS.s8 x0 x1 aG aK)) aG aK:=by kernel_rfl
theorem YS.e8 (x0:List Z0)(x1:List Z0)(x2:(Unit)×(Unit)):∀(n:Nat) (aG:Int) (aK:Int),loopN (loopF YS.E f104.ntmps [1,1,0,1,0] [] (codeOf f104) (YS.kt x0 x1 x2)) n (YS.s8 x0 x1 aG aK)=YS.l8 x0 x1 n aG aK:=by
 intro n
 induction n with
 |zero=>intros;rw[loopN_z];rfl
 |succ n ih=>
  intro aG aK
  rw[loopN_s,YS.r8]
  simp only[ih]
  first|exact(YS.u8 ..).symm|rfl
theorem YS.v (x0:List Z0)(x1:List Z0)(x2:(Unit)×(Unit)):V.evBody YS.E YS.con f104 ((x0,x1,x2):List Z0×List Z0×(Unit)×(Unit))=YS.b x0 x1 x2 (λaG aK=>loopN (loopF YS.E f104.ntmps [1,1,0,1,0] [] (codeOf f104) (YS.kt x0 x1 x2)) V.KK (YS.s8 x0 x1 aG aK)):=by kernel_rfl
theorem YS.eq (x0:List Z0)(x1:List Z0)(x2:(Unit)×(Unit)):V.evBody YS.E YS.con f104 ((x0,x1,x2):List Z0×List Z0×(Unit)×(Unit))=YS x0 x1 x2:=by
 rw[YS.v]
 simp only[YS.e8]
 rfl
theorem YS.ok :V.Valid prog 104 YS.con:=
 V.fo (tab_cons Wd.ok tab_nil) func104 (by kernel_rfl) (λx y h=>(show V.evBody YS.E YS.con f104 x=_ from YS.eq x.1 x.2.1 x.2.2).trans (V.cfl (by kernel_rfl) h))
abbrev UY.con :V.Con:=⟨(.cons (.sl V.eEntry) (.cons (.sl V.eEntry) .nil)),(.cons .bool .nil),λ(x:List Z0×List Z0)=>UY x.1 x.2,[],[(false,1),(false,1)],[(false,1)],[false],[]⟩
abbrev UY.E :Env:=V.mkE V.tys [(104,YS.con)] [] [] [] [] []
theorem UY.eq (x0:List Z0)(x1:List Z0):V.evBody UY.E UY.con f62 ((x0,x1):List Z0×List Z0)=UY x0 x1:=by kernel_rfl
theorem UY.ok :V.Valid prog 62 UY.con:=
 V.fo (tab_cons YS.ok tab_nil) func62 (by kernel_rfl) (λx y h=>(show V.evBody UY.E UY.con f62 x=_ from UY.eq x.1 x.2).trans (V.cfl (by kernel_rfl) h))
abbrev WW.con :V.Con:=⟨(.cons (.sl V.eSigned) (.cons (.sl V.eEntry) (.cons (.sl V.eSigned) (.cons (.sl V.eEntry) .nil)))),(.cons .bool .nil),λ(x:List Z4×List Z0×List Z4×List Z0)=>WW (x.1,x.2.1) x.2.2,[],[(true,2),(true,2)],[(false,1)],[false],[]⟩
abbrev WW.E :Env:=V.mkE V.tys [(28,Uh.con),(62,UY.con)] [] [] [] [] []
theorem WW.eq (x0:Z7)(x1:Z7):V.evBody WW.E WW.con f21 ((x0.1,x0.2,x1.1,x1.2):List Z4×List Z0×List Z4×List Z0)=WW x0 x1:=by kernel_rfl
theorem WW.ok :V.Valid prog 21 WW.con:=
 V.fo (tab_cons Uh.ok (tab_cons UY.ok tab_nil)) func21 (by kernel_rfl) (λx y h=>(show V.evBody WW.E WW.con f21 x=_ from WW.eq (x.1,x.2.1) x.2.2).trans (V.cfl (by kernel_rfl) h))
abbrev YU.con :V.Con:=⟨(.cons (.sl (.cons (.sl V.eSigned) (.cons (.sl V.eEntry) .nil))) (.cons (.sl (.cons (.sl V.eSigned) (.cons (.sl V.eEntry) .nil))) (.cons (.fn 21 false .nil .nil) .nil))),(.cons .bool .nil),λ(x:List Z7×List Z7×(Unit)×(Unit))=>YU x.1 x.2.1 x.2.2,[],[(false,1),(false,1),(false,1)],[(false,1)],[false],[]⟩
abbrev YU.E :Env:=V.mkE V.tys [(21,WW.con)] [(8,[1,2,15,16,17],[])] [] [] [] []
abbrev YU.kt (x0:List Z7)(x1:List Z7)(x2:(Unit)×(Unit)):Kt Bool:=ktOf YU.E YU.con f61 ((x0,x1,x2):List Z7×List Z7×(Unit)×(Unit))
abbrev YU.s8 (x0:List Z7)(x1:List Z7)(aG:Int)(aK:Int):St:=⟨[(1, .v false [.val (.sl (.cons (.sl V.eSigned) (.cons (.sl V.eEntry) .nil)) x1)]),(2, .v false [.val (.fn 21 false .nil .nil () ())]),(15, .v false [.val (.sl (.cons (.sl V.eSigned) (.cons (.sl V.eEntry) .nil)) x0)]),(16, .v false [.vi (aG)]),(17, .v false [.vi (aK)])],[]⟩
theorem YU.r8 (x0:List Z7)(x1:List Z7)(x2:(Unit)×(Unit))(R:St->Option Bool)(aG:Int)(aK:Int):loopF YU.E f61.ntmps [1,1,0,1,0] [] (codeOf f61) (YU.kt x0 x1 x2) R (YU.s8 x0 x1 aG aK)=YU.g8 x0 x1 (λaG aK=>R (YU.s8 x0 x1 aG aK)) aG aK:=by kernel_rfl
theorem YU.e8 (x0:List Z7)(x1:List Z7)(x2:(Unit)×(Unit)):∀(n:Nat) (aG:Int) (aK:Int),loopN (loopF YU.E f61.ntmps [1,1,0,1,0] [] (codeOf f61) (YU.kt x0 x1 x2)) n (YU.s8 x0 x1 aG aK)=YU.l8 x0 x1 n aG aK:=by
 intro n
 induction n with
 |zero=>intros;rw[loopN_z];rfl
 |succ n ih=>
  intro aG aK
  rw[loopN_s,YU.r8]
  simp only[ih]
  first|exact(YU.u8 ..).symm|rfl
theorem YU.v (x0:List Z7)(x1:List Z7)(x2:(Unit)×(Unit)):V.evBody YU.E YU.con f61 ((x0,x1,x2):List Z7×List Z7×(Unit)×(Unit))=YU.b x0 x1 x2 (λaG aK=>loopN (loopF YU.E f61.ntmps [1,1,0,1,0] [] (codeOf f61) (YU.kt x0 x1 x2)) V.KK (YU.s8 x0 x1 aG aK)):=by kernel_rfl
theorem YU.eq (x0:List Z7)(x1:List Z7)(x2:(Unit)×(Unit)):V.evBody YU.E YU.con f61 ((x0,x1,x2):List Z7×List Z7×(Unit)×(Unit))=YU x0 x1 x2:=by
 rw[YU.v]
 simp only[YU.e8]
 rfl
theorem YU.ok :V.Valid prog 61 YU.con:=
 V.fo (tab_cons WW.ok tab_nil) func61 (by kernel_rfl) (λx y h=>(show V.evBody YU.E YU.con f61 x=_ from YU.eq x.1 x.2.1 x.2.2).trans (V.cfl (by kernel_rfl) h))
abbrev US.con :V.Con:=⟨(.cons (.sl (.cons (.sl V.eSigned) (.cons (.sl V.eEntry) .nil))) (ci (.cons (.sl (.cons (.sl V.eSigned) (.cons (.sl V.eEntry) .nil))) (ci .nil)))),(.cons .bool .nil),λ(x:List Z7×Int×List Z7×Int)=>US (x.1,x.2.1) x.2.2,[],[(true,2),(true,2)],[(false,1)],[false],[]⟩
abbrev US.E :Env:=V.mkE V.tys [(61,YU.con)] [] [] [] [] []
theorem US.eq (x0:Z8)(x1:Z8):V.evBody US.E US.con f19 ((x0.1,x0.2,x1.1,x1.2):List Z7×Int×List Z7×Int)=US x0 x1:=by kernel_rfl
theorem US.ok :V.Valid prog 19 US.con:=
 V.fo (tab_cons YU.ok tab_nil) func19 (by kernel_rfl) (λx y h=>(show V.evBody US.E US.con f19 x=_ from US.eq (x.1,x.2.1) x.2.2).trans (V.cfl (by kernel_rfl) h))
abbrev YF.con :V.Con:=⟨(.cons (.sl (.cons (.sl (.cons (.sl V.eSigned) (.cons (.sl V.eEntry) .nil))) (ci .nil))) (ci (.cons .str .nil))),(.cons (.sl V.eAnswer) .nil),λ(x:List Z8×Int×ByteArray)=>YF x.1 x.2.1 x.2.2,[],[(false,1),(false,1),(false,1)],[(false,1)],[true],[]⟩
abbrev YF.E :Env:=V.mkE V.tys [(6,X0.con)] [(6,[1,2,7,15,16,17],[(64000038400448,V.eAnswer,true)])] [] [] [] []
abbrev YF.kt (x0:List Z8)(x1:Int)(x2:ByteArray):Kt (List Zk):=ktOf YF.E YF.con f22 ((x0,x1,x2):List Z8×Int×ByteArray)
abbrev YF.s6 (x1:Int)(x2:ByteArray)(aA:List Z8)(aD:Int)(aJ:Int)(aN:List Zk):St:=⟨[(1, .v false [.vi (x1)]),(2, .v false [.val (.str x2)]),(7, .v false [.ref 64000038400448]),(15, .v false [.val (.sl (.cons (.sl (.cons (.sl V.eSigned) (.cons (.sl V.eEntry) .nil))) (ci .nil)) aA)]),(16, .v false [.vi (aD)]),(17, .v false [.vi (aJ)])],[(64000038400448, .row V.eAnswer true aN)]⟩
theorem YF.r6 (x0:List Z8)(x1:Int)(x2:ByteArray)(R:St->Option (List Zk))(aA:List Z8)(aD:Int)(aJ:Int)(aN:List Zk):loopF YF.E f22.ntmps [1,1,0,1,0] [] (codeOf f22) (YF.kt x0 x1 x2) R (YF.s6 x1 x2 aA aD aJ aN)=YF.g6 x1 x2 (λaA aD aJ aN=>R (YF.s6 x1 x2 aA aD aJ aN)) aA aD aJ aN:=by kernel_rfl
theorem YF.e6 (x0:List Z8)(x1:Int)(x2:ByteArray):∀(n:Nat) (aA:List Z8) (aD:Int) (aJ:Int) (aN:List Zk),loopN (loopF YF.E f22.ntmps [1,1,0,1,0] [] (codeOf f22) (YF.kt x0 x1 x2)) n (YF.s6 x1 x2 aA aD aJ aN)=YF.l6 x1 x2 n aA aD aJ aN:=by
 intro n
 induction n with
 |zero=>intros;rw[loopN_z];rfl
 |succ n ih=>
  intro aA aD aJ aN
  rw[loopN_s,YF.r6]
  simp only[ih]
  first|exact(YF.u6 ..).symm|rfl
theorem YF.v (x0:List Z8)(x1:Int)(x2:ByteArray):V.evBody YF.E YF.con f22 ((x0,x1,x2):List Z8×Int×ByteArray)=YF.b x0 x1 x2 (λaA aD aJ aN=>loopN (loopF YF.E f22.ntmps [1,1,0,1,0] [] (codeOf f22) (YF.kt x0 x1 x2)) V.KK (YF.s6 x1 x2 aA aD aJ aN)):=by kernel_rfl
theorem YF.eq (x0:List Z8)(x1:Int)(x2:ByteArray):V.evBody YF.E YF.con f22 ((x0,x1,x2):List Z8×Int×ByteArray)=YF x0 x1 x2:=by
 rw[YF.v]
 simp only[YF.e6]
 rfl
theorem YF.ok :V.Valid prog 22 YF.con:=
 V.fo (tab_cons X0.ok tab_nil) func22 (by kernel_rfl) (λx y h=>(show V.evBody YF.E YF.con f22 x=_ from YF.eq x.1 x.2.1 x.2.2).trans (V.cfl (by kernel_rfl) h))
abbrev Qv.con :V.Con:=⟨(ci (ci .nil)),(ci .nil),λ(x:Int×Int)=>Qv x.1 x.2,[],[(false,1),(false,1)],[(false,1)],[false],[]⟩
abbrev Qv.E :Env:=V.mkE V.tys [] [] [] [] [] []
theorem Qv.eq (x0:Int)(x1:Int):V.evBody Qv.E Qv.con f23 ((x0,x1):Int×Int)=Qv x0 x1:=by kernel_rfl
theorem Qv.ok :V.Valid prog 23 Qv.con:=
 V.fo tab_nil func23 (by kernel_rfl) (λx y h=>(show V.evBody Qv.E Qv.con f23 x=_ from Qv.eq x.1 x.2).trans (V.cfl (by kernel_rfl) h))
abbrev Zh.con :V.Con:=⟨(.cons (.sl (.cons (.int .u8) .nil)) .nil),(.cons .bool .nil),λ(x:List Int)=>Zh x,[],[(false,1)],[(false,1)],[false],[]⟩
abbrev Zh.E :Env:=V.mkE V.tys [(4,QA.con),(5,Qa.con),(6,X0.con),(7,XH.con),(8,Xh.con),(9,Ue.con),(10,Yf.con),(11,Wu.con),(12,Xa.con),(13,W6.con),(14,XJ.con),(15,YE.con),(16,X7.con),(17,Xb.con),(18,X5.con),(19,US.con),(20,Wq.con),(21,WW.con),(22,YF.con),(23,Qv.con)] [(15,[0,3,4,5,6],[]),(21,[0,3,4,5,6,7],[]),(23,[0,3,4,5,6,7,84],[]),(29,[0],[]),(41,[10,11,12,14,15,16],[]),(49,[10,11,12],[])] [(5,11),(8,16),(21,3),(22,9)] [] [] []
abbrev Zh.kt (x0:List Int):Kt Bool:=ktOf Zh.E Zh.con Tryz.f3 ((x0):List Int)
abbrev Zh.s49 (y13:List Z8×Int×ByteArray):St:=⟨[(10, .v false [.val (.sl (.cons (.sl (.cons (.sl V.eSigned) (.cons (.sl V.eEntry) .nil))) (ci .nil)) y13.1)]),(11, .v false [.vi (y13.2.1)]),(12, .v false [.val (.str y13.2.2)])],[]⟩
abbrev Zh.s41 (y13:List Z8×Int×ByteArray)(y14:U7)(y15:Wf):St:=⟨[(10, .v false [.val (.sl (.cons (.sl (.cons (.sl V.eSigned) (.cons (.sl V.eEntry) .nil))) (ci .nil)) y13.1)]),(11, .v false [.vi (y13.2.1)]),(12, .v false [.val (.str y13.2.2)]),(14, .v false [.ptr 1024384 0]),(15, .v false [.ptr 1088384 0]),(16, .v false [.val (.bool y15.2.2)])],[(1024384, .box [.val (.sl V.eSigned y14.2.2.1), .val (.sl V.eEntry y14.2.2.2)]),(1088384, .box [.ref 64000000000069656576, .vi (y15.2.1)]),(64000000000069656576, .row (.cons (.sl V.eSigned) (.cons (.sl V.eEntry) .nil)) true y15.1)]⟩
abbrev Zh.s29 (x0:List Int):St:=⟨[(0, .v false [.val (.sl (.cons (.int .u8) .nil) x0)])],[]⟩
abbrev Zh.s23 (x0:List Int)(y2:Wk)(y3:Zk)(y8:Int)(eX:Bool):St:=⟨[(0, .v false [.val (.sl (.cons (.int .u8) .nil) x0)]),(3, .v false [.ptr 256384 0]),(4, .v false [.vi (y2.2.2.1)]),(5, .v false [.val (.str y2.2.2.2)]),(6, .v false [.ptr 320256 0]),(7, .v false [.vi (y8)]),(84, .v false [.val (.bool eX)])],[(256384, .box [.val (.sl (.cons (.sl V.eSigned) (.cons (.sl V.eEntry) .nil)) y2.1), .vi (y2.2.1)]),(320256, .box [.ref 64000000000020496384, .val (.bool y3.2.1), .val (.str y3.2.2.1), .vi (y3.2.2.2.1), .vi (y3.2.2.2.2.1), .ref 64000000000020496389, .vi (y3.2.2.2.2.2.2.1), .ref 64000000000020496391, .vi (y3.2.2.2.2.2.2.2.2.1), .val (.str y3.2.2.2.2.2.2.2.2.2.1), .vi (y3.2.2.2.2.2.2.2.2.2.2.1), .vi (y3.2.2.2.2.2.2.2.2.2.2.2.1), .ref 64000000000020496396, .val (.str y3.2.2.2.2.2.2.2.2.2.2.2.2.2.1), .vi (y3.2.2.2.2.2.2.2.2.2.2.2.2.2.2.1), .vi (y3.2.2.2.2.2.2.2.2.2.2.2.2.2.2.2.1), .ref 64000000000020496400, .vi (y3.2.2.2.2.2.2.2.2.2.2.2.2.2.2.2.2.2.1), .ref 64000000000020496402, .vi (y3.2.2.2.2.2.2.2.2.2.2.2.2.2.2.2.2.2.2.2.1), .ref 64000000000020496404]),(64000000000020496384, .row V.eSigned true y3.1),(64000000000020496389, .row (.cons .str .nil) true y3.2.2.2.2.2.1),(64000000000020496391, .row (ci .nil) true y3.2.2.2.2.2.2.2.1),(64000000000020496396, .row (.cons .str .nil) true y3.2.2.2.2.2.2.2.2.2.2.2.2.1),(64000000000020496400, .row (.cons .str .nil) true y3.2.2.2.2.2.2.2.2.2.2.2.2.2.2.2.2.1),(64000000000020496402, .row (ci .nil) true y3.2.2.2.2.2.2.2.2.2.2.2.2.2.2.2.2.2.2.1),(64000000000020496404, .row (ci .nil) true y3.2.2.2.2.2.2.2.2.2.2.2.2.2.2.2.2.2.2.2.2)]⟩
abbrev Zh.s21 (x0:List Int)(y2:Wk)(y3:Zk)(y8:Int):St:=⟨[(0, .v false [.val (.sl (.cons (.int .u8) .nil) x0)]),(3, .v false [.ptr 256384 0]),(4, .v false [.vi (y2.2.2.1)]),(5, .v false [.val (.str y2.2.2.2)]),(6, .v false [.ptr 320256 0]),(7, .v false [.vi (y8)])],[(256384, .box [.val (.sl (.cons (.sl V.eSigned) (.cons (.sl V.eEntry) .nil)) y2.1), .vi (y2.2.1)]),(320256, .box [.ref 64000000000020496384, .val (.bool y3.2.1), .val (.str y3.2.2.1), .vi (y3.2.2.2.1), .vi (y3.2.2.2.2.1), .ref 64000000000020496389, .vi (y3.2.2.2.2.2.2.1), .ref 64000000000020496391, .vi (y3.2.2.2.2.2.2.2.2.1), .val (.str y3.2.2.2.2.2.2.2.2.2.1), .vi (y3.2.2.2.2.2.2.2.2.2.2.1), .vi (y3.2.2.2.2.2.2.2.2.2.2.2.1), .ref 64000000000020496396, .val (.str y3.2.2.2.2.2.2.2.2.2.2.2.2.2.1), .vi (y3.2.2.2.2.2.2.2.2.2.2.2.2.2.2.1), .vi (y3.2.2.2.2.2.2.2.2.2.2.2.2.2.2.2.1), .ref 64000000000020496400, .vi (y3.2.2.2.2.2.2.2.2.2.2.2.2.2.2.2.2.2.1), .ref 64000000000020496402, .vi (y3.2.2.2.2.2.2.2.2.2.2.2.2.2.2.2.2.2.2.2.1), .ref 64000000000020496404]),(64000000000020496384, .row V.eSigned true y3.1),(64000000000020496389, .row (.cons .str .nil) true y3.2.2.2.2.2.1),(64000000000020496391, .row (ci .nil) true y3.2.2.2.2.2.2.2.1),(64000000000020496396, .row (.cons .str .nil) true y3.2.2.2.2.2.2.2.2.2.2.2.2.1),(64000000000020496400, .row (.cons .str .nil) true y3.2.2.2.2.2.2.2.2.2.2.2.2.2.2.2.2.1),(64000000000020496402, .row (ci .nil) true y3.2.2.2.2.2.2.2.2.2.2.2.2.2.2.2.2.2.2.1),(64000000000020496404, .row (ci .nil) true y3.2.2.2.2.2.2.2.2.2.2.2.2.2.2.2.2.2.2.2.2)]⟩
abbrev Zh.s15 (x0:List Int)(y2:Wk)(y3:Zk):St:=⟨[(0, .v false [.val (.sl (.cons (.int .u8) .nil) x0)]),(3, .v false [.ptr 256384 0]),(4, .v false [.vi (y2.2.2.1)]),(5, .v false [.val (.str y2.2.2.2)]),(6, .v false [.ptr 320256 0])],[(256384, .box [.val (.sl (.cons (.sl V.eSigned) (.cons (.sl V.eEntry) .nil)) y2.1), .vi (y2.2.1)]),(320256, .box [.ref 64000000000020496384, .val (.bool y3.2.1), .val (.str y3.2.2.1), .vi (y3.2.2.2.1), .vi (y3.2.2.2.2.1), .ref 64000000000020496389, .vi (y3.2.2.2.2.2.2.1), .ref 64000000000020496391, .vi (y3.2.2.2.2.2.2.2.2.1), .val (.str y3.2.2.2.2.2.2.2.2.2.1), .vi (y3.2.2.2.2.2.2.2.2.2.2.1), .vi (y3.2.2.2.2.2.2.2.2.2.2.2.1), .ref 64000000000020496396, .val (.str y3.2.2.2.2.2.2.2.2.2.2.2.2.2.1), .vi (y3.2.2.2.2.2.2.2.2.2.2.2.2.2.2.1), .vi (y3.2.2.2.2.2.2.2.2.2.2.2.2.2.2.2.1), .ref 64000000000020496400, .vi (y3.2.2.2.2.2.2.2.2.2.2.2.2.2.2.2.2.2.1), .ref 64000000000020496402, .vi (y3.2.2.2.2.2.2.2.2.2.2.2.2.2.2.2.2.2.2.2.1), .ref 64000000000020496404]),(64000000000020496384, .row V.eSigned true y3.1),(64000000000020496389, .row (.cons .str .nil) true y3.2.2.2.2.2.1),(64000000000020496391, .row (ci .nil) true y3.2.2.2.2.2.2.2.1),(64000000000020496396, .row (.cons .str .nil) true y3.2.2.2.2.2.2.2.2.2.2.2.2.1),(64000000000020496400, .row (.cons .str .nil) true y3.2.2.2.2.2.2.2.2.2.2.2.2.2.2.2.2.1),(64000000000020496402, .row (ci .nil) true y3.2.2.2.2.2.2.2.2.2.2.2.2.2.2.2.2.2.2.1),(64000000000020496404, .row (ci .nil) true y3.2.2.2.2.2.2.2.2.2.2.2.2.2.2.2.2.2.2.2.2)]⟩
theorem Zh.r49 (x0:List Int)(y13:List Z8×Int×ByteArray):joinF Zh.E Tryz.f3.ntmps [1,1,1,1,1,1,1,1,1,1,1,1] [] (codeOf Tryz.f3) (Zh.kt x0) (Zh.s49 y13)=Zh.g49 y13:=by kernel_rfl
theorem Zh.e49 (x0:List Int)(y13:List Z8×Int×ByteArray):jn (joinF Zh.E Tryz.f3.ntmps [1,1,1,1,1,1,1,1,1,1,1,1] [] (codeOf Tryz.f3) (Zh.kt x0)) (Zh.s49 y13)=Zh.l49 y13:=by
 rw[jn_eq,Zh.r49]
 rfl
theorem Zh.r41 (x0:List Int)(y13:List Z8×Int×ByteArray)(y14:U7)(y15:Wf):joinF Zh.E Tryz.f3.ntmps [1,1,1,1,1,1,1,1,1,1,1] [] (codeOf Tryz.f3) (Zh.kt x0) (Zh.s41 y13 y14 y15)=Zh.g41 y13 y14 y15 (λy13=>jn (joinF Zh.E Tryz.f3.ntmps [1,1,1,1,1,1,1,1,1,1,1,1] [] (codeOf Tryz.f3) (Zh.kt x0)) (Zh.s49 y13)):=by kernel_rfl
theorem Zh.e41 (x0:List Int)(y13:List Z8×Int×ByteArray)(y14:U7)(y15:Wf):jn (joinF Zh.E Tryz.f3.ntmps [1,1,1,1,1,1,1,1,1,1,1] [] (codeOf Tryz.f3) (Zh.kt x0)) (Zh.s41 y13 y14 y15)=Zh.l41 y13 y14 y15:=by
 rw[jn_eq,Zh.r41]
 simp only[Zh.e49]
 rfl
theorem Zh.r29 (x0:List Int):joinF Zh.E Tryz.f3.ntmps [1,1,1,1,1,1,1] [] (codeOf Tryz.f3) (Zh.kt x0) (Zh.s29 x0)=Zh.g29 x0 (λy13 y14 y15=>jn (joinF Zh.E Tryz.f3.ntmps [1,1,1,1,1,1,1,1,1,1,1] [] (codeOf Tryz.f3) (Zh.kt x0)) (Zh.s41 y13 y14 y15)):=by kernel_rfl
theorem Zh.e29 (x0:List Int):jn (joinF Zh.E Tryz.f3.ntmps [1,1,1,1,1,1,1] [] (codeOf Tryz.f3) (Zh.kt x0)) (Zh.s29 x0)=Zh.l29 x0:=by
 rw[jn_eq,Zh.r29]
 simp only[Zh.e41]
 rfl
theorem Zh.r23 (x0:List Int)(y2:Wk)(y3:Zk)(y8:Int)(eX:Bool):joinF Zh.E Tryz.f3.ntmps [1,1,1,1,1,1,1,0] [] (codeOf Tryz.f3) (Zh.kt x0) (Zh.s23 x0 y2 y3 y8 eX)=Zh.g23 x0 y2 y3 y8 (jn (joinF Zh.E Tryz.f3.ntmps [1,1,1,1,1,1,1] [] (codeOf Tryz.f3) (Zh.kt x0)) (Zh.s29 x0)) eX:=by kernel_rfl
theorem Zh.e23 (x0:List Int)(y2:Wk)(y3:Zk)(y8:Int)(eX:Bool):jn (joinF Zh.E Tryz.f3.ntmps [1,1,1,1,1,1,1,0] [] (codeOf Tryz.f3) (Zh.kt x0)) (Zh.s23 x0 y2 y3 y8 eX)=Zh.l23 x0 y2 y3 y8 eX:=by
 rw[jn_eq,Zh.r23]
 simp only[Zh.e29]
 rfl
theorem Zh.r21 (x0:List Int)(y2:Wk)(y3:Zk)(y8:Int):joinF Zh.E Tryz.f3.ntmps [1,1,1,1,1,1] [] (codeOf Tryz.f3) (Zh.kt x0) (Zh.s21 x0 y2 y3 y8)=Zh.g21 x0 y2 y3 y8 (λy2 y3 y8 eX=>jn (joinF Zh.E Tryz.f3.ntmps [1,1,1,1,1,1,1,0] [] (codeOf Tryz.f3) (Zh.kt x0)) (Zh.s23 x0 y2 y3 y8 eX)):=by kernel_rfl
theorem Zh.e21 (x0:List Int)(y2:Wk)(y3:Zk)(y8:Int):jn (joinF Zh.E Tryz.f3.ntmps [1,1,1,1,1,1] [] (codeOf Tryz.f3) (Zh.kt x0)) (Zh.s21 x0 y2 y3 y8)=Zh.l21 x0 y2 y3 y8:=by
 rw[jn_eq,Zh.r21]
 simp only[Zh.e23]
 rfl
theorem Zh.r15 (x0:List Int)(y2:Wk)(y3:Zk):joinF Zh.E Tryz.f3.ntmps [1,1,1,1] [] (codeOf Tryz.f3) (Zh.kt x0) (Zh.s15 x0 y2 y3)=Zh.g15 x0 y2 y3 (λy2 y3 y8=>jn (joinF Zh.E Tryz.f3.ntmps [1,1,1,1,1,1] [] (codeOf Tryz.f3) (Zh.kt x0)) (Zh.s21 x0 y2 y3 y8)):=by kernel_rfl
theorem Zh.e15 (x0:List Int)(y2:Wk)(y3:Zk):jn (joinF Zh.E Tryz.f3.ntmps [1,1,1,1] [] (codeOf Tryz.f3) (Zh.kt x0)) (Zh.s15 x0 y2 y3)=Zh.l15 x0 y2 y3:=by
 rw[jn_eq,Zh.r15]
 simp only[Zh.e21]
 rfl
theorem Zh.v (x0:List Int):V.evBody Zh.E Zh.con Tryz.f3 ((x0):List Int)=Zh.b x0 (λy2 y3=>jn (joinF Zh.E Tryz.f3.ntmps [1,1,1,1] [] (codeOf Tryz.f3) (Zh.kt x0)) (Zh.s15 x0 y2 y3)):=by kernel_rfl
theorem Zh.eq (x0:List Int):V.evBody Zh.E Zh.con Tryz.f3 ((x0):List Int)=Zh x0:=by
 rw[Zh.v]
 simp only[Zh.e15]
 rfl
theorem Zh.ok :V.Valid prog 3 Zh.con:=
 V.fo (tab_cons QA.ok (tab_cons Qa.ok (tab_cons X0.ok (tab_cons XH.ok (tab_cons Xh.ok (tab_cons Ue.ok (tab_cons Yf.ok (tab_cons Wu.ok (tab_cons Xa.ok (tab_cons W6.ok (tab_cons XJ.ok (tab_cons YE.ok (tab_cons X7.ok (tab_cons Xb.ok (tab_cons X5.ok (tab_cons US.ok (tab_cons Wq.ok (tab_cons WW.ok (tab_cons YF.ok (tab_cons Qv.ok tab_nil)))))))))))))))))))) func3 (by kernel_rfl) (λx y h=>(show V.evBody Zh.E Zh.con Tryz.f3 x=_ from Zh.eq x).trans (V.cfl (by kernel_rfl) h))
end Go.Proofs.YtcbeaoigenjoeaaGreat.V
