/- That the functions compute it, part 1. -/
import Derived.Test.YtcbeaoigenjoeadGreatFnForksWalk0
namespace Go.Proofs.YtcbeaoigenjoeadGreat
set_option linter.unusedVariables false
set_option maxRecDepth 100000
noncomputable abbrev Xd.con :V.Con:=⟨V.A5,(V.ci .nil),fun(x:V.D5)=>Xd (V.p5_0 x) (V.p5_1 x),[],[(true,16),(true,17)],[(false,1)],[false],[]⟩
noncomputable abbrev Xd.E :V.Env:=V.mkE V.tys [(81,YM.con)] [] [] [] [] []
noncomputable abbrev Xd.kt (x0:Z4)(x1:Z0):V.Kt Int:=V.ktOf Xd.E Xd.con Tryz.f121 (V.fl5 x0 x1)
noncomputable abbrev Xd.s (x0:Z4)(x1:Z0):V.St:=⟨[(0, .v true (V.lsHead x0)),(1, .v true (V.lsSigned x1))],[]⟩
theorem Xd.v0 (x0:Z4)(x1:Z0):V.evBody Xd.E Xd.con Tryz.f121 (V.fl5 x0 x1)=V.evC Xd.E Tryz.f121.ntmps (V.codeOf Tryz.f121) (Xd.kt x0 x1) (Xd.s x0 x1):=by kernel_rfl
theorem Xd.v (x0:Z4)(x1:Z0):V.evC Xd.E Tryz.f121.ntmps (V.codeOf Tryz.f121) (Xd.kt x0 x1) (Xd.s x0 x1)=Xd x0 x1:=by kernel_rfl
theorem Xd.eq (x0:Z4)(x1:Z0):V.evBody Xd.E Xd.con Tryz.f121 (V.fl5 x0 x1)=Xd x0 x1:=(Xd.v0 x0 x1).trans (Xd.v x0 x1)
theorem Xd.ok :V.Valid Tryz.prog 121 Xd.con:=
 V.fo (V.tab_cons YM.ok V.tab_nil) Tryz.func121 (by kernel_rfl) (fun x y h=>(show V.evBody Xd.E Xd.con Tryz.f121 x=_ from Xd.eq (V.p5_0 x) (V.p5_1 x)).trans (V.cfl (by kernel_rfl) h))
noncomputable abbrev ZM.con :V.Con:=⟨(.cons (.sl (V.ci .nil)) (.cons (.sl (V.ci .nil)) .nil)),(.cons .bool .nil),fun(x:List Int×List Int)=>ZM x.1 x.2,[],[(false,1),(false,1)],[(false,1)],[false],[]⟩
noncomputable abbrev ZM.E :V.Env:=V.mkE V.tys [] [(8,[0,1,12,13],[])] [(6,8)] [] [] []
noncomputable abbrev ZM.kt (x0:List Int)(x1:List Int):V.Kt Bool:=V.ktOf ZM.E ZM.con Tryz.f62 ((x0,x1):List Int×List Int)
noncomputable abbrev ZM.s8 (x0:List Int)(x1:List Int)(v8_2:Int)(v8_3:Int):V.St:=⟨[(0, .v false [.val (.sl (V.ci .nil) x0)]),(1, .v false [.val (.sl (V.ci .nil) x1)]),(12, .v false [.vi (v8_2)]),(13, .v false [.vi (v8_3)])],[]⟩
theorem ZM.r8 (x0:List Int)(x1:List Int)(R:V.St→Option Bool)(v8_2:Int)(v8_3:Int):V.loopF ZM.E Tryz.f62.ntmps [1,1,0,1,0] [] (V.codeOf Tryz.f62) (ZM.kt x0 x1) R (ZM.s8 x0 x1 v8_2 v8_3)=ZM.g8 x0 x1 (fun v8_2 v8_3=>R (ZM.s8 x0 x1 v8_2 v8_3)) v8_2 v8_3:=by kernel_rfl
theorem ZM.e8 (x0:List Int)(x1:List Int):∀(n:Nat) (v8_2:Int) (v8_3:Int),V.loopN (V.loopF ZM.E Tryz.f62.ntmps [1,1,0,1,0] [] (V.codeOf Tryz.f62) (ZM.kt x0 x1)) n (ZM.s8 x0 x1 v8_2 v8_3)=ZM.l8 x0 x1 n v8_2 v8_3:=by
 intro n
 induction n with
 |zero=>intros;rw[V.loopN_z];rfl
 |succ n ih=>
  intro v8_2 v8_3
  rw[V.loopN_s,ZM.r8]
  simp only[ih]
  first|exact(ZM.u8 ..).symm|rfl
theorem ZM.v (x0:List Int)(x1:List Int):V.evBody ZM.E ZM.con Tryz.f62 ((x0,x1):List Int×List Int)=ZM.b x0 x1 (fun v8_2 v8_3=>V.loopN (V.loopF ZM.E Tryz.f62.ntmps [1,1,0,1,0] [] (V.codeOf Tryz.f62) (ZM.kt x0 x1)) V.KK (ZM.s8 x0 x1 v8_2 v8_3)):=by kernel_rfl
theorem ZM.eq (x0:List Int)(x1:List Int):V.evBody ZM.E ZM.con Tryz.f62 ((x0,x1):List Int×List Int)=ZM x0 x1:=by
 rw[ZM.v]
 simp only[ZM.e8]
 rfl
theorem ZM.ok :V.Valid Tryz.prog 62 ZM.con:=
 V.fo V.tab_nil Tryz.func62 (by kernel_rfl) (fun x y h=>(show V.evBody ZM.E ZM.con Tryz.f62 x=_ from ZM.eq x.1 x.2).trans (V.cfl (by kernel_rfl) h))
noncomputable abbrev Xh.con :V.Con:=⟨(.cons (.sl (V.ci .nil)) (V.ci (.cons (.sl (V.ci .nil)) (V.ci .nil)))),(.cons .bool .nil),fun(x:List Int×Int×List Int×Int)=>Xh (x.1,x.2.1) x.2.2,[],[(true,2),(true,2)],[(false,1)],[false],[]⟩
noncomputable abbrev Xh.E :V.Env:=V.mkE V.tys [(62,ZM.con)] [] [] [] [] []
theorem Xh.eq (x0:Z8)(x1:Z8):V.evBody Xh.E Xh.con Tryz.f61 ((x0.1,x0.2,x1.1,x1.2):List Int×Int×List Int×Int)=Xh x0 x1:=by kernel_rfl
theorem Xh.ok :V.Valid Tryz.prog 61 Xh.con:=
 V.fo (V.tab_cons ZM.ok V.tab_nil) Tryz.func61 (by kernel_rfl) (fun x y h=>(show V.evBody Xh.E Xh.con Tryz.f61 x=_ from Xh.eq (x.1,x.2.1) x.2.2).trans (V.cfl (by kernel_rfl) h))
noncomputable abbrev X2.con :V.Con:=⟨V.A4,(.cons .bool .nil),fun(x:V.D4)=>X2 (V.p4_0 x) (V.p4_1 x),[],[(true,16),(true,16)],[(false,1)],[false],[]⟩
noncomputable abbrev X2.E :V.Env:=V.mkE V.tys [] [] [] [] [] []
noncomputable abbrev X2.kt (x0:Z4)(x1:Z4):V.Kt Bool:=V.ktOf X2.E X2.con Tryz.f153 (V.fl4 x0 x1)
noncomputable abbrev X2.s (x0:Z4)(x1:Z4):V.St:=⟨[(0, .v true (V.lsHead x0)),(1, .v true (V.lsHead x1))],[]⟩
theorem X2.v0 (x0:Z4)(x1:Z4):V.evBody X2.E X2.con Tryz.f153 (V.fl4 x0 x1)=V.evC X2.E Tryz.f153.ntmps (V.codeOf Tryz.f153) (X2.kt x0 x1) (X2.s x0 x1):=by kernel_rfl
theorem X2.v (x0:Z4)(x1:Z4):V.evC X2.E Tryz.f153.ntmps (V.codeOf Tryz.f153) (X2.kt x0 x1) (X2.s x0 x1)=X2 x0 x1:=by kernel_rfl
theorem X2.eq (x0:Z4)(x1:Z4):V.evBody X2.E X2.con Tryz.f153 (V.fl4 x0 x1)=X2 x0 x1:=(X2.v0 x0 x1).trans (X2.v x0 x1)
theorem X2.ok :V.Valid Tryz.prog 153 X2.con:=
 V.fo V.tab_nil Tryz.func153 (by kernel_rfl) (fun x y h=>(show V.evBody X2.E X2.con Tryz.f153 x=_ from X2.eq (V.p4_0 x) (V.p4_1 x)).trans (V.cfl (by kernel_rfl) h))
noncomputable abbrev Zw.con :V.Con:=⟨V.A5,(V.ci .nil),fun(x:V.D5)=>Zw (V.p5_0 x) (V.p5_1 x),[],[(true,16),(true,17)],[(false,1)],[false],[]⟩
noncomputable abbrev Zw.E :V.Env:=V.mkE V.tys [(61,Xh.con),(81,YM.con),(117,Xi.con),(153,X2.con)] [(11,[2,3,5,11],[]),(15,[2,3,25],[])] [] [] [] []
noncomputable abbrev Zw.kt (x0:Z4)(x1:Z0):V.Kt Int:=V.ktOf Zw.E Zw.con Tryz.f122 (V.fl5 x0 x1)
noncomputable abbrev Zw.s15 (x0:Z4)(x1:Z0)(v15_0:Bool):V.St:=⟨[(2, .v false [.ptr 64000 0]),(3, .v false [.ptr 64064 0]),(25, .v false [.val (.bool v15_0)])],[(64000, .box (V.lsHead x0)),(64064, .box (V.lsSigned x1))]⟩
noncomputable abbrev Zw.s11 (x0:Z4)(x1:Z0)(v11_0:Bool):V.St:=⟨[(2, .v false [.ptr 64000 0]),(3, .v false [.ptr 64064 0]),(5, .v false [.ptr 128128 0]),(11, .v false [.val (.bool v11_0)])],[(64000, .box (V.lsHead x0)),(64064, .box (V.lsSigned x1)),(128128, .box [.vi (x1.1), .vi (x1.2.1), .vi (x1.2.2.1), .vi (x1.2.2.2.1), .vi (x1.2.2.2.2.1), .vi (x1.2.2.2.2.2.1), .vi (x1.2.2.2.2.2.2.1), .vi (x1.2.2.2.2.2.2.2.1), .val (.sl (V.ci .nil) x1.2.2.2.2.2.2.2.2.1), .vi (x1.2.2.2.2.2.2.2.2.2.1), .val (.sl (V.ci .nil) x1.2.2.2.2.2.2.2.2.2.2.1), .vi (x1.2.2.2.2.2.2.2.2.2.2.2.1), .vi (x1.2.2.2.2.2.2.2.2.2.2.2.2.1), .val (.sl (V.ci .nil) x1.2.2.2.2.2.2.2.2.2.2.2.2.2.1), .vi (x1.2.2.2.2.2.2.2.2.2.2.2.2.2.2.1), .val (.bool x1.2.2.2.2.2.2.2.2.2.2.2.2.2.2.2.1)])]⟩
theorem Zw.r15 (x0:Z4)(x1:Z0)(v15_0:Bool):V.joinF Zw.E Tryz.f122.ntmps [1,1,0,0,1,1,1,1] [] (V.codeOf Tryz.f122) (Zw.kt x0 x1) (Zw.s15 x0 x1 v15_0)=Zw.g15 x0 x1 v15_0:=by kernel_rfl
theorem Zw.e15 (x0:Z4)(x1:Z0)(v15_0:Bool):V.jn (V.joinF Zw.E Tryz.f122.ntmps [1,1,0,0,1,1,1,1] [] (V.codeOf Tryz.f122) (Zw.kt x0 x1)) (Zw.s15 x0 x1 v15_0)=Zw.l15 x0 x1 v15_0:=by
 rw[V.jn_eq,Zw.r15]
 rfl
theorem Zw.r11 (x0:Z4)(x1:Z0)(v11_0:Bool):V.joinF Zw.E Tryz.f122.ntmps [1,1,0,0,1,1] [] (V.codeOf Tryz.f122) (Zw.kt x0 x1) (Zw.s11 x0 x1 v11_0)=Zw.g11 x0 x1 (fun v15_0=>V.jn (V.joinF Zw.E Tryz.f122.ntmps [1,1,0,0,1,1,1,1] [] (V.codeOf Tryz.f122) (Zw.kt x0 x1)) (Zw.s15 x0 x1 v15_0)) v11_0:=by kernel_rfl
theorem Zw.e11 (x0:Z4)(x1:Z0)(v11_0:Bool):V.jn (V.joinF Zw.E Tryz.f122.ntmps [1,1,0,0,1,1] [] (V.codeOf Tryz.f122) (Zw.kt x0 x1)) (Zw.s11 x0 x1 v11_0)=Zw.l11 x0 x1 v11_0:=by
 rw[V.jn_eq,Zw.r11]
 simp only[Zw.e15]
 rfl
noncomputable abbrev Zw.s (x0:Z4)(x1:Z0):V.St:=⟨[(0, .v true (V.lsHead x0)),(1, .v true (V.lsSigned x1))],[]⟩
theorem Zw.v0 (x0:Z4)(x1:Z0):V.evBody Zw.E Zw.con Tryz.f122 (V.fl5 x0 x1)=V.evC Zw.E Tryz.f122.ntmps (V.codeOf Tryz.f122) (Zw.kt x0 x1) (Zw.s x0 x1):=by kernel_rfl
theorem Zw.v (x0:Z4)(x1:Z0):V.evC Zw.E Tryz.f122.ntmps (V.codeOf Tryz.f122) (Zw.kt x0 x1) (Zw.s x0 x1)=Zw.b x0 x1 (fun v11_0=>V.jn (V.joinF Zw.E Tryz.f122.ntmps [1,1,0,0,1,1] [] (V.codeOf Tryz.f122) (Zw.kt x0 x1)) (Zw.s11 x0 x1 v11_0)):=by kernel_rfl
theorem Zw.eq (x0:Z4)(x1:Z0):V.evBody Zw.E Zw.con Tryz.f122 (V.fl5 x0 x1)=Zw x0 x1:=by
 rw[Zw.v0,Zw.v]
 simp only[Zw.e11]
 rfl
theorem Zw.ok :V.Valid Tryz.prog 122 Zw.con:=
 V.fo (V.tab_cons Xh.ok (V.tab_cons YM.ok (V.tab_cons Xi.ok (V.tab_cons X2.ok V.tab_nil)))) Tryz.func122 (by kernel_rfl) (fun x y h=>(show V.evBody Zw.E Zw.con Tryz.f122 x=_ from Zw.eq (V.p5_0 x) (V.p5_1 x)).trans (V.cfl (by kernel_rfl) h))
noncomputable abbrev Zx.con :V.Con:=⟨V.A5,(V.ci .nil),fun(x:V.D5)=>Zx (V.p5_0 x) (V.p5_1 x),[],[(true,16),(true,17)],[(false,1)],[false],[]⟩
noncomputable abbrev Zx.E :V.Env:=V.mkE V.tys [(61,Xh.con),(81,YM.con),(117,Xi.con),(153,X2.con)] [(7,[2,3,5,6],[]),(13,[2,3,37],[])] [] [] [] []
noncomputable abbrev Zx.kt (x0:Z4)(x1:Z0):V.Kt Int:=V.ktOf Zx.E Zx.con Tryz.f123 (V.fl5 x0 x1)
noncomputable abbrev Zx.s13 (x0:Z4)(x1:Z0)(v13_0:Bool):V.St:=⟨[(2, .v false [.ptr 64000 0]),(3, .v false [.ptr 64064 0]),(37, .v false [.val (.bool v13_0)])],[(64000, .box (V.lsHead x0)),(64064, .box (V.lsSigned x1))]⟩
noncomputable abbrev Zx.s7 (x0:Z4)(x1:Z0)(v7_0:Bool):V.St:=⟨[(2, .v false [.ptr 64000 0]),(3, .v false [.ptr 64064 0]),(5, .v false [.ptr 128128 0]),(6, .v false [.val (.bool v7_0)])],[(64000, .box (V.lsHead x0)),(64064, .box (V.lsSigned x1)),(128128, .box [.vi (x1.1), .vi (x1.2.1), .vi (x1.2.2.1), .vi (x1.2.2.2.1), .vi (x1.2.2.2.2.1), .vi (x1.2.2.2.2.2.1), .vi (x1.2.2.2.2.2.2.1), .vi (x1.2.2.2.2.2.2.2.1), .val (.sl (V.ci .nil) x1.2.2.2.2.2.2.2.2.1), .vi (x1.2.2.2.2.2.2.2.2.2.1), .val (.sl (V.ci .nil) x1.2.2.2.2.2.2.2.2.2.2.1), .vi (x1.2.2.2.2.2.2.2.2.2.2.2.1), .vi (x1.2.2.2.2.2.2.2.2.2.2.2.2.1), .val (.sl (V.ci .nil) x1.2.2.2.2.2.2.2.2.2.2.2.2.2.1), .vi (x1.2.2.2.2.2.2.2.2.2.2.2.2.2.2.1), .val (.bool x1.2.2.2.2.2.2.2.2.2.2.2.2.2.2.2.1)])]⟩
theorem Zx.r13 (x0:Z4)(x1:Z0)(v13_0:Bool):V.joinF Zx.E Tryz.f123.ntmps [1,1,1,0,0,1,1] [] (V.codeOf Tryz.f123) (Zx.kt x0 x1) (Zx.s13 x0 x1 v13_0)=Zx.g13 x0 x1 v13_0:=by kernel_rfl
theorem Zx.e13 (x0:Z4)(x1:Z0)(v13_0:Bool):V.jn (V.joinF Zx.E Tryz.f123.ntmps [1,1,1,0,0,1,1] [] (V.codeOf Tryz.f123) (Zx.kt x0 x1)) (Zx.s13 x0 x1 v13_0)=Zx.l13 x0 x1 v13_0:=by
 rw[V.jn_eq,Zx.r13]
 rfl
theorem Zx.r7 (x0:Z4)(x1:Z0)(v7_0:Bool):V.joinF Zx.E Tryz.f123.ntmps [1,1] [] (V.codeOf Tryz.f123) (Zx.kt x0 x1) (Zx.s7 x0 x1 v7_0)=Zx.g7 x0 x1 (fun v13_0=>V.jn (V.joinF Zx.E Tryz.f123.ntmps [1,1,1,0,0,1,1] [] (V.codeOf Tryz.f123) (Zx.kt x0 x1)) (Zx.s13 x0 x1 v13_0)) v7_0:=by kernel_rfl
theorem Zx.e7 (x0:Z4)(x1:Z0)(v7_0:Bool):V.jn (V.joinF Zx.E Tryz.f123.ntmps [1,1] [] (V.codeOf Tryz.f123) (Zx.kt x0 x1)) (Zx.s7 x0 x1 v7_0)=Zx.l7 x0 x1 v7_0:=by
 rw[V.jn_eq,Zx.r7]
 simp only[Zx.e13]
 rfl
noncomputable abbrev Zx.s (x0:Z4)(x1:Z0):V.St:=⟨[(0, .v true (V.lsHead x0)),(1, .v true (V.lsSigned x1))],[]⟩
theorem Zx.v0 (x0:Z4)(x1:Z0):V.evBody Zx.E Zx.con Tryz.f123 (V.fl5 x0 x1)=V.evC Zx.E Tryz.f123.ntmps (V.codeOf Tryz.f123) (Zx.kt x0 x1) (Zx.s x0 x1):=by kernel_rfl
theorem Zx.v (x0:Z4)(x1:Z0):V.evC Zx.E Tryz.f123.ntmps (V.codeOf Tryz.f123) (Zx.kt x0 x1) (Zx.s x0 x1)=Zx.b x0 x1 (fun v7_0=>V.jn (V.joinF Zx.E Tryz.f123.ntmps [1,1] [] (V.codeOf Tryz.f123) (Zx.kt x0 x1)) (Zx.s7 x0 x1 v7_0)):=by kernel_rfl
theorem Zx.eq (x0:Z4)(x1:Z0):V.evBody Zx.E Zx.con Tryz.f123 (V.fl5 x0 x1)=Zx x0 x1:=by
 rw[Zx.v0,Zx.v]
 simp only[Zx.e7]
 rfl
theorem Zx.ok :V.Valid Tryz.prog 123 Zx.con:=
 V.fo (V.tab_cons Xh.ok (V.tab_cons YM.ok (V.tab_cons Xi.ok (V.tab_cons X2.ok V.tab_nil)))) Tryz.func123 (by kernel_rfl) (fun x y h=>(show V.evBody Zx.E Zx.con Tryz.f123 x=_ from Zx.eq (V.p5_0 x) (V.p5_1 x)).trans (V.cfl (by kernel_rfl) h))
noncomputable abbrev ZV.con :V.Con:=⟨V.A5,(V.ci .nil),fun(x:V.D5)=>ZV (V.p5_0 x) (V.p5_1 x),[],[(true,16),(true,17)],[(false,1)],[false],[]⟩
noncomputable abbrev ZV.E :V.Env:=V.mkE V.tys [(79,YX.con),(120,Xc.con),(121,Xd.con),(122,Zw.con),(123,Zx.con)] [(5,[2,3,5],[])] [] [] [] []
noncomputable abbrev ZV.kt (x0:Z4)(x1:Z0):V.Kt Int:=V.ktOf ZV.E ZV.con Tryz.f82 (V.fl5 x0 x1)
noncomputable abbrev ZV.s5 (x0:Z4)(x1:Z0)(v5_0:Bool):V.St:=⟨[(2, .v false [.ptr 64000 0]),(3, .v false [.ptr 64064 0]),(5, .v false [.val (.bool v5_0)])],[(64000, .box (V.lsHead x0)),(64064, .box (V.lsSigned x1))]⟩
theorem ZV.r5 (x0:Z4)(x1:Z0)(v5_0:Bool):V.joinF ZV.E Tryz.f82.ntmps [1,0,0] [] (V.codeOf Tryz.f82) (ZV.kt x0 x1) (ZV.s5 x0 x1 v5_0)=ZV.g5 x0 x1 v5_0:=by kernel_rfl
theorem ZV.e5 (x0:Z4)(x1:Z0)(v5_0:Bool):V.jn (V.joinF ZV.E Tryz.f82.ntmps [1,0,0] [] (V.codeOf Tryz.f82) (ZV.kt x0 x1)) (ZV.s5 x0 x1 v5_0)=ZV.l5 x0 x1 v5_0:=by
 rw[V.jn_eq,ZV.r5]
 rfl
noncomputable abbrev ZV.s (x0:Z4)(x1:Z0):V.St:=⟨[(0, .v true (V.lsHead x0)),(1, .v true (V.lsSigned x1))],[]⟩
theorem ZV.v0 (x0:Z4)(x1:Z0):V.evBody ZV.E ZV.con Tryz.f82 (V.fl5 x0 x1)=V.evC ZV.E Tryz.f82.ntmps (V.codeOf Tryz.f82) (ZV.kt x0 x1) (ZV.s x0 x1):=by kernel_rfl
theorem ZV.v (x0:Z4)(x1:Z0):V.evC ZV.E Tryz.f82.ntmps (V.codeOf Tryz.f82) (ZV.kt x0 x1) (ZV.s x0 x1)=ZV.b x0 x1 (fun v5_0=>V.jn (V.joinF ZV.E Tryz.f82.ntmps [1,0,0] [] (V.codeOf Tryz.f82) (ZV.kt x0 x1)) (ZV.s5 x0 x1 v5_0)):=by kernel_rfl
theorem ZV.eq (x0:Z4)(x1:Z0):V.evBody ZV.E ZV.con Tryz.f82 (V.fl5 x0 x1)=ZV x0 x1:=by
 rw[ZV.v0,ZV.v]
 simp only[ZV.e5]
 rfl
theorem ZV.ok :V.Valid Tryz.prog 82 ZV.con:=
 V.fo (V.tab_cons YX.ok (V.tab_cons Xc.ok (V.tab_cons Xd.ok (V.tab_cons Zw.ok (V.tab_cons Zx.ok V.tab_nil))))) Tryz.func82 (by kernel_rfl) (fun x y h=>(show V.evBody ZV.E ZV.con Tryz.f82 x=_ from ZV.eq (V.p5_0 x) (V.p5_1 x)).trans (V.cfl (by kernel_rfl) h))
noncomputable abbrev YY.con :V.Con:=⟨V.A5,(.cons .bool .nil),fun(x:V.D5)=>YY (V.p5_0 x) (V.p5_1 x),[],[(true,16),(true,17)],[(false,1)],[false],[]⟩
noncomputable abbrev YY.E :V.Env:=V.mkE V.tys [(82,ZV.con)] [] [] [] [] []
noncomputable abbrev YY.kt (x0:Z4)(x1:Z0):V.Kt Bool:=V.ktOf YY.E YY.con Tryz.f43 (V.fl5 x0 x1)
noncomputable abbrev YY.s (x0:Z4)(x1:Z0):V.St:=⟨[(0, .v true (V.lsHead x0)),(1, .v true (V.lsSigned x1))],[]⟩
theorem YY.v0 (x0:Z4)(x1:Z0):V.evBody YY.E YY.con Tryz.f43 (V.fl5 x0 x1)=V.evC YY.E Tryz.f43.ntmps (V.codeOf Tryz.f43) (YY.kt x0 x1) (YY.s x0 x1):=by kernel_rfl
theorem YY.v (x0:Z4)(x1:Z0):V.evC YY.E Tryz.f43.ntmps (V.codeOf Tryz.f43) (YY.kt x0 x1) (YY.s x0 x1)=YY x0 x1:=by kernel_rfl
theorem YY.eq (x0:Z4)(x1:Z0):V.evBody YY.E YY.con Tryz.f43 (V.fl5 x0 x1)=YY x0 x1:=(YY.v0 x0 x1).trans (YY.v x0 x1)
theorem YY.ok :V.Valid Tryz.prog 43 YY.con:=
 V.fo (V.tab_cons ZV.ok V.tab_nil) Tryz.func43 (by kernel_rfl) (fun x y h=>(show V.evBody YY.E YY.con Tryz.f43 x=_ from YY.eq (V.p5_0 x) (V.p5_1 x)).trans (V.cfl (by kernel_rfl) h))
noncomputable abbrev Y4.con :V.Con:=⟨(.cons (.sl V.eSigned) .nil),(V.ci .nil),fun(x:List Z0)=>Y4 x,[],[(false,1)],[(false,1)],[false],[]⟩
noncomputable abbrev Y4.E :V.Env:=V.mkE V.tys [(42,YW.con),(43,YY.con)] [(4,[0,5,6,7],[])] [(4,18)] [] [] []
noncomputable abbrev Y4.kt (x0:List Z0):V.Kt Int:=V.ktOf Y4.E Y4.con Tryz.f60 ((x0):List Z0)
noncomputable abbrev Y4.s4 (x0:List Z0)(v4_2:Int)(v4_3:Int):V.St:=⟨[(0, .v false [.val (.sl V.eSigned x0)]),(5, .v false [.val (.sl V.eSigned x0)]),(6, .v false [.vi (v4_2)]),(7, .v false [.vi (v4_3)])],[]⟩
theorem Y4.r4 (x0:List Z0)(R:V.St→Option Int)(v4_2:Int)(v4_3:Int):V.loopF Y4.E Tryz.f60.ntmps [1,0,1,0] [] (V.codeOf Tryz.f60) (Y4.kt x0) R (Y4.s4 x0 v4_2 v4_3)=Y4.g4 x0 (fun v4_2 v4_3=>R (Y4.s4 x0 v4_2 v4_3)) v4_2 v4_3:=by kernel_rfl
theorem Y4.e4 (x0:List Z0):∀(n:Nat) (v4_2:Int) (v4_3:Int),V.loopN (V.loopF Y4.E Tryz.f60.ntmps [1,0,1,0] [] (V.codeOf Tryz.f60) (Y4.kt x0)) n (Y4.s4 x0 v4_2 v4_3)=Y4.l4 x0 n v4_2 v4_3:=by
 intro n
 induction n with
 |zero=>intros;rw[V.loopN_z];rfl
 |succ n ih=>
  intro v4_2 v4_3
  rw[V.loopN_s,Y4.r4]
  simp only[ih]
  first|exact(Y4.u4 ..).symm|rfl
theorem Y4.v (x0:List Z0):V.evBody Y4.E Y4.con Tryz.f60 ((x0):List Z0)=Y4.b x0 (fun v4_2 v4_3=>V.loopN (V.loopF Y4.E Tryz.f60.ntmps [1,0,1,0] [] (V.codeOf Tryz.f60) (Y4.kt x0)) V.KK (Y4.s4 x0 v4_2 v4_3)):=by kernel_rfl
theorem Y4.eq (x0:List Z0):V.evBody Y4.E Y4.con Tryz.f60 ((x0):List Z0)=Y4 x0:=by
 rw[Y4.v]
 simp only[Y4.e4]
 rfl
theorem Y4.ok :V.Valid Tryz.prog 60 Y4.con:=
 V.fo (V.tab_cons YW.ok (V.tab_cons YY.ok V.tab_nil)) Tryz.func60 (by kernel_rfl) (fun x y h=>(show V.evBody Y4.E Y4.con Tryz.f60 x=_ from Y4.eq x).trans (V.cfl (by kernel_rfl) h))
noncomputable abbrev W0.con :V.Con:=⟨(.cons (.sl V.eSigned) .nil),(.cons .bool .nil),fun(x:List Z0)=>W0 x,[],[(false,1)],[(false,1)],[false],[]⟩
noncomputable abbrev W0.E :V.Env:=V.mkE V.tys [(59,YV.con),(60,Y4.con)] [] [] [] [] []
theorem W0.eq (x0:List Z0):V.evBody W0.E W0.con Tryz.f25 ((x0):List Z0)=W0 x0:=by kernel_rfl
theorem W0.ok :V.Valid Tryz.prog 25 W0.con:=
 V.fo (V.tab_cons YV.ok (V.tab_cons Y4.ok V.tab_nil)) Tryz.func25 (by kernel_rfl) (fun x y h=>(show V.evBody W0.E W0.con Tryz.f25 x=_ from W0.eq x).trans (V.cfl (by kernel_rfl) h))
noncomputable abbrev YK.con :V.Con:=⟨V.A4,(.cons .bool .nil),fun(x:V.D4)=>YK (V.p4_0 x) (V.p4_1 x),[],[(true,16),(true,16)],[(false,1)],[false],[]⟩
noncomputable abbrev YK.E :V.Env:=V.mkE V.tys [(34,YE.con),(61,Xh.con),(62,ZM.con)] [] [(1,23)] [] [] []
noncomputable abbrev YK.kt (x0:Z4)(x1:Z4):V.Kt Bool:=V.ktOf YK.E YK.con Tryz.f27 (V.fl4 x0 x1)
noncomputable abbrev YK.s (x0:Z4)(x1:Z4):V.St:=⟨[(0, .v true (V.lsHead x0)),(1, .v true (V.lsHead x1))],[]⟩
theorem YK.v0 (x0:Z4)(x1:Z4):V.evBody YK.E YK.con Tryz.f27 (V.fl4 x0 x1)=V.evC YK.E Tryz.f27.ntmps (V.codeOf Tryz.f27) (YK.kt x0 x1) (YK.s x0 x1):=by kernel_rfl
theorem YK.v (x0:Z4)(x1:Z4):V.evC YK.E Tryz.f27.ntmps (V.codeOf Tryz.f27) (YK.kt x0 x1) (YK.s x0 x1)=YK x0 x1:=by kernel_rfl
theorem YK.eq (x0:Z4)(x1:Z4):V.evBody YK.E YK.con Tryz.f27 (V.fl4 x0 x1)=YK x0 x1:=(YK.v0 x0 x1).trans (YK.v x0 x1)
theorem YK.ok :V.Valid Tryz.prog 27 YK.con:=
 V.fo (V.tab_cons YE.ok (V.tab_cons Xh.ok (V.tab_cons ZM.ok V.tab_nil))) Tryz.func27 (by kernel_rfl) (fun x y h=>(show V.evBody YK.E YK.con Tryz.f27 x=_ from YK.eq (V.p4_0 x) (V.p4_1 x)).trans (V.cfl (by kernel_rfl) h))
noncomputable abbrev Yi.con :V.Con:=⟨(.cons (.sl V.eSigned) (.cons (.sl V.eSigned) .nil)),(.cons .bool .nil),fun(x:List Z0×List Z0)=>Yi x.1 x.2,[],[(false,1),(false,1)],[(false,1)],[false],[]⟩
noncomputable abbrev Yi.E :V.Env:=V.mkE V.tys [(27,YK.con)] [(8,[1,12,13,14],[])] [(6,7)] [] [] []
noncomputable abbrev Yi.kt (x0:List Z0)(x1:List Z0):V.Kt Bool:=V.ktOf Yi.E Yi.con Tryz.f26 ((x0,x1):List Z0×List Z0)
noncomputable abbrev Yi.s8 (x0:List Z0)(x1:List Z0)(v8_2:Int)(v8_3:Int):V.St:=⟨[(1, .v false [.val (.sl V.eSigned x1)]),(12, .v false [.val (.sl V.eSigned x0)]),(13, .v false [.vi (v8_2)]),(14, .v false [.vi (v8_3)])],[]⟩
theorem Yi.r8 (x0:List Z0)(x1:List Z0)(R:V.St→Option Bool)(v8_2:Int)(v8_3:Int):V.loopF Yi.E Tryz.f26.ntmps [1,1,0,1,0] [] (V.codeOf Tryz.f26) (Yi.kt x0 x1) R (Yi.s8 x0 x1 v8_2 v8_3)=Yi.g8 x0 x1 (fun v8_2 v8_3=>R (Yi.s8 x0 x1 v8_2 v8_3)) v8_2 v8_3:=by kernel_rfl
theorem Yi.e8 (x0:List Z0)(x1:List Z0):∀(n:Nat) (v8_2:Int) (v8_3:Int),V.loopN (V.loopF Yi.E Tryz.f26.ntmps [1,1,0,1,0] [] (V.codeOf Tryz.f26) (Yi.kt x0 x1)) n (Yi.s8 x0 x1 v8_2 v8_3)=Yi.l8 x0 x1 n v8_2 v8_3:=by
 intro n
 induction n with
 |zero=>intros;rw[V.loopN_z];rfl
 |succ n ih=>
  intro v8_2 v8_3
  rw[V.loopN_s,Yi.r8]
  simp only[ih]
  first|exact(Yi.u8 ..).symm|rfl
theorem Yi.v (x0:List Z0)(x1:List Z0):V.evBody Yi.E Yi.con Tryz.f26 ((x0,x1):List Z0×List Z0)=Yi.b x0 x1 (fun v8_2 v8_3=>V.loopN (V.loopF Yi.E Tryz.f26.ntmps [1,1,0,1,0] [] (V.codeOf Tryz.f26) (Yi.kt x0 x1)) V.KK (Yi.s8 x0 x1 v8_2 v8_3)):=by kernel_rfl
theorem Yi.eq (x0:List Z0)(x1:List Z0):V.evBody Yi.E Yi.con Tryz.f26 ((x0,x1):List Z0×List Z0)=Yi x0 x1:=by
 rw[Yi.v]
 simp only[Yi.e8]
 rfl
theorem Yi.ok :V.Valid Tryz.prog 26 Yi.con:=
 V.fo (V.tab_cons YK.ok V.tab_nil) Tryz.func26 (by kernel_rfl) (fun x y h=>(show V.evBody Yi.E Yi.con Tryz.f26 x=_ from Yi.eq x.1 x.2).trans (V.cfl (by kernel_rfl) h))
noncomputable abbrev Wh.con :V.Con:=⟨(.cons (.sl (V.ci .nil)) .nil),(.cons (.sl (V.ci .nil)) .nil),fun(x:List Int)=>Wh x,[],[(false,1)],[(false,1)],[true],[]⟩
noncomputable abbrev Wh.E :V.Env:=V.mkE V.tys [] [] [] [] [] []
theorem Wh.eq (x0:List Int):V.evBody Wh.E Wh.con Tryz.f142 ((x0):List Int)=Wh x0:=by kernel_rfl
theorem Wh.ok :V.Valid Tryz.prog 142 Wh.con:=
 V.fo V.tab_nil Tryz.func142 (by kernel_rfl) (fun x y h=>(show V.evBody Wh.E Wh.con Tryz.f142 x=_ from Wh.eq x).trans (V.cfl (by kernel_rfl) h))
noncomputable abbrev XU.con :V.Con:=⟨(.cons (.sl (V.ci .nil)) (V.ci .nil)),(.cons (.sl (V.ci .nil)) (V.ci .nil)),fun(x:List Int×Int)=>XU x,[],[(true,2)],[(true,2)],[true,false],[]⟩
noncomputable abbrev XU.E :V.Env:=V.mkE V.tys [(142,Wh.con)] [] [(1,5)] [] [] []
theorem XU.eq (x0:Z8):V.evBody XU.E XU.con Tryz.f98 ((x0.1,x0.2):List Int×Int)=XU x0:=by kernel_rfl
theorem XU.ok :V.Valid Tryz.prog 98 XU.con:=
 V.fo (V.tab_cons Wh.ok V.tab_nil) Tryz.func98 (by kernel_rfl) (fun x y h=>(show V.evBody XU.E XU.con Tryz.f98 x=_ from XU.eq x).trans (V.cfl (by kernel_rfl) h))
noncomputable abbrev Xb.con :V.Con:=⟨V.A0,V.eHead,fun(x:V.D0)=>Xb (V.p0_0 x),[],[(true,16)],[(true,16)],[false,false,false,false,false,false,false,false,true,false,true,false,false,true,false,false],[]⟩
noncomputable abbrev Xb.E :V.Env:=V.mkE V.tys [(98,XU.con)] [] [(1,10)] [] [] []
noncomputable abbrev Xb.kt (x0:Z4):V.Kt Z4:=V.ktOf Xb.E Xb.con Tryz.f63 (V.fl0 x0)
noncomputable abbrev Xb.s (x0:Z4):V.St:=⟨[(0, .v true (V.lsHead x0))],[]⟩
theorem Xb.v0 (x0:Z4):V.evBody Xb.E Xb.con Tryz.f63 (V.fl0 x0)=V.evC Xb.E Tryz.f63.ntmps (V.codeOf Tryz.f63) (Xb.kt x0) (Xb.s x0):=by kernel_rfl
theorem Xb.v (x0:Z4):V.evC Xb.E Tryz.f63.ntmps (V.codeOf Tryz.f63) (Xb.kt x0) (Xb.s x0)=Xb x0:=by kernel_rfl
theorem Xb.eq (x0:Z4):V.evBody Xb.E Xb.con Tryz.f63 (V.fl0 x0)=Xb x0:=(Xb.v0 x0).trans (Xb.v x0)
theorem Xb.ok :V.Valid Tryz.prog 63 Xb.con:=
 V.fo (V.tab_cons XU.ok V.tab_nil) Tryz.func63 (by kernel_rfl) (fun x y h=>(show V.evBody Xb.E Xb.con Tryz.f63 x=_ from Xb.eq (V.p0_0 x)).trans (V.cfl (by kernel_rfl) h))
noncomputable abbrev Wg.con :V.Con:=⟨(.cons (.sl (V.ci (V.ci .nil))) .nil),(.cons (.sl (V.ci (V.ci .nil))) .nil),fun(x:List Z6)=>Wg x,[],[(false,1)],[(false,1)],[true],[]⟩
noncomputable abbrev Wg.E :V.Env:=V.mkE V.tys [] [] [] [] [] []
theorem Wg.eq (x0:List Z6):V.evBody Wg.E Wg.con Tryz.f64 ((x0):List Z6)=Wg x0:=by kernel_rfl
theorem Wg.ok :V.Valid Tryz.prog 64 Wg.con:=
 V.fo V.tab_nil Tryz.func64 (by kernel_rfl) (fun x y h=>(show V.evBody Wg.E Wg.con Tryz.f64 x=_ from Wg.eq x).trans (V.cfl (by kernel_rfl) h))
noncomputable abbrev YQ.con :V.Con:=⟨V.A3,V.eSigned,fun(x:V.D3)=>YQ (V.p3_0 x),[],[(true,17)],[(true,17)],[false,false,false,false,false,false,false,false,true,false,true,false,false,true,false,false,true],[]⟩
noncomputable abbrev YQ.E :V.Env:=V.mkE V.tys [(63,Xb.con),(64,Wg.con)] [] [(1,5)] [] [] []
noncomputable abbrev YQ.kt (x0:Z0):V.Kt Z0:=V.ktOf YQ.E YQ.con Tryz.f28 (V.fl3 x0)
noncomputable abbrev YQ.s (x0:Z0):V.St:=⟨[(0, .v true (V.lsSigned x0))],[]⟩
theorem YQ.v0 (x0:Z0):V.evBody YQ.E YQ.con Tryz.f28 (V.fl3 x0)=V.evC YQ.E Tryz.f28.ntmps (V.codeOf Tryz.f28) (YQ.kt x0) (YQ.s x0):=by kernel_rfl
theorem YQ.v (x0:Z0):V.evC YQ.E Tryz.f28.ntmps (V.codeOf Tryz.f28) (YQ.kt x0) (YQ.s x0)=YQ x0:=by kernel_rfl
theorem YQ.eq (x0:Z0):V.evBody YQ.E YQ.con Tryz.f28 (V.fl3 x0)=YQ x0:=(YQ.v0 x0).trans (YQ.v x0)
theorem YQ.ok :V.Valid Tryz.prog 28 YQ.con:=
 V.fo (V.tab_cons Xb.ok (V.tab_cons Wg.ok V.tab_nil)) Tryz.func28 (by kernel_rfl) (fun x y h=>(show V.evBody YQ.E YQ.con Tryz.f28 x=_ from YQ.eq (V.p3_0 x)).trans (V.cfl (by kernel_rfl) h))
noncomputable abbrev ZA.con :V.Con:=⟨(.cons (.sl V.eSigned) (.cons (.sl V.eSigned) .nil)),V.eRForkBool,fun(x:List Z0×List Z0)=>ZA x.1 x.2,[],[(false,1),(false,1)],[(true,51),(false,1)],[false,false,false,false,false,false,false,false,true,false,true,false,false,true,false,false,true,false,false,false,false,false,false,false,false,true,false,true,false,false,true,false,false,true,false,false,false,false,false,false,false,false,true,false,true,false,false,true,false,false,true,false],[]⟩
noncomputable abbrev ZA.E :V.Env:=V.mkE V.tys [(25,W0.con),(26,Yi.con),(27,YK.con),(28,YQ.con)] [(5,[0,1,4,38],[]),(8,[0,1,4,6],[])] [(1,29),(4,10),(6,12)] [] [] []
noncomputable abbrev ZA.kt (x0:List Z0)(x1:List Z0):V.Kt Yl:=V.ktOf ZA.E ZA.con Tryz.f6 ((x0,x1):List Z0×List Z0)
noncomputable abbrev ZA.s8 (x0:List Z0)(x1:List Z0)(v8_2:Int):V.St:=⟨[(0, .v false [.val (.sl V.eSigned x0)]),(1, .v false [.val (.sl V.eSigned x1)]),(4, .v false [.ptr 64000 0]),(6, .v false [.vi (v8_2)])],[(64000, .box [.vi ((0:Int)), .vi ((0:Int)), .vi ((0:Int)), .vi ((0:Int)), .vi ((0:Int)), .vi ((0:Int)), .vi ((0:Int)), .vi ((0:Int)), .nil0, .vi ((0:Int)), .nil0, .vi ((0:Int)), .vi ((0:Int)), .nil0, .vi ((0:Int)), .val (.bool false), .nil0, .vi ((0:Int)), .vi ((0:Int)), .vi ((0:Int)), .vi ((0:Int)), .vi ((0:Int)), .vi ((0:Int)), .vi ((0:Int)), .vi ((0:Int)), .nil0, .vi ((0:Int)), .nil0, .vi ((0:Int)), .vi ((0:Int)), .nil0, .vi ((0:Int)), .val (.bool false), .nil0, .vi ((0:Int)), .vi ((0:Int)), .vi ((0:Int)), .vi ((0:Int)), .vi ((0:Int)), .vi ((0:Int)), .vi ((0:Int)), .vi ((0:Int)), .nil0, .vi ((0:Int)), .nil0, .vi ((0:Int)), .vi ((0:Int)), .nil0, .vi ((0:Int)), .val (.bool false), .nil0])]⟩
noncomputable abbrev ZA.s5 (x0:List Z0)(x1:List Z0)(v5_2:Bool):V.St:=⟨[(0, .v false [.val (.sl V.eSigned x0)]),(1, .v false [.val (.sl V.eSigned x1)]),(4, .v false [.ptr 64000 0]),(38, .v false [.val (.bool v5_2)])],[(64000, .box [.vi ((0:Int)), .vi ((0:Int)), .vi ((0:Int)), .vi ((0:Int)), .vi ((0:Int)), .vi ((0:Int)), .vi ((0:Int)), .vi ((0:Int)), .nil0, .vi ((0:Int)), .nil0, .vi ((0:Int)), .vi ((0:Int)), .nil0, .vi ((0:Int)), .val (.bool false), .nil0, .vi ((0:Int)), .vi ((0:Int)), .vi ((0:Int)), .vi ((0:Int)), .vi ((0:Int)), .vi ((0:Int)), .vi ((0:Int)), .vi ((0:Int)), .nil0, .vi ((0:Int)), .nil0, .vi ((0:Int)), .vi ((0:Int)), .nil0, .vi ((0:Int)), .val (.bool false), .nil0, .vi ((0:Int)), .vi ((0:Int)), .vi ((0:Int)), .vi ((0:Int)), .vi ((0:Int)), .vi ((0:Int)), .vi ((0:Int)), .vi ((0:Int)), .nil0, .vi ((0:Int)), .nil0, .vi ((0:Int)), .vi ((0:Int)), .nil0, .vi ((0:Int)), .val (.bool false), .nil0])]⟩
theorem ZA.r8 (x0:List Z0)(x1:List Z0)(R:V.St→Option Yl)(v8_2:Int):V.loopF ZA.E Tryz.f6.ntmps [1,1,1,0,0] [] (V.codeOf Tryz.f6) (ZA.kt x0 x1) R (ZA.s8 x0 x1 v8_2)=ZA.g8 x0 x1 (fun v8_2=>R (ZA.s8 x0 x1 v8_2)) v8_2:=by kernel_rfl
theorem ZA.e8 (x0:List Z0)(x1:List Z0):∀(n:Nat) (v8_2:Int),V.loopN (V.loopF ZA.E Tryz.f6.ntmps [1,1,1,0,0] [] (V.codeOf Tryz.f6) (ZA.kt x0 x1)) n (ZA.s8 x0 x1 v8_2)=ZA.l8 x0 x1 n v8_2:=by
 intro n
 induction n with
 |zero=>intros;rw[V.loopN_z];rfl
 |succ n ih=>
  intro v8_2
  rw[V.loopN_s,ZA.r8]
  simp only[ih]
  first|exact(ZA.u8 ..).symm|rfl
theorem ZA.r5 (x0:List Z0)(x1:List Z0)(v5_2:Bool):V.joinF ZA.E Tryz.f6.ntmps [1,0] [] (V.codeOf Tryz.f6) (ZA.kt x0 x1) (ZA.s5 x0 x1 v5_2)=ZA.g5 x0 x1 (fun v8_2=>V.loopN (V.loopF ZA.E Tryz.f6.ntmps [1,1,1,0,0] [] (V.codeOf Tryz.f6) (ZA.kt x0 x1)) V.KK (ZA.s8 x0 x1 v8_2)) v5_2:=by kernel_rfl
theorem ZA.e5 (x0:List Z0)(x1:List Z0)(v5_2:Bool):V.jn (V.joinF ZA.E Tryz.f6.ntmps [1,0] [] (V.codeOf Tryz.f6) (ZA.kt x0 x1)) (ZA.s5 x0 x1 v5_2)=ZA.l5 x0 x1 v5_2:=by
 rw[V.jn_eq,ZA.r5]
 simp only[ZA.e8]
 rfl
theorem ZA.v (x0:List Z0)(x1:List Z0):V.evBody ZA.E ZA.con Tryz.f6 ((x0,x1):List Z0×List Z0)=ZA.b x0 x1 (fun v5_2=>V.jn (V.joinF ZA.E Tryz.f6.ntmps [1,0] [] (V.codeOf Tryz.f6) (ZA.kt x0 x1)) (ZA.s5 x0 x1 v5_2)):=by kernel_rfl
theorem ZA.eq (x0:List Z0)(x1:List Z0):V.evBody ZA.E ZA.con Tryz.f6 ((x0,x1):List Z0×List Z0)=ZA x0 x1:=by
 rw[ZA.v]
 simp only[ZA.e5]
 rfl
theorem ZA.ok :V.Valid Tryz.prog 6 ZA.con:=
 V.fo (V.tab_cons W0.ok (V.tab_cons Yi.ok (V.tab_cons YK.ok (V.tab_cons YQ.ok V.tab_nil)))) Tryz.func6 (by kernel_rfl) (fun x y h=>(show V.evBody ZA.E ZA.con Tryz.f6 x=_ from ZA.eq x.1 x.2).trans (V.cfl (by kernel_rfl) h))
noncomputable abbrev YI.con :V.Con:=⟨V.A4,(.cons .bool .nil),fun(x:V.D4)=>YI (V.p4_0 x) (V.p4_1 x),[],[(true,16),(true,16)],[(false,1)],[false],[]⟩
noncomputable abbrev YI.E :V.Env:=V.mkE V.tys [(12,Yf.con),(67,ZO.con)] [] [(1,10)] [] [] []
noncomputable abbrev YI.kt (x0:Z4)(x1:Z4):V.Kt Bool:=V.ktOf YI.E YI.con Tryz.f31 (V.fl4 x0 x1)
noncomputable abbrev YI.s (x0:Z4)(x1:Z4):V.St:=⟨[(0, .v true (V.lsHead x0)),(1, .v true (V.lsHead x1))],[]⟩
theorem YI.v0 (x0:Z4)(x1:Z4):V.evBody YI.E YI.con Tryz.f31 (V.fl4 x0 x1)=V.evC YI.E Tryz.f31.ntmps (V.codeOf Tryz.f31) (YI.kt x0 x1) (YI.s x0 x1):=by kernel_rfl
theorem YI.v (x0:Z4)(x1:Z4):V.evC YI.E Tryz.f31.ntmps (V.codeOf Tryz.f31) (YI.kt x0 x1) (YI.s x0 x1)=YI x0 x1:=by kernel_rfl
theorem YI.eq (x0:Z4)(x1:Z4):V.evBody YI.E YI.con Tryz.f31 (V.fl4 x0 x1)=YI x0 x1:=(YI.v0 x0 x1).trans (YI.v x0 x1)
theorem YI.ok :V.Valid Tryz.prog 31 YI.con:=
 V.fo (V.tab_cons Yf.ok (V.tab_cons ZO.ok V.tab_nil)) Tryz.func31 (by kernel_rfl) (fun x y h=>(show V.evBody YI.E YI.con Tryz.f31 x=_ from YI.eq (V.p4_0 x) (V.p4_1 x)).trans (V.cfl (by kernel_rfl) h))
noncomputable abbrev Yk.con :V.Con:=⟨(.cons (.sl V.eSigned) (.cons (.sl V.eSigned) .nil)),(.cons .bool .nil),fun(x:List Z0×List Z0)=>Yk x.1 x.2,[],[(false,1),(false,1)],[(false,1)],[false],[]⟩
noncomputable abbrev Yk.E :V.Env:=V.mkE V.tys [(31,YI.con)] [(8,[0,1,5],[])] [(6,10)] [] [] []
noncomputable abbrev Yk.kt (x0:List Z0)(x1:List Z0):V.Kt Bool:=V.ktOf Yk.E Yk.con Tryz.f30 ((x0,x1):List Z0×List Z0)
noncomputable abbrev Yk.s8 (x0:List Z0)(x1:List Z0)(v8_2:Int):V.St:=⟨[(0, .v false [.val (.sl V.eSigned x0)]),(1, .v false [.val (.sl V.eSigned x1)]),(5, .v false [.vi (v8_2)])],[]⟩
theorem Yk.r8 (x0:List Z0)(x1:List Z0)(R:V.St→Option Bool)(v8_2:Int):V.loopF Yk.E Tryz.f30.ntmps [1,1,0,1,0] [] (V.codeOf Tryz.f30) (Yk.kt x0 x1) R (Yk.s8 x0 x1 v8_2)=Yk.g8 x0 x1 (fun v8_2=>R (Yk.s8 x0 x1 v8_2)) v8_2:=by kernel_rfl
theorem Yk.e8 (x0:List Z0)(x1:List Z0):∀(n:Nat) (v8_2:Int),V.loopN (V.loopF Yk.E Tryz.f30.ntmps [1,1,0,1,0] [] (V.codeOf Tryz.f30) (Yk.kt x0 x1)) n (Yk.s8 x0 x1 v8_2)=Yk.l8 x0 x1 n v8_2:=by
 intro n
 induction n with
 |zero=>intros;rw[V.loopN_z];rfl
 |succ n ih=>
  intro v8_2
  rw[V.loopN_s,Yk.r8]
  simp only[ih]
  first|exact(Yk.u8 ..).symm|rfl
theorem Yk.v (x0:List Z0)(x1:List Z0):V.evBody Yk.E Yk.con Tryz.f30 ((x0,x1):List Z0×List Z0)=Yk.b x0 x1 (fun v8_2=>V.loopN (V.loopF Yk.E Tryz.f30.ntmps [1,1,0,1,0] [] (V.codeOf Tryz.f30) (Yk.kt x0 x1)) V.KK (Yk.s8 x0 x1 v8_2)):=by kernel_rfl
theorem Yk.eq (x0:List Z0)(x1:List Z0):V.evBody Yk.E Yk.con Tryz.f30 ((x0,x1):List Z0×List Z0)=Yk x0 x1:=by
 rw[Yk.v]
 simp only[Yk.e8]
 rfl
theorem Yk.ok :V.Valid Tryz.prog 30 Yk.con:=
 V.fo (V.tab_cons YI.ok V.tab_nil) Tryz.func30 (by kernel_rfl) (fun x y h=>(show V.evBody Yk.E Yk.con Tryz.f30 x=_ from Yk.eq x.1 x.2).trans (V.cfl (by kernel_rfl) h))
noncomputable abbrev Zz.con :V.Con:=⟨(.cons (.sl V.eSigned) (.cons (.sl V.eSigned) .nil)),V.eRForkBool,fun(x:List Z0×List Z0)=>Zz x.1 x.2,[],[(false,1),(false,1)],[(true,51),(false,1)],[false,false,false,false,false,false,false,false,true,false,true,false,false,true,false,false,true,false,false,false,false,false,false,false,false,true,false,true,false,false,true,false,false,true,false,false,false,false,false,false,false,false,true,false,true,false,false,true,false,false,true,false],[]⟩
noncomputable abbrev Zz.E :V.Env:=V.mkE V.tys [(29,XD.con),(30,Yk.con),(31,YI.con),(32,Yh.con)] [(5,[0,1,4,38],[]),(8,[0,1,4,6],[])] [(1,29),(4,21),(6,12)] [] [] []
noncomputable abbrev Zz.kt (x0:List Z0)(x1:List Z0):V.Kt Yl:=V.ktOf Zz.E Zz.con Tryz.f7 ((x0,x1):List Z0×List Z0)
noncomputable abbrev Zz.s8 (x0:List Z0)(x1:List Z0)(v8_2:Int):V.St:=⟨[(0, .v false [.val (.sl V.eSigned x0)]),(1, .v false [.val (.sl V.eSigned x1)]),(4, .v false [.ptr 64000 0]),(6, .v false [.vi (v8_2)])],[(64000, .box [.vi ((0:Int)), .vi ((0:Int)), .vi ((0:Int)), .vi ((0:Int)), .vi ((0:Int)), .vi ((0:Int)), .vi ((0:Int)), .vi ((0:Int)), .nil0, .vi ((0:Int)), .nil0, .vi ((0:Int)), .vi ((0:Int)), .nil0, .vi ((0:Int)), .val (.bool false), .nil0, .vi ((0:Int)), .vi ((0:Int)), .vi ((0:Int)), .vi ((0:Int)), .vi ((0:Int)), .vi ((0:Int)), .vi ((0:Int)), .vi ((0:Int)), .nil0, .vi ((0:Int)), .nil0, .vi ((0:Int)), .vi ((0:Int)), .nil0, .vi ((0:Int)), .val (.bool false), .nil0, .vi ((0:Int)), .vi ((0:Int)), .vi ((0:Int)), .vi ((0:Int)), .vi ((0:Int)), .vi ((0:Int)), .vi ((0:Int)), .vi ((0:Int)), .nil0, .vi ((0:Int)), .nil0, .vi ((0:Int)), .vi ((0:Int)), .nil0, .vi ((0:Int)), .val (.bool false), .nil0])]⟩
noncomputable abbrev Zz.s5 (x0:List Z0)(x1:List Z0)(v5_2:Bool):V.St:=⟨[(0, .v false [.val (.sl V.eSigned x0)]),(1, .v false [.val (.sl V.eSigned x1)]),(4, .v false [.ptr 64000 0]),(38, .v false [.val (.bool v5_2)])],[(64000, .box [.vi ((0:Int)), .vi ((0:Int)), .vi ((0:Int)), .vi ((0:Int)), .vi ((0:Int)), .vi ((0:Int)), .vi ((0:Int)), .vi ((0:Int)), .nil0, .vi ((0:Int)), .nil0, .vi ((0:Int)), .vi ((0:Int)), .nil0, .vi ((0:Int)), .val (.bool false), .nil0, .vi ((0:Int)), .vi ((0:Int)), .vi ((0:Int)), .vi ((0:Int)), .vi ((0:Int)), .vi ((0:Int)), .vi ((0:Int)), .vi ((0:Int)), .nil0, .vi ((0:Int)), .nil0, .vi ((0:Int)), .vi ((0:Int)), .nil0, .vi ((0:Int)), .val (.bool false), .nil0, .vi ((0:Int)), .vi ((0:Int)), .vi ((0:Int)), .vi ((0:Int)), .vi ((0:Int)), .vi ((0:Int)), .vi ((0:Int)), .vi ((0:Int)), .nil0, .vi ((0:Int)), .nil0, .vi ((0:Int)), .vi ((0:Int)), .nil0, .vi ((0:Int)), .val (.bool false), .nil0])]⟩
theorem Zz.r8 (x0:List Z0)(x1:List Z0)(R:V.St→Option Yl)(v8_2:Int):V.loopF Zz.E Tryz.f7.ntmps [1,1,1,0,0] [] (V.codeOf Tryz.f7) (Zz.kt x0 x1) R (Zz.s8 x0 x1 v8_2)=Zz.g8 x0 x1 (fun v8_2=>R (Zz.s8 x0 x1 v8_2)) v8_2:=by kernel_rfl
theorem Zz.e8 (x0:List Z0)(x1:List Z0):∀(n:Nat) (v8_2:Int),V.loopN (V.loopF Zz.E Tryz.f7.ntmps [1,1,1,0,0] [] (V.codeOf Tryz.f7) (Zz.kt x0 x1)) n (Zz.s8 x0 x1 v8_2)=Zz.l8 x0 x1 n v8_2:=by
 intro n
 induction n with
 |zero=>intros;rw[V.loopN_z];rfl
 |succ n ih=>
  intro v8_2
  rw[V.loopN_s,Zz.r8]
  simp only[ih]
  first|exact(Zz.u8 ..).symm|rfl
theorem Zz.r5 (x0:List Z0)(x1:List Z0)(v5_2:Bool):V.joinF Zz.E Tryz.f7.ntmps [1,0] [] (V.codeOf Tryz.f7) (Zz.kt x0 x1) (Zz.s5 x0 x1 v5_2)=Zz.g5 x0 x1 (fun v8_2=>V.loopN (V.loopF Zz.E Tryz.f7.ntmps [1,1,1,0,0] [] (V.codeOf Tryz.f7) (Zz.kt x0 x1)) V.KK (Zz.s8 x0 x1 v8_2)) v5_2:=by kernel_rfl
theorem Zz.e5 (x0:List Z0)(x1:List Z0)(v5_2:Bool):V.jn (V.joinF Zz.E Tryz.f7.ntmps [1,0] [] (V.codeOf Tryz.f7) (Zz.kt x0 x1)) (Zz.s5 x0 x1 v5_2)=Zz.l5 x0 x1 v5_2:=by
 rw[V.jn_eq,Zz.r5]
 simp only[Zz.e8]
 rfl
theorem Zz.v (x0:List Z0)(x1:List Z0):V.evBody Zz.E Zz.con Tryz.f7 ((x0,x1):List Z0×List Z0)=Zz.b x0 x1 (fun v5_2=>V.jn (V.joinF Zz.E Tryz.f7.ntmps [1,0] [] (V.codeOf Tryz.f7) (Zz.kt x0 x1)) (Zz.s5 x0 x1 v5_2)):=by kernel_rfl
theorem Zz.eq (x0:List Z0)(x1:List Z0):V.evBody Zz.E Zz.con Tryz.f7 ((x0,x1):List Z0×List Z0)=Zz x0 x1:=by
 rw[Zz.v]
 simp only[Zz.e5]
 rfl
theorem Zz.ok :V.Valid Tryz.prog 7 Zz.con:=
 V.fo (V.tab_cons XD.ok (V.tab_cons Yk.ok (V.tab_cons YI.ok (V.tab_cons Yh.ok V.tab_nil)))) Tryz.func7 (by kernel_rfl) (fun x y h=>(show V.evBody Zz.E Zz.con Tryz.f7 x=_ from Zz.eq x.1 x.2).trans (V.cfl (by kernel_rfl) h))
noncomputable abbrev ZR.con :V.Con:=⟨(.cons (.sl (V.ci (V.ci .nil))) (.cons (.sl (V.ci (V.ci .nil))) .nil)),(.cons .bool .nil),fun(x:List Z6×List Z6)=>ZR x.1 x.2,[],[(false,1),(false,1)],[(false,1)],[false],[]⟩
noncomputable abbrev ZR.E :V.Env:=V.mkE V.tys [] [(8,[0,1,12,13],[])] [(6,8)] [] [] []
noncomputable abbrev ZR.kt (x0:List Z6)(x1:List Z6):V.Kt Bool:=V.ktOf ZR.E ZR.con Tryz.f69 ((x0,x1):List Z6×List Z6)
noncomputable abbrev ZR.s8 (x0:List Z6)(x1:List Z6)(v8_2:Int)(v8_3:Int):V.St:=⟨[(0, .v false [.val (.sl (V.ci (V.ci .nil)) x0)]),(1, .v false [.val (.sl (V.ci (V.ci .nil)) x1)]),(12, .v false [.vi (v8_2)]),(13, .v false [.vi (v8_3)])],[]⟩
theorem ZR.r8 (x0:List Z6)(x1:List Z6)(R:V.St→Option Bool)(v8_2:Int)(v8_3:Int):V.loopF ZR.E Tryz.f69.ntmps [1,1,0,1,0] [] (V.codeOf Tryz.f69) (ZR.kt x0 x1) R (ZR.s8 x0 x1 v8_2 v8_3)=ZR.g8 x0 x1 (fun v8_2 v8_3=>R (ZR.s8 x0 x1 v8_2 v8_3)) v8_2 v8_3:=by kernel_rfl
theorem ZR.e8 (x0:List Z6)(x1:List Z6):∀(n:Nat) (v8_2:Int) (v8_3:Int),V.loopN (V.loopF ZR.E Tryz.f69.ntmps [1,1,0,1,0] [] (V.codeOf Tryz.f69) (ZR.kt x0 x1)) n (ZR.s8 x0 x1 v8_2 v8_3)=ZR.l8 x0 x1 n v8_2 v8_3:=by
 intro n
 induction n with
 |zero=>intros;rw[V.loopN_z];rfl
 |succ n ih=>
  intro v8_2 v8_3
  rw[V.loopN_s,ZR.r8]
  simp only[ih]
  first|exact(ZR.u8 ..).symm|rfl
theorem ZR.v (x0:List Z6)(x1:List Z6):V.evBody ZR.E ZR.con Tryz.f69 ((x0,x1):List Z6×List Z6)=ZR.b x0 x1 (fun v8_2 v8_3=>V.loopN (V.loopF ZR.E Tryz.f69.ntmps [1,1,0,1,0] [] (V.codeOf Tryz.f69) (ZR.kt x0 x1)) V.KK (ZR.s8 x0 x1 v8_2 v8_3)):=by kernel_rfl
theorem ZR.eq (x0:List Z6)(x1:List Z6):V.evBody ZR.E ZR.con Tryz.f69 ((x0,x1):List Z6×List Z6)=ZR x0 x1:=by
 rw[ZR.v]
 simp only[ZR.e8]
 rfl
theorem ZR.ok :V.Valid Tryz.prog 69 ZR.con:=
 V.fo V.tab_nil Tryz.func69 (by kernel_rfl) (fun x y h=>(show V.evBody ZR.E ZR.con Tryz.f69 x=_ from ZR.eq x.1 x.2).trans (V.cfl (by kernel_rfl) h))
noncomputable abbrev YR.con :V.Con:=⟨V.A8,(.cons .bool .nil),fun(x:V.D8)=>YR (V.p8_0 x) (V.p8_1 x),[],[(true,17),(true,17)],[(false,1)],[false],[]⟩
noncomputable abbrev YR.E :V.Env:=V.mkE V.tys [(27,YK.con),(69,ZR.con)] [] [] [] [] []
noncomputable abbrev YR.kt (x0:Z0)(x1:Z0):V.Kt Bool:=V.ktOf YR.E YR.con Tryz.f33 (V.fl8 x0 x1)
noncomputable abbrev YR.s (x0:Z0)(x1:Z0):V.St:=⟨[(0, .v true (V.lsSigned x0)),(1, .v true (V.lsSigned x1))],[]⟩
theorem YR.v0 (x0:Z0)(x1:Z0):V.evBody YR.E YR.con Tryz.f33 (V.fl8 x0 x1)=V.evC YR.E Tryz.f33.ntmps (V.codeOf Tryz.f33) (YR.kt x0 x1) (YR.s x0 x1):=by kernel_rfl
theorem YR.v (x0:Z0)(x1:Z0):V.evC YR.E Tryz.f33.ntmps (V.codeOf Tryz.f33) (YR.kt x0 x1) (YR.s x0 x1)=YR x0 x1:=by kernel_rfl
theorem YR.eq (x0:Z0)(x1:Z0):V.evBody YR.E YR.con Tryz.f33 (V.fl8 x0 x1)=YR x0 x1:=(YR.v0 x0 x1).trans (YR.v x0 x1)
theorem YR.ok :V.Valid Tryz.prog 33 YR.con:=
 V.fo (V.tab_cons YK.ok (V.tab_cons ZR.ok V.tab_nil)) Tryz.func33 (by kernel_rfl) (fun x y h=>(show V.evBody YR.E YR.con Tryz.f33 x=_ from YR.eq (V.p8_0 x) (V.p8_1 x)).trans (V.cfl (by kernel_rfl) h))
noncomputable abbrev X8.con :V.Con:=⟨V.A9,(.cons .bool .nil),fun(x:V.D9)=>X8 (V.p9_0 x) (V.p9_1 x),[],[(true,51),(true,51)],[(false,1)],[false],[]⟩
noncomputable abbrev X8.E :V.Env:=V.mkE V.tys [(33,YR.con)] [] [] [] [] []
noncomputable abbrev X8.kt (x0:Zi)(x1:Zi):V.Kt Bool:=V.ktOf X8.E X8.con Tryz.f8 (V.fl9 x0 x1)
noncomputable abbrev X8.s (x0:Zi)(x1:Zi):V.St:=⟨[(0, .v true (V.lsFork x0)),(1, .v true (V.lsFork x1))],[]⟩
theorem X8.v0 (x0:Zi)(x1:Zi):V.evBody X8.E X8.con Tryz.f8 (V.fl9 x0 x1)=V.evC X8.E Tryz.f8.ntmps (V.codeOf Tryz.f8) (X8.kt x0 x1) (X8.s x0 x1):=by kernel_rfl
theorem X8.v (x0:Zi)(x1:Zi):V.evC X8.E Tryz.f8.ntmps (V.codeOf Tryz.f8) (X8.kt x0 x1) (X8.s x0 x1)=X8 x0 x1:=by kernel_rfl
theorem X8.eq (x0:Zi)(x1:Zi):V.evBody X8.E X8.con Tryz.f8 (V.fl9 x0 x1)=X8 x0 x1:=(X8.v0 x0 x1).trans (X8.v x0 x1)
theorem X8.ok :V.Valid Tryz.prog 8 X8.con:=
 V.fo (V.tab_cons YR.ok V.tab_nil) Tryz.func8 (by kernel_rfl) (fun x y h=>(show V.evBody X8.E X8.con Tryz.f8 x=_ from X8.eq (V.p9_0 x) (V.p9_1 x)).trans (V.cfl (by kernel_rfl) h))
noncomputable abbrev YP.con :V.Con:=⟨V.A10,(.cons .bool .nil),fun(x:V.D10)=>YP (V.p10_0 x),[],[(true,51)],[(false,1)],[false],[]⟩
noncomputable abbrev YP.E :V.Env:=V.mkE V.tys [(27,YK.con),(33,YR.con),(42,YW.con),(43,YY.con)] [] [] [] [] []
noncomputable abbrev YP.kt (x0:Zi):V.Kt Bool:=V.ktOf YP.E YP.con Tryz.f13 (V.fl10 x0)
noncomputable abbrev YP.s (x0:Zi):V.St:=⟨[(0, .v true (V.lsFork x0))],[]⟩
theorem YP.v0 (x0:Zi):V.evBody YP.E YP.con Tryz.f13 (V.fl10 x0)=V.evC YP.E Tryz.f13.ntmps (V.codeOf Tryz.f13) (YP.kt x0) (YP.s x0):=by kernel_rfl
theorem YP.v (x0:Zi):V.evC YP.E Tryz.f13.ntmps (V.codeOf Tryz.f13) (YP.kt x0) (YP.s x0)=YP x0:=by kernel_rfl
theorem YP.eq (x0:Zi):V.evBody YP.E YP.con Tryz.f13 (V.fl10 x0)=YP x0:=(YP.v0 x0).trans (YP.v x0)
theorem YP.ok :V.Valid Tryz.prog 13 YP.con:=
 V.fo (V.tab_cons YK.ok (V.tab_cons YR.ok (V.tab_cons YW.ok (V.tab_cons YY.ok V.tab_nil)))) Tryz.func13 (by kernel_rfl) (fun x y h=>(show V.evBody YP.E YP.con Tryz.f13 x=_ from YP.eq (V.p10_0 x)).trans (V.cfl (by kernel_rfl) h))
noncomputable abbrev slices_Sort_int.con :V.Con:=⟨.cons (.sl V.iT) .nil, .cons (.sl V.iT) .nil,fun(x:List Int)=>slices_Sort_int x,[(0,false)],[(false,1)],[],[],[]⟩
theorem slices_Sort_int.ok :V.Valid Tryz.prog 39 slices_Sort_int.con:=
 V.sort_valid (ρ:=⟨fun n=>V.pk [(125,78),(128,110),(129,111),(189,39),(215,148),(216,107),(257,77),(294,101),(295,102),(296,103),(297,104),(298,105),(299,106),(300,108),(301,109),(328,143),(329,144),(330,145),(331,146),(332,147),(343,169)] n,fun t=>V.pk [(0,0),(3,3),(4,4),(5,5),(9,9),(28,27),(46,93),(51,122),(53,124),(131,119),(182,113),(183,114),(218,140),(222,144),(228,156),(229,157)] t,fun x=>x⟩) {mixed:=V.mixed,f125:=by kernel_rfl,f128:=by kernel_rfl,f129:=by kernel_rfl,f189:=by kernel_rfl,f215:=by kernel_rfl,f216:=by kernel_rfl,f257:=by kernel_rfl,f294:=by kernel_rfl,f295:=by kernel_rfl,f296:=by kernel_rfl,f297:=by kernel_rfl,f298:=by kernel_rfl,f299:=by kernel_rfl,f300:=by kernel_rfl,f301:=by kernel_rfl,f328:=by kernel_rfl,f329:=by kernel_rfl,f330:=by kernel_rfl,f331:=by kernel_rfl,f332:=by kernel_rfl,f343:=by kernel_rfl,t0:=by kernel_rfl,a0:=fun w=>by kernel_rfl,z0:=fun w=>by kernel_rfl,v0:=fun w=>by kernel_rfl,t3:=by kernel_rfl,a3:=fun w=>by kernel_rfl,z3:=fun w=>by kernel_rfl,v3:=fun w=>by kernel_rfl,t4:=by kernel_rfl,a4:=fun w=>by kernel_rfl,z4:=fun w=>by kernel_rfl,v4:=fun w=>by kernel_rfl,t5:=by kernel_rfl,a5:=fun w=>by kernel_rfl,z5:=fun w=>by kernel_rfl,v5:=fun w=>by kernel_rfl,t9:=by kernel_rfl,a9:=fun w=>by kernel_rfl,z9:=fun w=>by kernel_rfl,v9:=fun w=>by kernel_rfl,t28:=by kernel_rfl,a28:=fun w=>by kernel_rfl,z28:=fun w=>by kernel_rfl,v28:=fun w=>by kernel_rfl,t46:=by kernel_rfl,a46:=fun w=>by kernel_rfl,z46:=fun w=>by kernel_rfl,v46:=fun w=>by kernel_rfl,t51:=by kernel_rfl,a51:=fun w=>by kernel_rfl,z51:=fun w=>by kernel_rfl,v51:=fun w=>by kernel_rfl,t53:=by kernel_rfl,a53:=fun w=>by kernel_rfl,z53:=fun w=>by kernel_rfl,v53:=fun w=>by kernel_rfl,t131:=by kernel_rfl,a131:=fun w=>by kernel_rfl,z131:=fun w=>by kernel_rfl,v131:=fun w=>by kernel_rfl,t182:=by kernel_rfl,a182:=fun w=>by kernel_rfl,z182:=fun w=>by kernel_rfl,v182:=fun w=>by kernel_rfl,t183:=by kernel_rfl,a183:=fun w=>by kernel_rfl,z183:=fun w=>by kernel_rfl,v183:=fun w=>by kernel_rfl,t218:=by kernel_rfl,a218:=fun w=>by kernel_rfl,z218:=fun w=>by kernel_rfl,v218:=fun w=>by kernel_rfl,t222:=by kernel_rfl,a222:=fun w=>by kernel_rfl,z222:=fun w=>by kernel_rfl,v222:=fun w=>by kernel_rfl,t228:=by kernel_rfl,a228:=fun w=>by kernel_rfl,z228:=fun w=>by kernel_rfl,v228:=fun w=>by kernel_rfl,t229:=by kernel_rfl,a229:=fun w=>by kernel_rfl,z229:=fun w=>by kernel_rfl,v229:=fun w=>by kernel_rfl}
noncomputable abbrev slices_Compact_int.con :V.Con:=⟨.cons (.sl V.iT) .nil, .cons (.sl V.iT) (.cons (.sl V.iT) .nil),fun(x:List Int)=>slices_Compact_int x,[(0,true)],[(false,1)],[(false,1)],[true],[]⟩
theorem slices_Compact_int.ok :V.Valid Tryz.prog 40 slices_Compact_int.con:=
 V.compact_valid (ρ:=⟨fun n=>V.pk [(20,40)] n,fun t=>V.pk [(0,0),(3,3),(4,4),(22,27)] t,fun x=>x⟩) {mixed:=V.mixed,f20:=by kernel_rfl,t0:=by kernel_rfl,a0:=fun w=>by kernel_rfl,z0:=fun w=>by kernel_rfl,v0:=fun w=>by kernel_rfl,t3:=by kernel_rfl,a3:=fun w=>by kernel_rfl,z3:=fun w=>by kernel_rfl,v3:=fun w=>by kernel_rfl,t4:=by kernel_rfl,a4:=fun w=>by kernel_rfl,z4:=fun w=>by kernel_rfl,v4:=fun w=>by kernel_rfl,t22:=by kernel_rfl,a22:=fun w=>by kernel_rfl,z22:=fun w=>by kernel_rfl,v22:=fun w=>by kernel_rfl,i3:=by kernel_rfl}
noncomputable abbrev ZP.con :V.Con:=⟨(.cons (.sl (V.ci .nil)) (.cons (.sl (V.ci (V.ci .nil))) .nil)),(.cons (.sl (V.ci .nil)) .nil),fun(x:List Int×List Z6)=>ZP x.1 x.2,[],[(false,1),(false,1)],[(false,1)],[true],[]⟩
noncomputable abbrev ZP.E :V.Env:=V.mkE V.tys [(38,XH.con),(39,slices_Sort_int.con),(40,slices_Compact_int.con)] [(6,[0,5,9,10,11],[(64000038400320,(V.ci .nil),true)])] [] [] [] []
noncomputable abbrev ZP.kt (x0:List Int)(x1:List Z6):V.Kt (List Int):=V.ktOf ZP.E ZP.con Tryz.f11 ((x0,x1):List Int×List Z6)
noncomputable abbrev ZP.s6 (x0:List Int)(x1:List Z6)(v6_2:Int)(v6_3:Int)(v6_4:List Int):V.St:=⟨[(0, .v false [.val (.sl (V.ci .nil) x0)]),(5, .v false [.ref 64000038400320]),(9, .v false [.val (.sl (V.ci (V.ci .nil)) x1)]),(10, .v false [.vi (v6_2)]),(11, .v false [.vi (v6_3)])],[(64000038400320, .row (V.ci .nil) true v6_4)]⟩
theorem ZP.r6 (x0:List Int)(x1:List Z6)(R:V.St→Option (List Int))(v6_2:Int)(v6_3:Int)(v6_4:List Int):V.loopF ZP.E Tryz.f11.ntmps [1,1,0,1,0] [] (V.codeOf Tryz.f11) (ZP.kt x0 x1) R (ZP.s6 x0 x1 v6_2 v6_3 v6_4)=ZP.g6 x0 x1 (fun v6_2 v6_3 v6_4=>R (ZP.s6 x0 x1 v6_2 v6_3 v6_4)) v6_2 v6_3 v6_4:=by kernel_rfl
theorem ZP.e6 (x0:List Int)(x1:List Z6):∀(n:Nat) (v6_2:Int) (v6_3:Int) (v6_4:List Int),V.loopN (V.loopF ZP.E Tryz.f11.ntmps [1,1,0,1,0] [] (V.codeOf Tryz.f11) (ZP.kt x0 x1)) n (ZP.s6 x0 x1 v6_2 v6_3 v6_4)=ZP.l6 x0 x1 n v6_2 v6_3 v6_4:=by
 intro n
 induction n with
 |zero=>intros;rw[V.loopN_z];rfl
 |succ n ih=>
  intro v6_2 v6_3 v6_4
  rw[V.loopN_s,ZP.r6]
  simp only[ih]
  first|exact(ZP.u6 ..).symm|rfl
theorem ZP.v (x0:List Int)(x1:List Z6):V.evBody ZP.E ZP.con Tryz.f11 ((x0,x1):List Int×List Z6)=ZP.b x0 x1 (fun v6_2 v6_3 v6_4=>V.loopN (V.loopF ZP.E Tryz.f11.ntmps [1,1,0,1,0] [] (V.codeOf Tryz.f11) (ZP.kt x0 x1)) V.KK (ZP.s6 x0 x1 v6_2 v6_3 v6_4)):=by kernel_rfl
theorem ZP.eq (x0:List Int)(x1:List Z6):V.evBody ZP.E ZP.con Tryz.f11 ((x0,x1):List Int×List Z6)=ZP x0 x1:=by
 rw[ZP.v]
 simp only[ZP.e6]
 rfl
theorem ZP.ok :V.Valid Tryz.prog 11 ZP.con:=
 V.fo (V.tab_cons XH.ok (V.tab_cons slices_Sort_int.ok (V.tab_cons slices_Compact_int.ok V.tab_nil))) Tryz.func11 (by kernel_rfl) (fun x y h=>(show V.evBody ZP.E ZP.con Tryz.f11 x=_ from ZP.eq x.1 x.2).trans (V.cfl (by kernel_rfl) h))
noncomputable abbrev Ye.con :V.Con:=⟨(.cons (.sl (V.ci .nil)) (V.ci .nil)),(V.ci .nil),fun(x:List Int×Int)=>Ye x.1 x.2,[],[(false,1),(false,1)],[(false,1)],[false],[]⟩
noncomputable abbrev Ye.E :V.Env:=V.mkE V.tys [] [(4,[0,1,7,8],[])] [] [] [] []
noncomputable abbrev Ye.kt (x0:List Int)(x1:Int):V.Kt Int:=V.ktOf Ye.E Ye.con Tryz.f74 ((x0,x1):List Int×Int)
noncomputable abbrev Ye.s4 (x0:List Int)(x1:Int)(v4_2:Int)(v4_3:Int):V.St:=⟨[(0, .v false [.val (.sl (V.ci .nil) x0)]),(1, .v false [.vi (x1)]),(7, .v false [.vi (v4_2)]),(8, .v false [.vi (v4_3)])],[]⟩
theorem Ye.r4 (x0:List Int)(x1:Int)(R:V.St→Option Int)(v4_2:Int)(v4_3:Int):V.loopF Ye.E Tryz.f74.ntmps [1,0,1,0] [] (V.codeOf Tryz.f74) (Ye.kt x0 x1) R (Ye.s4 x0 x1 v4_2 v4_3)=Ye.g4 x0 x1 (fun v4_2 v4_3=>R (Ye.s4 x0 x1 v4_2 v4_3)) v4_2 v4_3:=by kernel_rfl
theorem Ye.e4 (x0:List Int)(x1:Int):∀(n:Nat) (v4_2:Int) (v4_3:Int),V.loopN (V.loopF Ye.E Tryz.f74.ntmps [1,0,1,0] [] (V.codeOf Tryz.f74) (Ye.kt x0 x1)) n (Ye.s4 x0 x1 v4_2 v4_3)=Ye.l4 x0 x1 n v4_2 v4_3:=by
 intro n
 induction n with
 |zero=>intros;rw[V.loopN_z];rfl
 |succ n ih=>
  intro v4_2 v4_3
  rw[V.loopN_s,Ye.r4]
  simp only[ih]
  first|exact(Ye.u4 ..).symm|rfl
theorem Ye.v (x0:List Int)(x1:Int):V.evBody Ye.E Ye.con Tryz.f74 ((x0,x1):List Int×Int)=Ye.b x0 x1 (fun v4_2 v4_3=>V.loopN (V.loopF Ye.E Tryz.f74.ntmps [1,0,1,0] [] (V.codeOf Tryz.f74) (Ye.kt x0 x1)) V.KK (Ye.s4 x0 x1 v4_2 v4_3)):=by kernel_rfl
theorem Ye.eq (x0:List Int)(x1:Int):V.evBody Ye.E Ye.con Tryz.f74 ((x0,x1):List Int×Int)=Ye x0 x1:=by
 rw[Ye.v]
 simp only[Ye.e4]
 rfl
theorem Ye.ok :V.Valid Tryz.prog 74 Ye.con:=
 V.fo V.tab_nil Tryz.func74 (by kernel_rfl) (fun x y h=>(show V.evBody Ye.E Ye.con Tryz.f74 x=_ from Ye.eq x.1 x.2).trans (V.cfl (by kernel_rfl) h))
noncomputable abbrev Wj.con :V.Con:=⟨(.cons (.sl (V.ci .nil)) (V.ci .nil)),(.cons .bool .nil),fun(x:List Int×Int)=>Wj x.1 x.2,[],[(false,1),(false,1)],[(false,1)],[false],[]⟩
noncomputable abbrev Wj.E :V.Env:=V.mkE V.tys [(74,Ye.con)] [] [] [] [] []
theorem Wj.eq (x0:List Int)(x1:Int):V.evBody Wj.E Wj.con Tryz.f37 ((x0,x1):List Int×Int)=Wj x0 x1:=by kernel_rfl
theorem Wj.ok :V.Valid Tryz.prog 37 Wj.con:=
 V.fo (V.tab_cons Ye.ok V.tab_nil) Tryz.func37 (by kernel_rfl) (fun x y h=>(show V.evBody Wj.E Wj.con Tryz.f37 x=_ from Wj.eq x.1 x.2).trans (V.cfl (by kernel_rfl) h))
noncomputable abbrev XG.con :V.Con:=⟨(V.ci (.cons (.ptr (.cons (.sl (V.ci .nil)) .nil)) .nil)),(.cons .bool .nil),fun(x:Int×List Int)=>XG x.1 x.2,[],[(false,1),(false,1)],[(false,1)],[false],[]⟩
noncomputable abbrev XG.E :V.Env:=V.mkE V.tys [(37,Wj.con)] [] [] [] [] []
theorem XG.eq (x0:Int)(x1:List Int):V.evBody XG.E XG.con Tryz.f36 ((x0,x1):Int×List Int)=XG x0 x1:=by kernel_rfl
theorem XG.ok :V.Valid Tryz.prog 36 XG.con:=
 V.fo (V.tab_cons Wj.ok V.tab_nil) Tryz.func36 (by kernel_rfl) (fun x y h=>(show V.evBody XG.E XG.con Tryz.f36 x=_ from XG.eq x.1 x.2).trans (V.cfl (by kernel_rfl) h))
noncomputable abbrev Yd.con :V.Con:=⟨(.cons (.sl (V.ci .nil)) (.cons (.fn 36 false .nil (.cons (.ptr (.cons (.sl (V.ci .nil)) .nil)) .nil)) .nil)),(V.ci .nil),fun(x:List Int×(Unit)×(List Int))=>Yd x.1 x.2,[],[(false,1),(false,1)],[(false,1)],[false],[]⟩
noncomputable abbrev Yd.E :V.Env:=V.mkE V.tys [(36,XG.con)] [(4,[0,1,7,8],[])] [] [] [] []
noncomputable abbrev Yd.kt (x0:List Int)(x1:(Unit)×(List Int)):V.Kt Int:=V.ktOf Yd.E Yd.con Tryz.f73 ((x0,x1):List Int×(Unit)×(List Int))
noncomputable abbrev Yd.s4 (x0:List Int)(x1:(Unit)×(List Int))(v4_2:Int)(v4_3:Int):V.St:=⟨[(0, .v false [.val (.sl (V.ci .nil) x0)]),(1, .v false [.val (.fn 36 false .nil (.cons (.ptr (.cons (.sl (V.ci .nil)) .nil)) .nil) () x1.2)]),(7, .v false [.vi (v4_2)]),(8, .v false [.vi (v4_3)])],[]⟩
theorem Yd.r4 (x0:List Int)(x1:(Unit)×(List Int))(R:V.St→Option Int)(v4_2:Int)(v4_3:Int):V.loopF Yd.E Tryz.f73.ntmps [1,0,1,0] [] (V.codeOf Tryz.f73) (Yd.kt x0 x1) R (Yd.s4 x0 x1 v4_2 v4_3)=Yd.g4 x0 x1 (fun v4_2 v4_3=>R (Yd.s4 x0 x1 v4_2 v4_3)) v4_2 v4_3:=by kernel_rfl
theorem Yd.e4 (x0:List Int)(x1:(Unit)×(List Int)):∀(n:Nat) (v4_2:Int) (v4_3:Int),V.loopN (V.loopF Yd.E Tryz.f73.ntmps [1,0,1,0] [] (V.codeOf Tryz.f73) (Yd.kt x0 x1)) n (Yd.s4 x0 x1 v4_2 v4_3)=Yd.l4 x0 x1 n v4_2 v4_3:=by
 intro n
 induction n with
 |zero=>intros;rw[V.loopN_z];rfl
 |succ n ih=>
  intro v4_2 v4_3
  rw[V.loopN_s,Yd.r4]
  simp only[ih]
  first|exact(Yd.u4 ..).symm|rfl
theorem Yd.v (x0:List Int)(x1:(Unit)×(List Int)):V.evBody Yd.E Yd.con Tryz.f73 ((x0,x1):List Int×(Unit)×(List Int))=Yd.b x0 x1 (fun v4_2 v4_3=>V.loopN (V.loopF Yd.E Tryz.f73.ntmps [1,0,1,0] [] (V.codeOf Tryz.f73) (Yd.kt x0 x1)) V.KK (Yd.s4 x0 x1 v4_2 v4_3)):=by kernel_rfl
theorem Yd.eq (x0:List Int)(x1:(Unit)×(List Int)):V.evBody Yd.E Yd.con Tryz.f73 ((x0,x1):List Int×(Unit)×(List Int))=Yd x0 x1:=by
 rw[Yd.v]
 simp only[Yd.e4]
 rfl
theorem Yd.ok :V.Valid Tryz.prog 73 Yd.con:=
 V.fo (V.tab_cons XG.ok V.tab_nil) Tryz.func73 (by kernel_rfl) (fun x y h=>(show V.evBody Yd.E Yd.con Tryz.f73 x=_ from Yd.eq x.1 x.2).trans (V.cfl (by kernel_rfl) h))
noncomputable abbrev Y6.con :V.Con:=⟨(.cons (.sl (V.ci .nil)) (.cons (.fn 36 false .nil (.cons (.ptr (.cons (.sl (V.ci .nil)) .nil)) .nil)) .nil)),(.cons (.sl (V.ci .nil)) (.cons (.sl (V.ci .nil)) .nil)),fun(x:List Int×(Unit)×(List Int))=>Y6 x.1 x.2,[(0,true)],[(false,1),(false,1)],[(false,1)],[true],[]⟩
noncomputable abbrev Y6.E :V.Env:=V.mkE V.tys [(36,XG.con),(73,Yd.con)] [(10,[0,1,5,6],[])] [] [] [] []
noncomputable abbrev Y6.kt (x0:List Int)(x1:(Unit)×(List Int)):V.Kt (List Int×List Int):=V.ktOf Y6.E Y6.con Tryz.f35 ((x0,x1):List Int×(Unit)×(List Int))
noncomputable abbrev Y6.s10 (x1:(Unit)×(List Int))(v10_1:Int)(v10_2:Int)(v10_3:List Int):V.St:=⟨[(0, .v false [.ref 0]),(1, .v false [.val (.fn 36 false .nil (.cons (.ptr (.cons (.sl (V.ci .nil)) .nil)) .nil) () x1.2)]),(5, .v false [.vi (v10_1)]),(6, .v false [.vi (v10_2)])],[(0, .row (V.ci .nil) true v10_3)]⟩
theorem Y6.r10 (x0:List Int)(x1:(Unit)×(List Int))(R:V.St→Option (List Int×List Int))(v10_1:Int)(v10_2:Int)(v10_3:List Int):V.loopF Y6.E Tryz.f35.ntmps [1,1,1,0,1,0] [] (V.codeOf Tryz.f35) (Y6.kt x0 x1) R (Y6.s10 x1 v10_1 v10_2 v10_3)=Y6.g10 x1 (fun v10_1 v10_2 v10_3=>R (Y6.s10 x1 v10_1 v10_2 v10_3)) v10_1 v10_2 v10_3:=by kernel_rfl
theorem Y6.e10 (x0:List Int)(x1:(Unit)×(List Int)):∀(n:Nat) (v10_1:Int) (v10_2:Int) (v10_3:List Int),V.loopN (V.loopF Y6.E Tryz.f35.ntmps [1,1,1,0,1,0] [] (V.codeOf Tryz.f35) (Y6.kt x0 x1)) n (Y6.s10 x1 v10_1 v10_2 v10_3)=Y6.l10 x1 n v10_1 v10_2 v10_3:=by
 intro n
 induction n with
 |zero=>intros;rw[V.loopN_z];rfl
 |succ n ih=>
  intro v10_1 v10_2 v10_3
  rw[V.loopN_s,Y6.r10]
  simp only[ih]
  first|exact(Y6.u10 ..).symm|rfl
theorem Y6.v (x0:List Int)(x1:(Unit)×(List Int)):V.evBody Y6.E Y6.con Tryz.f35 ((x0,x1):List Int×(Unit)×(List Int))=Y6.b x0 x1 (fun v10_1 v10_2 v10_3=>V.loopN (V.loopF Y6.E Tryz.f35.ntmps [1,1,1,0,1,0] [] (V.codeOf Tryz.f35) (Y6.kt x0 x1)) V.KK (Y6.s10 x1 v10_1 v10_2 v10_3)):=by kernel_rfl
theorem Y6.eq (x0:List Int)(x1:(Unit)×(List Int)):V.evBody Y6.E Y6.con Tryz.f35 ((x0,x1):List Int×(Unit)×(List Int))=Y6 x0 x1:=by
 rw[Y6.v]
 simp only[Y6.e10]
 rfl
theorem Y6.ok :V.Valid Tryz.prog 35 Y6.con:=
 V.fo (V.tab_cons XG.ok (V.tab_cons Yd.ok V.tab_nil)) Tryz.func35 (by kernel_rfl) (fun x y h=>(show V.evBody Y6.E Y6.con Tryz.f35 x=_ from Y6.eq x.1 x.2).trans (V.cfl (by kernel_rfl) h))
noncomputable abbrev X5.con :V.Con:=⟨V.A10,(.cons (.sl (V.ci .nil)) .nil),fun(x:V.D10)=>X5 (V.p10_0 x),[],[(true,51)],[(false,1)],[true],[]⟩
noncomputable abbrev X5.E :V.Env:=V.mkE V.tys [(11,ZP.con),(13,YP.con),(34,YE.con),(35,Y6.con)] [] [(3,9),(4,9)] [] [] []
noncomputable abbrev X5.kt (x0:Zi):V.Kt (List Int):=V.ktOf X5.E X5.con Tryz.f9 (V.fl10 x0)
noncomputable abbrev X5.s (x0:Zi):V.St:=⟨[(0, .v true (V.lsFork x0))],[]⟩
theorem X5.v0 (x0:Zi):V.evBody X5.E X5.con Tryz.f9 (V.fl10 x0)=V.evC X5.E Tryz.f9.ntmps (V.codeOf Tryz.f9) (X5.kt x0) (X5.s x0):=by kernel_rfl
theorem X5.v (x0:Zi):V.evC X5.E Tryz.f9.ntmps (V.codeOf Tryz.f9) (X5.kt x0) (X5.s x0)=X5 x0:=by kernel_rfl
theorem X5.eq (x0:Zi):V.evBody X5.E X5.con Tryz.f9 (V.fl10 x0)=X5 x0:=(X5.v0 x0).trans (X5.v x0)
theorem X5.ok :V.Valid Tryz.prog 9 X5.con:=
 V.fo (V.tab_cons ZP.ok (V.tab_cons YP.ok (V.tab_cons YE.ok (V.tab_cons Y6.ok V.tab_nil)))) Tryz.func9 (by kernel_rfl) (fun x y h=>(show V.evBody X5.E X5.con Tryz.f9 x=_ from X5.eq (V.p10_0 x)).trans (V.cfl (by kernel_rfl) h))
noncomputable abbrev Y5.con :V.Con:=⟨(.cons (.sl (V.ci .nil)) (V.ci .nil)),(.cons .bool .nil),fun(x:List Int×Int)=>Y5 x.1 x.2,[],[(false,1),(false,1)],[(false,1)],[false],[]⟩
noncomputable abbrev Y5.E :V.Env:=V.mkE V.tys [] [(4,[0,1,5],[])] [] [] [] []
noncomputable abbrev Y5.kt (x0:List Int)(x1:Int):V.Kt Bool:=V.ktOf Y5.E Y5.con Tryz.f10 ((x0,x1):List Int×Int)
noncomputable abbrev Y5.s4 (x0:List Int)(x1:Int)(v4_2:Int):V.St:=⟨[(0, .v false [.val (.sl (V.ci .nil) x0)]),(1, .v false [.vi (x1)]),(5, .v false [.vi (v4_2)])],[]⟩
theorem Y5.r4 (x0:List Int)(x1:Int)(R:V.St→Option Bool)(v4_2:Int):V.loopF Y5.E Tryz.f10.ntmps [1,0,1,0] [] (V.codeOf Tryz.f10) (Y5.kt x0 x1) R (Y5.s4 x0 x1 v4_2)=Y5.g4 x0 x1 (fun v4_2=>R (Y5.s4 x0 x1 v4_2)) v4_2:=by kernel_rfl
theorem Y5.e4 (x0:List Int)(x1:Int):∀(n:Nat) (v4_2:Int),V.loopN (V.loopF Y5.E Tryz.f10.ntmps [1,0,1,0] [] (V.codeOf Tryz.f10) (Y5.kt x0 x1)) n (Y5.s4 x0 x1 v4_2)=Y5.l4 x0 x1 n v4_2:=by
 intro n
 induction n with
 |zero=>intros;rw[V.loopN_z];rfl
 |succ n ih=>
  intro v4_2
  rw[V.loopN_s,Y5.r4]
  simp only[ih]
  first|exact(Y5.u4 ..).symm|rfl
theorem Y5.v (x0:List Int)(x1:Int):V.evBody Y5.E Y5.con Tryz.f10 ((x0,x1):List Int×Int)=Y5.b x0 x1 (fun v4_2=>V.loopN (V.loopF Y5.E Tryz.f10.ntmps [1,0,1,0] [] (V.codeOf Tryz.f10) (Y5.kt x0 x1)) V.KK (Y5.s4 x0 x1 v4_2)):=by kernel_rfl
theorem Y5.eq (x0:List Int)(x1:Int):V.evBody Y5.E Y5.con Tryz.f10 ((x0,x1):List Int×Int)=Y5 x0 x1:=by
 rw[Y5.v]
 simp only[Y5.e4]
 rfl
theorem Y5.ok :V.Valid Tryz.prog 10 Y5.con:=
 V.fo V.tab_nil Tryz.func10 (by kernel_rfl) (fun x y h=>(show V.evBody Y5.E Y5.con Tryz.f10 x=_ from Y5.eq x.1 x.2).trans (V.cfl (by kernel_rfl) h))
noncomputable abbrev Xa.con :V.Con:=⟨V.A10,V.eFork,fun(x:V.D10)=>Xa (V.p10_0 x),[],[(true,51)],[(true,51)],[false,false,false,false,false,false,false,false,true,false,true,false,false,true,false,false,true,false,false,false,false,false,false,false,false,true,false,true,false,false,true,false,false,true,false,false,false,false,false,false,false,false,true,false,true,false,false,true,false,false,true],[]⟩
noncomputable abbrev Xa.E :V.Env:=V.mkE V.tys [(28,YQ.con)] [] [(1,8)] [] [] []
noncomputable abbrev Xa.kt (x0:Zi):V.Kt Zi:=V.ktOf Xa.E Xa.con Tryz.f44 (V.fl10 x0)
noncomputable abbrev Xa.s (x0:Zi):V.St:=⟨[(0, .v true (V.lsFork x0))],[]⟩
theorem Xa.v0 (x0:Zi):V.evBody Xa.E Xa.con Tryz.f44 (V.fl10 x0)=V.evC Xa.E Tryz.f44.ntmps (V.codeOf Tryz.f44) (Xa.kt x0) (Xa.s x0):=by kernel_rfl
theorem Xa.v (x0:Zi):V.evC Xa.E Tryz.f44.ntmps (V.codeOf Tryz.f44) (Xa.kt x0) (Xa.s x0)=Xa x0:=by kernel_rfl
theorem Xa.eq (x0:Zi):V.evBody Xa.E Xa.con Tryz.f44 (V.fl10 x0)=Xa x0:=(Xa.v0 x0).trans (Xa.v x0)
theorem Xa.ok :V.Valid Tryz.prog 44 Xa.con:=
 V.fo (V.tab_cons YQ.ok V.tab_nil) Tryz.func44 (by kernel_rfl) (fun x y h=>(show V.evBody Xa.E Xa.con Tryz.f44 x=_ from Xa.eq (V.p10_0 x)).trans (V.cfl (by kernel_rfl) h))
noncomputable abbrev X3.con :V.Con:=⟨V.A10,V.eFork,fun(x:V.D10)=>X3 (V.p10_0 x),[],[(true,51)],[(true,51)],[false,false,false,false,false,false,false,false,true,false,true,false,false,true,false,false,true,false,false,false,false,false,false,false,false,true,false,true,false,false,true,false,false,true,false,false,false,false,false,false,false,false,true,false,true,false,false,true,false,false,true],[]⟩
noncomputable abbrev X3.E :V.Env:=V.mkE V.tys [(44,Xa.con)] [] [] [] [] []
noncomputable abbrev X3.kt (x0:Zi):V.Kt Zi:=V.ktOf X3.E X3.con Tryz.f14 (V.fl10 x0)
noncomputable abbrev X3.s (x0:Zi):V.St:=⟨[(0, .v true (V.lsFork x0))],[]⟩
theorem X3.v0 (x0:Zi):V.evBody X3.E X3.con Tryz.f14 (V.fl10 x0)=V.evC X3.E Tryz.f14.ntmps (V.codeOf Tryz.f14) (X3.kt x0) (X3.s x0):=by kernel_rfl
theorem X3.v (x0:Zi):V.evC X3.E Tryz.f14.ntmps (V.codeOf Tryz.f14) (X3.kt x0) (X3.s x0)=X3 x0:=by kernel_rfl
theorem X3.eq (x0:Zi):V.evBody X3.E X3.con Tryz.f14 (V.fl10 x0)=X3 x0:=(X3.v0 x0).trans (X3.v x0)
theorem X3.ok :V.Valid Tryz.prog 14 X3.con:=
 V.fo (V.tab_cons Xa.ok V.tab_nil) Tryz.func14 (by kernel_rfl) (fun x y h=>(show V.evBody X3.E X3.con Tryz.f14 x=_ from X3.eq (V.p10_0 x)).trans (V.cfl (by kernel_rfl) h))
noncomputable abbrev X6.con :V.Con:=⟨V.A10,(V.ci .nil),fun(x:V.D10)=>X6 (V.p10_0 x),[],[(true,51)],[(false,1)],[false],[]⟩
noncomputable abbrev X6.E :V.Env:=V.mkE V.tys [(13,YP.con)] [] [] [] [] []
noncomputable abbrev X6.kt (x0:Zi):V.Kt Int:=V.ktOf X6.E X6.con Tryz.f15 (V.fl10 x0)
noncomputable abbrev X6.s (x0:Zi):V.St:=⟨[(0, .v true (V.lsFork x0))],[]⟩
theorem X6.v0 (x0:Zi):V.evBody X6.E X6.con Tryz.f15 (V.fl10 x0)=V.evC X6.E Tryz.f15.ntmps (V.codeOf Tryz.f15) (X6.kt x0) (X6.s x0):=by kernel_rfl
theorem X6.v (x0:Zi):V.evC X6.E Tryz.f15.ntmps (V.codeOf Tryz.f15) (X6.kt x0) (X6.s x0)=X6 x0:=by kernel_rfl
theorem X6.eq (x0:Zi):V.evBody X6.E X6.con Tryz.f15 (V.fl10 x0)=X6 x0:=(X6.v0 x0).trans (X6.v x0)
theorem X6.ok :V.Valid Tryz.prog 15 X6.con:=
 V.fo (V.tab_cons YP.ok V.tab_nil) Tryz.func15 (by kernel_rfl) (fun x y h=>(show V.evBody X6.E X6.con Tryz.f15 x=_ from X6.eq (V.p10_0 x)).trans (V.cfl (by kernel_rfl) h))
noncomputable abbrev Yz.con :V.Con:=⟨(.cons (.ptr (.cons (.sl (.cons (.int .u8) .nil)) (V.ci (V.ci .nil)))) .nil),(.cons (.ptr (.cons (.sl (.cons (.int .u8) .nil)) (V.ci (V.ci .nil)))) (V.ci (V.ci (V.ci (V.ci (V.ci (V.ci (V.ci (V.ci (.cons (.sl (V.ci .nil)) (V.ci (.cons (.sl (V.ci .nil)) (V.ci (V.ci (.cons (.sl (V.ci .nil)) (V.ci (.cons .bool (.cons (.sl (V.ci (V.ci .nil))) (V.ci (V.ci (V.ci (V.ci (V.ci (V.ci (V.ci (V.ci (.cons (.sl (V.ci .nil)) (V.ci (.cons (.sl (V.ci .nil)) (V.ci (V.ci (.cons (.sl (V.ci .nil)) (V.ci (.cons .bool (.cons (.sl (V.ci (V.ci .nil))) (V.ci (V.ci (V.ci (V.ci (V.ci (V.ci (V.ci (V.ci (.cons (.sl (V.ci .nil)) (V.ci (.cons (.sl (V.ci .nil)) (V.ci (V.ci (.cons (.sl (V.ci .nil)) (V.ci (.cons .bool (.cons (.sl (V.ci (V.ci .nil))) .nil)))))))))))))))))))))))))))))))))))))))))))))))))))),fun(x:(Z3))=>Yz x,[(0,false)],[(false,1)],[(true,51)],[false,false,false,false,false,false,false,false,true,false,true,false,false,true,false,false,true,false,false,false,false,false,false,false,false,true,false,true,false,false,true,false,false,true,false,false,false,false,false,false,false,false,true,false,true,false,false,true,false,false,true],[]⟩
noncomputable abbrev Yz.E :V.Env:=V.mkE V.tys [(7,Zz.con),(22,Zn.con),(32,Yh.con),(55,Xk.con),(58,XP.con)] [(11,[0,2,5],[(64000000000012312584,(V.ci .nil),true),(64000000000012312586,(V.ci .nil),true),(64000000000012312589,(V.ci .nil),true),(64000000000012312592,(V.ci (V.ci .nil)),true),(999999,(.cons .bool .nil),false)])] [(4,7)] [] [] []
noncomputable abbrev Yz.kt (x0:(Z3)):V.Kt ((Z3)×Int×Int×Int×Int×Int×Int×Int×Int×List Int×Int×List Int×Int×Int×List Int×Int×Bool×List Z6×Int×Int×Int×Int×Int×Int×Int×Int×List Int×Int×List Int×Int×Int×List Int×Int×Bool×List Z6×Int×Int×Int×Int×Int×Int×Int×Int×List Int×Int×List Int×Int×Int×List Int×Int×Bool×List Z6):=V.ktOf Yz.E Yz.con Tryz.f45 ((x0):(Z3))
noncomputable abbrev Yz.s11 (x0:(Z3))(y1:(Z3)×List Z0×List Z0)(v11_42:Int)(v11_43:Int)(v11_44:Int)(v11_45:Int)(v11_46:Int)(v11_47:Int)(v11_48:Int)(v11_49:Int)(v11_50:Int)(v11_51:Int)(v11_52:Int)(v11_53:Int)(v11_54:Bool)(v11_55:Int)(v11_56:Int)(v11_57:Int)(v11_58:Int)(v11_59:Int)(v11_60:Int)(v11_61:Int)(v11_62:Int)(v11_63:Int)(v11_64:Int)(v11_65:Int)(v11_66:Int)(v11_67:Bool)(v11_68:Int)(v11_69:Int)(v11_70:Int)(v11_71:Int)(v11_72:Int)(v11_73:Int)(v11_74:Int)(v11_75:Int)(v11_76:Int)(v11_77:Int)(v11_78:Int)(v11_79:Int)(v11_80:Bool)(v11_81:List Int)(v11_82:List Int)(v11_83:List Int)(v11_84:List Z6)(v11_85:List Int)(v11_86:List Int)(v11_87:List Int)(v11_88:List Z6)(v11_89:List Int)(v11_90:List Int)(v11_91:List Int)(v11_92:List Z6):V.St:=⟨[(0, .v false [.ptr 0 0]),(2, .v false [.ptr 64000 0]),(5, .v false [.ptr 192384 0])],[(0, .box [.val (.sl (.cons (.int .u8) .nil) x0.1), .vi (y1.1.2.1), .vi (y1.1.2.2)]),(64000, .box [.vi ((0:Int)), .vi ((0:Int)), .vi ((0:Int)), .vi ((0:Int)), .vi ((0:Int)), .vi ((0:Int)), .vi ((0:Int)), .vi ((0:Int)), .nil0, .vi ((0:Int)), .nil0, .vi ((0:Int)), .vi ((0:Int)), .nil0, .vi ((0:Int)), .val (.bool false), .nil0, .vi ((0:Int)), .vi ((0:Int)), .vi ((0:Int)), .vi ((0:Int)), .vi ((0:Int)), .vi ((0:Int)), .vi ((0:Int)), .vi ((0:Int)), .nil0, .vi ((0:Int)), .nil0, .vi ((0:Int)), .vi ((0:Int)), .nil0, .vi ((0:Int)), .val (.bool false), .nil0, .vi ((0:Int)), .vi ((0:Int)), .vi ((0:Int)), .vi ((0:Int)), .vi ((0:Int)), .vi ((0:Int)), .vi ((0:Int)), .vi ((0:Int)), .nil0, .vi ((0:Int)), .nil0, .vi ((0:Int)), .vi ((0:Int)), .nil0, .vi ((0:Int)), .val (.bool false), .nil0]),(192384, .box [.vi (v11_42), .vi (v11_43), .vi (v11_44), .vi (v11_45), .vi (v11_46), .vi (v11_47), .vi (v11_48), .vi (v11_49), .ref 64000000000012312584, .vi (v11_50), .ref 64000000000012312586, .vi (v11_51), .vi (v11_52), .ref 64000000000012312589, .vi (v11_53), .val (.bool v11_54), .ref 64000000000012312592, .vi (v11_55), .vi (v11_56), .vi (v11_57), .vi (v11_58), .vi (v11_59), .vi (v11_60), .vi (v11_61), .vi (v11_62), .ref 64000000000012312601, .vi (v11_63), .ref 64000000000012312603, .vi (v11_64), .vi (v11_65), .ref 64000000000012312606, .vi (v11_66), .val (.bool v11_67), .ref 64000000000012312609, .vi (v11_68), .vi (v11_69), .vi (v11_70), .vi (v11_71), .vi (v11_72), .vi (v11_73), .vi (v11_74), .vi (v11_75), .ref 64000000000012312618, .vi (v11_76), .ref 64000000000012312620, .vi (v11_77), .vi (v11_78), .ref 64000000000012312623, .vi (v11_79), .val (.bool v11_80), .ref 64000000000012312626]),(64000000000012312584, .row (V.ci .nil) true v11_81),(64000000000012312586, .row (V.ci .nil) true v11_82),(64000000000012312589, .row (V.ci .nil) true v11_83),(64000000000012312592, .row (V.ci (V.ci .nil)) true v11_84),(64000000000012312601, .row (V.ci .nil) true v11_85),(64000000000012312603, .row (V.ci .nil) true v11_86),(64000000000012312606, .row (V.ci .nil) true v11_87),(64000000000012312609, .row (V.ci (V.ci .nil)) true v11_88),(64000000000012312618, .row (V.ci .nil) true v11_89),(64000000000012312620, .row (V.ci .nil) true v11_90),(64000000000012312623, .row (V.ci .nil) true v11_91),(64000000000012312626, .row (V.ci (V.ci .nil)) true v11_92)]⟩
theorem Yz.r11 (x0:(Z3))(y1:(Z3)×List Z0×List Z0)(v11_42:Int)(v11_43:Int)(v11_44:Int)(v11_45:Int)(v11_46:Int)(v11_47:Int)(v11_48:Int)(v11_49:Int)(v11_50:Int)(v11_51:Int)(v11_52:Int)(v11_53:Int)(v11_54:Bool)(v11_55:Int)(v11_56:Int)(v11_57:Int)(v11_58:Int)(v11_59:Int)(v11_60:Int)(v11_61:Int)(v11_62:Int)(v11_63:Int)(v11_64:Int)(v11_65:Int)(v11_66:Int)(v11_67:Bool)(v11_68:Int)(v11_69:Int)(v11_70:Int)(v11_71:Int)(v11_72:Int)(v11_73:Int)(v11_74:Int)(v11_75:Int)(v11_76:Int)(v11_77:Int)(v11_78:Int)(v11_79:Int)(v11_80:Bool)(v11_81:List Int)(v11_82:List Int)(v11_83:List Int)(v11_84:List Z6)(v11_85:List Int)(v11_86:List Int)(v11_87:List Int)(v11_88:List Z6)(v11_89:List Int)(v11_90:List Int)(v11_91:List Int)(v11_92:List Z6):V.joinF Yz.E Tryz.f45.ntmps [1,1,1] [] (V.codeOf Tryz.f45) (Yz.kt x0) (Yz.s11 x0 y1 v11_42 v11_43 v11_44 v11_45 v11_46 v11_47 v11_48 v11_49 v11_50 v11_51 v11_52 v11_53 v11_54 v11_55 v11_56 v11_57 v11_58 v11_59 v11_60 v11_61 v11_62 v11_63 v11_64 v11_65 v11_66 v11_67 v11_68 v11_69 v11_70 v11_71 v11_72 v11_73 v11_74 v11_75 v11_76 v11_77 v11_78 v11_79 v11_80 v11_81 v11_82 v11_83 v11_84 v11_85 v11_86 v11_87 v11_88 v11_89 v11_90 v11_91 v11_92)=Yz.g11 x0 y1 v11_42 v11_43 v11_44 v11_45 v11_46 v11_47 v11_48 v11_49 v11_50 v11_51 v11_52 v11_53 v11_54 v11_55 v11_56 v11_57 v11_58 v11_59 v11_60 v11_61 v11_62 v11_63 v11_64 v11_65 v11_66 v11_67 v11_68 v11_69 v11_70 v11_71 v11_72 v11_73 v11_74 v11_75 v11_76 v11_77 v11_78 v11_79 v11_80 v11_81 v11_82 v11_83 v11_84 v11_85 v11_86 v11_87 v11_88 v11_89 v11_90 v11_91 v11_92:=by kernel_rfl
theorem Yz.e11 (x0:(Z3))(y1:(Z3)×List Z0×List Z0)(v11_42:Int)(v11_43:Int)(v11_44:Int)(v11_45:Int)(v11_46:Int)(v11_47:Int)(v11_48:Int)(v11_49:Int)(v11_50:Int)(v11_51:Int)(v11_52:Int)(v11_53:Int)(v11_54:Bool)(v11_55:Int)(v11_56:Int)(v11_57:Int)(v11_58:Int)(v11_59:Int)(v11_60:Int)(v11_61:Int)(v11_62:Int)(v11_63:Int)(v11_64:Int)(v11_65:Int)(v11_66:Int)(v11_67:Bool)(v11_68:Int)(v11_69:Int)(v11_70:Int)(v11_71:Int)(v11_72:Int)(v11_73:Int)(v11_74:Int)(v11_75:Int)(v11_76:Int)(v11_77:Int)(v11_78:Int)(v11_79:Int)(v11_80:Bool)(v11_81:List Int)(v11_82:List Int)(v11_83:List Int)(v11_84:List Z6)(v11_85:List Int)(v11_86:List Int)(v11_87:List Int)(v11_88:List Z6)(v11_89:List Int)(v11_90:List Int)(v11_91:List Int)(v11_92:List Z6):V.jn (V.joinF Yz.E Tryz.f45.ntmps [1,1,1] [] (V.codeOf Tryz.f45) (Yz.kt x0)) (Yz.s11 x0 y1 v11_42 v11_43 v11_44 v11_45 v11_46 v11_47 v11_48 v11_49 v11_50 v11_51 v11_52 v11_53 v11_54 v11_55 v11_56 v11_57 v11_58 v11_59 v11_60 v11_61 v11_62 v11_63 v11_64 v11_65 v11_66 v11_67 v11_68 v11_69 v11_70 v11_71 v11_72 v11_73 v11_74 v11_75 v11_76 v11_77 v11_78 v11_79 v11_80 v11_81 v11_82 v11_83 v11_84 v11_85 v11_86 v11_87 v11_88 v11_89 v11_90 v11_91 v11_92)=Yz.l11 x0 y1 v11_42 v11_43 v11_44 v11_45 v11_46 v11_47 v11_48 v11_49 v11_50 v11_51 v11_52 v11_53 v11_54 v11_55 v11_56 v11_57 v11_58 v11_59 v11_60 v11_61 v11_62 v11_63 v11_64 v11_65 v11_66 v11_67 v11_68 v11_69 v11_70 v11_71 v11_72 v11_73 v11_74 v11_75 v11_76 v11_77 v11_78 v11_79 v11_80 v11_81 v11_82 v11_83 v11_84 v11_85 v11_86 v11_87 v11_88 v11_89 v11_90 v11_91 v11_92:=by
 rw[V.jn_eq,Yz.r11]
 rfl
theorem Yz.v (x0:(Z3)):V.evBody Yz.E Yz.con Tryz.f45 ((x0):(Z3))=Yz.b x0 (fun y1 v11_42 v11_43 v11_44 v11_45 v11_46 v11_47 v11_48 v11_49 v11_50 v11_51 v11_52 v11_53 v11_54 v11_55 v11_56 v11_57 v11_58 v11_59 v11_60 v11_61 v11_62 v11_63 v11_64 v11_65 v11_66 v11_67 v11_68 v11_69 v11_70 v11_71 v11_72 v11_73 v11_74 v11_75 v11_76 v11_77 v11_78 v11_79 v11_80 v11_81 v11_82 v11_83 v11_84 v11_85 v11_86 v11_87 v11_88 v11_89 v11_90 v11_91 v11_92=>V.jn (V.joinF Yz.E Tryz.f45.ntmps [1,1,1] [] (V.codeOf Tryz.f45) (Yz.kt x0)) (Yz.s11 x0 y1 v11_42 v11_43 v11_44 v11_45 v11_46 v11_47 v11_48 v11_49 v11_50 v11_51 v11_52 v11_53 v11_54 v11_55 v11_56 v11_57 v11_58 v11_59 v11_60 v11_61 v11_62 v11_63 v11_64 v11_65 v11_66 v11_67 v11_68 v11_69 v11_70 v11_71 v11_72 v11_73 v11_74 v11_75 v11_76 v11_77 v11_78 v11_79 v11_80 v11_81 v11_82 v11_83 v11_84 v11_85 v11_86 v11_87 v11_88 v11_89 v11_90 v11_91 v11_92)):=by kernel_rfl
theorem Yz.eq (x0:(Z3)):V.evBody Yz.E Yz.con Tryz.f45 ((x0):(Z3))=Yz x0:=by
 rw[Yz.v]
 simp only[Yz.e11]
 rfl
theorem Yz.ok :V.Valid Tryz.prog 45 Yz.con:=
 V.fo (V.tab_cons Zz.ok (V.tab_cons Zn.ok (V.tab_cons Yh.ok (V.tab_cons Xk.ok (V.tab_cons XP.ok V.tab_nil))))) Tryz.func45 (by kernel_rfl) (fun x y h=>(show V.evBody Yz.E Yz.con Tryz.f45 x=_ from Yz.eq x).trans (V.cfl (by kernel_rfl) h))
noncomputable abbrev Wl.con :V.Con:=⟨(.cons (.sl (.cons (.int .u8) .nil)) .nil),V.eFork,fun(x:List Int)=>Wl x,[],[(false,1)],[(true,51)],[false,false,false,false,false,false,false,false,true,false,true,false,false,true,false,false,true,false,false,false,false,false,false,false,false,true,false,true,false,false,true,false,false,true,false,false,false,false,false,false,false,false,true,false,true,false,false,true,false,false,true],[]⟩
noncomputable abbrev Wl.E :V.Env:=V.mkE V.tys [(21,Zv.con),(45,Yz.con)] [] [] [] [] []
theorem Wl.eq (x0:List Int):V.evBody Wl.E Wl.con Tryz.f16 ((x0):List Int)=Wl x0:=by kernel_rfl
theorem Wl.ok :V.Valid Tryz.prog 16 Wl.con:=
 V.fo (V.tab_cons Zv.ok (V.tab_cons Yz.ok V.tab_nil)) Tryz.func16 (by kernel_rfl) (fun x y h=>(show V.evBody Wl.E Wl.con Tryz.f16 x=_ from Wl.eq x).trans (V.cfl (by kernel_rfl) h))
noncomputable abbrev Zt.con :V.Con:=⟨V.A8,(.cons .bool .nil),fun(x:V.D8)=>Zt (V.p8_0 x) (V.p8_1 x),[],[(true,17),(true,17)],[(false,1)],[false],[]⟩
noncomputable abbrev Zt.E :V.Env:=V.mkE V.tys [(31,YI.con)] [(7,[2,3],[]),(8,[2,3,5],[])] [(6,10)] [] [] []
noncomputable abbrev Zt.kt (x0:Z0)(x1:Z0):V.Kt Bool:=V.ktOf Zt.E Zt.con Tryz.f46 (V.fl8 x0 x1)
noncomputable abbrev Zt.s8 (x0:Z0)(x1:Z0)(v8_0:Int):V.St:=⟨[(2, .v false [.ptr 64000 0]),(3, .v false [.ptr 64064 0]),(5, .v false [.vi (v8_0)])],[(64000, .box (V.lsSigned x0)),(64064, .box (V.lsSigned x1))]⟩
noncomputable abbrev Zt.s7 (x0:Z0)(x1:Z0):V.St:=⟨[(2, .v false [.ptr 64000 0]),(3, .v false [.ptr 64064 0])],[(64000, .box (V.lsSigned x0)),(64064, .box (V.lsSigned x1))]⟩
theorem Zt.r8 (x0:Z0)(x1:Z0)(R:V.St→Option Bool)(v8_0:Int):V.loopF Zt.E Tryz.f46.ntmps [1,1,0,1,0] [] (V.codeOf Tryz.f46) (Zt.kt x0 x1) R (Zt.s8 x0 x1 v8_0)=Zt.g8 x0 x1 (fun v8_0=>R (Zt.s8 x0 x1 v8_0)) v8_0:=by kernel_rfl
theorem Zt.e8 (x0:Z0)(x1:Z0):∀(n:Nat) (v8_0:Int),V.loopN (V.loopF Zt.E Tryz.f46.ntmps [1,1,0,1,0] [] (V.codeOf Tryz.f46) (Zt.kt x0 x1)) n (Zt.s8 x0 x1 v8_0)=Zt.l8 x0 x1 n v8_0:=by
 intro n
 induction n with
 |zero=>intros;rw[V.loopN_z];rfl
 |succ n ih=>
  intro v8_0
  rw[V.loopN_s,Zt.r8]
  simp only[ih]
  first|exact(Zt.u8 ..).symm|rfl
theorem Zt.r7 (x0:Z0)(x1:Z0):V.joinF Zt.E Tryz.f46.ntmps [1] [] (V.codeOf Tryz.f46) (Zt.kt x0 x1) (Zt.s7 x0 x1)=Zt.g7 x0 x1 (fun v8_0=>V.loopN (V.loopF Zt.E Tryz.f46.ntmps [1,1,0,1,0] [] (V.codeOf Tryz.f46) (Zt.kt x0 x1)) V.KK (Zt.s8 x0 x1 v8_0)):=by kernel_rfl
theorem Zt.e7 (x0:Z0)(x1:Z0):V.jn (V.joinF Zt.E Tryz.f46.ntmps [1] [] (V.codeOf Tryz.f46) (Zt.kt x0 x1)) (Zt.s7 x0 x1)=Zt.l7 x0 x1:=by
 rw[V.jn_eq,Zt.r7]
 simp only[Zt.e8]
 rfl
noncomputable abbrev Zt.s (x0:Z0)(x1:Z0):V.St:=⟨[(0, .v true (V.lsSigned x0)),(1, .v true (V.lsSigned x1))],[]⟩
theorem Zt.v0 (x0:Z0)(x1:Z0):V.evBody Zt.E Zt.con Tryz.f46 (V.fl8 x0 x1)=V.evC Zt.E Tryz.f46.ntmps (V.codeOf Tryz.f46) (Zt.kt x0 x1) (Zt.s x0 x1):=by kernel_rfl
theorem Zt.v (x0:Z0)(x1:Z0):V.evC Zt.E Tryz.f46.ntmps (V.codeOf Tryz.f46) (Zt.kt x0 x1) (Zt.s x0 x1)=Zt.b x0 x1 (V.jn (V.joinF Zt.E Tryz.f46.ntmps [1] [] (V.codeOf Tryz.f46) (Zt.kt x0 x1)) (Zt.s7 x0 x1)):=by kernel_rfl
theorem Zt.eq (x0:Z0)(x1:Z0):V.evBody Zt.E Zt.con Tryz.f46 (V.fl8 x0 x1)=Zt x0 x1:=by
 rw[Zt.v0,Zt.v]
 simp only[Zt.e7]
 rfl
theorem Zt.ok :V.Valid Tryz.prog 46 Zt.con:=
 V.fo (V.tab_cons YI.ok V.tab_nil) Tryz.func46 (by kernel_rfl) (fun x y h=>(show V.evBody Zt.E Zt.con Tryz.f46 x=_ from Zt.eq (V.p8_0 x) (V.p8_1 x)).trans (V.cfl (by kernel_rfl) h))
noncomputable abbrev YT.con :V.Con:=⟨V.A10,(.cons .bool .nil),fun(x:V.D10)=>YT (V.p10_0 x),[],[(true,51)],[(false,1)],[false],[]⟩
noncomputable abbrev YT.E :V.Env:=V.mkE V.tys [(31,YI.con),(46,Zt.con),(47,YZ.con),(48,X0.con)] [] [] [] [] []
noncomputable abbrev YT.kt (x0:Zi):V.Kt Bool:=V.ktOf YT.E YT.con Tryz.f17 (V.fl10 x0)
noncomputable abbrev YT.s (x0:Zi):V.St:=⟨[(0, .v true (V.lsFork x0))],[]⟩
theorem YT.v0 (x0:Zi):V.evBody YT.E YT.con Tryz.f17 (V.fl10 x0)=V.evC YT.E Tryz.f17.ntmps (V.codeOf Tryz.f17) (YT.kt x0) (YT.s x0):=by kernel_rfl
theorem YT.v (x0:Zi):V.evC YT.E Tryz.f17.ntmps (V.codeOf Tryz.f17) (YT.kt x0) (YT.s x0)=YT x0:=by kernel_rfl
theorem YT.eq (x0:Zi):V.evBody YT.E YT.con Tryz.f17 (V.fl10 x0)=YT x0:=(YT.v0 x0).trans (YT.v x0)
theorem YT.ok :V.Valid Tryz.prog 17 YT.con:=
 V.fo (V.tab_cons YI.ok (V.tab_cons Zt.ok (V.tab_cons YZ.ok (V.tab_cons X0.ok V.tab_nil)))) Tryz.func17 (by kernel_rfl) (fun x y h=>(show V.evBody YT.E YT.con Tryz.f17 x=_ from YT.eq (V.p10_0 x)).trans (V.cfl (by kernel_rfl) h))
noncomputable abbrev Zf.con :V.Con:=⟨(.cons (.sl (V.ci .nil)) (.cons (.sl (V.ci (V.ci .nil))) .nil)),(.cons (.sl (V.ci .nil)) .nil),fun(x:List Int×List Z6)=>Zf x.1 x.2,[],[(false,1),(false,1)],[(false,1)],[true],[]⟩
noncomputable abbrev Zf.E :V.Env:=V.mkE V.tys [(87,XK.con)] [(6,[0,1,5,6],[(64000038400320,(V.ci .nil),true)]),(12,[0,1,5,6,7],[]),(19,[0,1,5,6,7,33],[])] [] [] [] []
noncomputable abbrev Zf.kt (x0:List Int)(x1:List Z6):V.Kt (List Int):=V.ktOf Zf.E Zf.con Tryz.f49 ((x0,x1):List Int×List Z6)
noncomputable abbrev Zf.s19 (x0:List Int)(x1:List Z6)(v6_2:Int)(v6_3:List Int)(v12_3:Int)(v19_4:Bool):V.St:=⟨[(0, .v false [.val (.sl (V.ci .nil) x0)]),(1, .v false [.val (.sl (V.ci (V.ci .nil)) x1)]),(5, .v false [.ref 64000121600320]),(6, .v false [.vi (v6_2)]),(7, .v false [.vi (v12_3)]),(33, .v false [.val (.bool v19_4)])],[(64000121600320, .row (V.ci .nil) true v6_3)]⟩
noncomputable abbrev Zf.s12 (x0:List Int)(x1:List Z6)(v6_2:Int)(v6_3:List Int)(v12_3:Int):V.St:=⟨[(0, .v false [.val (.sl (V.ci .nil) x0)]),(1, .v false [.val (.sl (V.ci (V.ci .nil)) x1)]),(5, .v false [.ref 64000076800320]),(6, .v false [.vi (v6_2)]),(7, .v false [.vi (v12_3)])],[(64000076800320, .row (V.ci .nil) true v6_3)]⟩
noncomputable abbrev Zf.s6 (x0:List Int)(x1:List Z6)(v6_2:Int)(v6_3:List Int):V.St:=⟨[(0, .v false [.val (.sl (V.ci .nil) x0)]),(1, .v false [.val (.sl (V.ci (V.ci .nil)) x1)]),(5, .v false [.ref 64000038400320]),(6, .v false [.vi (v6_2)])],[(64000038400320, .row (V.ci .nil) true v6_3)]⟩
theorem Zf.r19 (x0:List Int)(x1:List Z6)(v12_3:Int)(v6_2:Int)(v6_3:List Int)(R6:V.St→Option (List Int))(R12:V.St→Option (List Int))(v19_4:Bool):V.joinF Zf.E Tryz.f49.ntmps [1,1,0,1,0,0,1,0,0,1,0,0,1,0,0] [R6,R12] (V.codeOf Tryz.f49) (Zf.kt x0 x1) (Zf.s19 x0 x1 v6_2 v6_3 v12_3 v19_4)=Zf.g19 x0 x1 v6_2 v6_3 v12_3 (fun v6_2 v6_3=>R6 (Zf.s6 x0 x1 v6_2 v6_3)) (fun v12_3=>R12 (Zf.s12 x0 x1 v6_2 v6_3 v12_3)) v19_4:=by kernel_rfl
theorem Zf.e19 (x0:List Int)(x1:List Z6)(v12_3:Int)(v6_2:Int)(v6_3:List Int)(R6:V.St→Option (List Int))(R12:V.St→Option (List Int))(v19_4:Bool):V.jn (V.joinF Zf.E Tryz.f49.ntmps [1,1,0,1,0,0,1,0,0,1,0,0,1,0,0] [R6,R12] (V.codeOf Tryz.f49) (Zf.kt x0 x1)) (Zf.s19 x0 x1 v6_2 v6_3 v12_3 v19_4)=Zf.l19 x0 x1 v6_2 v6_3 v12_3 (fun v6_2 v6_3=>R6 (Zf.s6 x0 x1 v6_2 v6_3)) (fun v12_3=>R12 (Zf.s12 x0 x1 v6_2 v6_3 v12_3)) v19_4:=by
 rw[V.jn_eq,Zf.r19]
 rfl
theorem Zf.r12 (x0:List Int)(x1:List Z6)(v6_2:Int)(v6_3:List Int)(R6:V.St→Option (List Int))(R:V.St→Option (List Int))(v12_3:Int):V.loopF Zf.E Tryz.f49.ntmps [1,1,0,1,0,0,1,0,0,1,0] [R6] (V.codeOf Tryz.f49) (Zf.kt x0 x1) R (Zf.s12 x0 x1 v6_2 v6_3 v12_3)=Zf.g12 x0 x1 v6_2 v6_3 (fun v6_2 v6_3=>R6 (Zf.s6 x0 x1 v6_2 v6_3)) (fun v12_3=>R (Zf.s12 x0 x1 v6_2 v6_3 v12_3)) (fun v19_4=>V.jn (V.joinF Zf.E Tryz.f49.ntmps [1,1,0,1,0,0,1,0,0,1,0,0,1,0,0] [R6,R] (V.codeOf Tryz.f49) (Zf.kt x0 x1)) (Zf.s19 x0 x1 v6_2 v6_3 v12_3 v19_4)) v12_3:=by kernel_rfl
theorem Zf.e12 (x0:List Int)(x1:List Z6)(v6_2:Int)(v6_3:List Int)(R6:V.St→Option (List Int)):∀(n:Nat) (v12_3:Int),V.loopN (V.loopF Zf.E Tryz.f49.ntmps [1,1,0,1,0,0,1,0,0,1,0] [R6] (V.codeOf Tryz.f49) (Zf.kt x0 x1)) n (Zf.s12 x0 x1 v6_2 v6_3 v12_3)=Zf.l12 x0 x1 v6_2 v6_3 (fun v6_2 v6_3=>R6 (Zf.s6 x0 x1 v6_2 v6_3)) n v12_3:=by
 intro n
 induction n with
 |zero=>intros;rw[V.loopN_z];rfl
 |succ n ih=>
  intro v12_3
  rw[V.loopN_s,Zf.r12]
  simp only[Zf.e19,ih]
  first|exact(Zf.u12 ..).symm|rfl
theorem Zf.r6 (x0:List Int)(x1:List Z6)(R:V.St→Option (List Int))(v6_2:Int)(v6_3:List Int):V.loopF Zf.E Tryz.f49.ntmps [1,1,0,1,0] [] (V.codeOf Tryz.f49) (Zf.kt x0 x1) R (Zf.s6 x0 x1 v6_2 v6_3)=Zf.g6 x0 x1 (fun v6_2 v6_3=>R (Zf.s6 x0 x1 v6_2 v6_3)) (fun v12_3=>V.loopN (V.loopF Zf.E Tryz.f49.ntmps [1,1,0,1,0,0,1,0,0,1,0] [R] (V.codeOf Tryz.f49) (Zf.kt x0 x1)) V.KK (Zf.s12 x0 x1 v6_2 v6_3 v12_3)) v6_2 v6_3:=by kernel_rfl
theorem Zf.e6 (x0:List Int)(x1:List Z6):∀(n:Nat) (v6_2:Int) (v6_3:List Int),V.loopN (V.loopF Zf.E Tryz.f49.ntmps [1,1,0,1,0] [] (V.codeOf Tryz.f49) (Zf.kt x0 x1)) n (Zf.s6 x0 x1 v6_2 v6_3)=Zf.l6 x0 x1 n v6_2 v6_3:=by
 intro n
 induction n with
 |zero=>intros;rw[V.loopN_z];rfl
 |succ n ih=>
  intro v6_2 v6_3
  rw[V.loopN_s,Zf.r6]
  simp only[Zf.e12,ih]
  first|exact(Zf.u6 ..).symm|rfl
theorem Zf.v (x0:List Int)(x1:List Z6):V.evBody Zf.E Zf.con Tryz.f49 ((x0,x1):List Int×List Z6)=Zf.b x0 x1 (fun v6_2 v6_3=>V.loopN (V.loopF Zf.E Tryz.f49.ntmps [1,1,0,1,0] [] (V.codeOf Tryz.f49) (Zf.kt x0 x1)) V.KK (Zf.s6 x0 x1 v6_2 v6_3)):=by kernel_rfl
theorem Zf.eq (x0:List Int)(x1:List Z6):V.evBody Zf.E Zf.con Tryz.f49 ((x0,x1):List Int×List Z6)=Zf x0 x1:=by
 rw[Zf.v]
 simp only[Zf.e6]
 rfl
theorem Zf.ok :V.Valid Tryz.prog 49 Zf.con:=
 V.fo (V.tab_cons XK.ok V.tab_nil) Tryz.func49 (by kernel_rfl) (fun x y h=>(show V.evBody Zf.E Zf.con Tryz.f49 x=_ from Zf.eq x.1 x.2).trans (V.cfl (by kernel_rfl) h))
noncomputable abbrev ZI.con :V.Con:=⟨V.A10,(.cons (.sl (V.ci .nil)) .nil),fun(x:V.D10)=>ZI (V.p10_0 x),[],[(true,51)],[(false,1)],[true],[]⟩
noncomputable abbrev ZI.E :V.Env:=V.mkE V.tys [(12,Yf.con),(17,YT.con),(49,Zf.con),(50,ZU.con)] [(14,[3,4,5,6],[(64000089600192,(V.ci .nil),true),(999999,(.cons .bool .nil),false)])] [(4,7),(5,7)] [] [] []
noncomputable abbrev ZI.kt (x0:Zi):V.Kt (List Int):=V.ktOf ZI.E ZI.con Tryz.f19 (V.fl10 x0)
noncomputable abbrev ZI.s14 (y3:List Int)(y5:List Int)(v14_0:Int)(v14_1:List Int):V.St:=⟨[(3, .v false [.ref 64000089600192]),(4, .v false [.ref 64000089600256]),(5, .v false [.ref 64000089600320]),(6, .v false [.vi (v14_0)])],[(64000089600192, .row (V.ci .nil) true v14_1),(64000089600256, .row (V.ci .nil) true y3),(64000089600320, .row (V.ci .nil) true y5)]⟩
theorem ZI.r14 (x0:Zi)(y3:List Int)(y5:List Int)(R:V.St→Option (List Int))(v14_0:Int)(v14_1:List Int):V.loopF ZI.E Tryz.f19.ntmps [1,1,1,1,1,0,1,0] [] (V.codeOf Tryz.f19) (ZI.kt x0) R (ZI.s14 y3 y5 v14_0 v14_1)=ZI.g14 y3 y5 (fun v14_0 v14_1=>R (ZI.s14 y3 y5 v14_0 v14_1)) v14_0 v14_1:=by kernel_rfl
theorem ZI.e14 (x0:Zi)(y3:List Int)(y5:List Int):∀(n:Nat) (v14_0:Int) (v14_1:List Int),V.loopN (V.loopF ZI.E Tryz.f19.ntmps [1,1,1,1,1,0,1,0] [] (V.codeOf Tryz.f19) (ZI.kt x0)) n (ZI.s14 y3 y5 v14_0 v14_1)=ZI.l14 y3 y5 n v14_0 v14_1:=by
 intro n
 induction n with
 |zero=>intros;rw[V.loopN_z];rfl
 |succ n ih=>
  intro v14_0 v14_1
  rw[V.loopN_s,ZI.r14]
  simp only[ih]
  first|exact(ZI.u14 ..).symm|rfl
noncomputable abbrev ZI.s (x0:Zi):V.St:=⟨[(0, .v true (V.lsFork x0))],[]⟩
theorem ZI.v0 (x0:Zi):V.evBody ZI.E ZI.con Tryz.f19 (V.fl10 x0)=V.evC ZI.E Tryz.f19.ntmps (V.codeOf Tryz.f19) (ZI.kt x0) (ZI.s x0):=by kernel_rfl
theorem ZI.v (x0:Zi):V.evC ZI.E Tryz.f19.ntmps (V.codeOf Tryz.f19) (ZI.kt x0) (ZI.s x0)=ZI.b x0 (fun y3 y5 v14_0 v14_1=>V.loopN (V.loopF ZI.E Tryz.f19.ntmps [1,1,1,1,1,0,1,0] [] (V.codeOf Tryz.f19) (ZI.kt x0)) V.KK (ZI.s14 y3 y5 v14_0 v14_1)):=by kernel_rfl
theorem ZI.eq (x0:Zi):V.evBody ZI.E ZI.con Tryz.f19 (V.fl10 x0)=ZI x0:=by
 rw[ZI.v0,ZI.v]
 simp only[ZI.e14]
 rfl
theorem ZI.ok :V.Valid Tryz.prog 19 ZI.con:=
 V.fo (V.tab_cons Yf.ok (V.tab_cons YT.ok (V.tab_cons Zf.ok (V.tab_cons ZU.ok V.tab_nil)))) Tryz.func19 (by kernel_rfl) (fun x y h=>(show V.evBody ZI.E ZI.con Tryz.f19 x=_ from ZI.eq (V.p10_0 x)).trans (V.cfl (by kernel_rfl) h))
noncomputable abbrev ZW.con :V.Con:=⟨(.cons (.sl (V.ci .nil)) (.cons (.sl (V.ci .nil)) .nil)),(.cons .bool .nil),fun(x:List Int×List Int)=>ZW x.1 x.2,[],[(false,1),(false,1)],[(false,1)],[false],[]⟩
noncomputable abbrev ZW.E :V.Env:=V.mkE V.tys [] [(8,[0,1,5],[])] [(6,8)] [] [] []
noncomputable abbrev ZW.kt (x0:List Int)(x1:List Int):V.Kt Bool:=V.ktOf ZW.E ZW.con Tryz.f18 ((x0,x1):List Int×List Int)
noncomputable abbrev ZW.s8 (x0:List Int)(x1:List Int)(v8_2:Int):V.St:=⟨[(0, .v false [.val (.sl (V.ci .nil) x0)]),(1, .v false [.val (.sl (V.ci .nil) x1)]),(5, .v false [.vi (v8_2)])],[]⟩
theorem ZW.r8 (x0:List Int)(x1:List Int)(R:V.St→Option Bool)(v8_2:Int):V.loopF ZW.E Tryz.f18.ntmps [1,1,0,1,0] [] (V.codeOf Tryz.f18) (ZW.kt x0 x1) R (ZW.s8 x0 x1 v8_2)=ZW.g8 x0 x1 (fun v8_2=>R (ZW.s8 x0 x1 v8_2)) v8_2:=by kernel_rfl
theorem ZW.e8 (x0:List Int)(x1:List Int):∀(n:Nat) (v8_2:Int),V.loopN (V.loopF ZW.E Tryz.f18.ntmps [1,1,0,1,0] [] (V.codeOf Tryz.f18) (ZW.kt x0 x1)) n (ZW.s8 x0 x1 v8_2)=ZW.l8 x0 x1 n v8_2:=by
 intro n
 induction n with
 |zero=>intros;rw[V.loopN_z];rfl
 |succ n ih=>
  intro v8_2
  rw[V.loopN_s,ZW.r8]
  simp only[ih]
  first|exact(ZW.u8 ..).symm|rfl
theorem ZW.v (x0:List Int)(x1:List Int):V.evBody ZW.E ZW.con Tryz.f18 ((x0,x1):List Int×List Int)=ZW.b x0 x1 (fun v8_2=>V.loopN (V.loopF ZW.E Tryz.f18.ntmps [1,1,0,1,0] [] (V.codeOf Tryz.f18) (ZW.kt x0 x1)) V.KK (ZW.s8 x0 x1 v8_2)):=by kernel_rfl
theorem ZW.eq (x0:List Int)(x1:List Int):V.evBody ZW.E ZW.con Tryz.f18 ((x0,x1):List Int×List Int)=ZW x0 x1:=by
 rw[ZW.v]
 simp only[ZW.e8]
 rfl
theorem ZW.ok :V.Valid Tryz.prog 18 ZW.con:=
 V.fo V.tab_nil Tryz.func18 (by kernel_rfl) (fun x y h=>(show V.evBody ZW.E ZW.con Tryz.f18 x=_ from ZW.eq x.1 x.2).trans (V.cfl (by kernel_rfl) h))
noncomputable abbrev Xe.con :V.Con:=⟨V.A10,(V.ci .nil),fun(x:V.D10)=>Xe (V.p10_0 x),[],[(true,51)],[(false,1)],[false],[]⟩
noncomputable abbrev Xe.E :V.Env:=V.mkE V.tys [(17,YT.con)] [] [] [] [] []
noncomputable abbrev Xe.kt (x0:Zi):V.Kt Int:=V.ktOf Xe.E Xe.con Tryz.f20 (V.fl10 x0)
noncomputable abbrev Xe.s (x0:Zi):V.St:=⟨[(0, .v true (V.lsFork x0))],[]⟩
theorem Xe.v0 (x0:Zi):V.evBody Xe.E Xe.con Tryz.f20 (V.fl10 x0)=V.evC Xe.E Tryz.f20.ntmps (V.codeOf Tryz.f20) (Xe.kt x0) (Xe.s x0):=by kernel_rfl
theorem Xe.v (x0:Zi):V.evC Xe.E Tryz.f20.ntmps (V.codeOf Tryz.f20) (Xe.kt x0) (Xe.s x0)=Xe x0:=by kernel_rfl
theorem Xe.eq (x0:Zi):V.evBody Xe.E Xe.con Tryz.f20 (V.fl10 x0)=Xe x0:=(Xe.v0 x0).trans (Xe.v x0)
theorem Xe.ok :V.Valid Tryz.prog 20 Xe.con:=
 V.fo (V.tab_cons YT.ok V.tab_nil) Tryz.func20 (by kernel_rfl) (fun x y h=>(show V.evBody Xe.E Xe.con Tryz.f20 x=_ from Xe.eq (V.p10_0 x)).trans (V.cfl (by kernel_rfl) h))
noncomputable abbrev Za.con :V.Con:=⟨(.cons (.sl (.cons (.int .u8) .nil)) .nil),(.cons .bool .nil),fun(x:List Int)=>Za x,[],[(false,1)],[(false,1)],[false],[]⟩
noncomputable abbrev Za.E :V.Env:=V.mkE V.tys [(4,WD.con),(5,Wk.con),(6,ZA.con),(7,Zz.con),(8,X8.con),(9,X5.con),(10,Y5.con),(11,ZP.con),(12,Yf.con),(13,YP.con),(14,X3.con),(15,X6.con),(16,Wl.con),(17,YT.con),(18,ZW.con),(19,ZI.con),(20,Xe.con)] [(17,[0,3,4,5,6],[]),(22,[0,3,4,5,9,10],[]),(35,[0,3,4,5,9,11,12],[]),(39,[0,3,4,5],[]),(45,[0],[])] [(13,27),(20,21),(23,24)] [] [] []
noncomputable abbrev Za.kt (x0:List Int):V.Kt Bool:=V.ktOf Za.E Za.con Tryz.f3 ((x0):List Int)
noncomputable abbrev Za.s45 (x0:List Int):V.St:=⟨[(0, .v false [.val (.sl (.cons (.int .u8) .nil) x0)])],[]⟩
noncomputable abbrev Za.s39 (x0:List Int)(y2:List Z0×List Z0)(y3:Yl):V.St:=⟨[(0, .v false [.val (.sl (.cons (.int .u8) .nil) x0)]),(3, .v false [.val (.sl V.eSigned y2.1)]),(4, .v false [.ref 64000249600256]),(5, .v false [.ptr 320384 0])],[(64000249600256, .row V.eSigned true y2.2),(320384, .box [.vi (y3.1), .vi (y3.2.1), .vi (y3.2.2.1), .vi (y3.2.2.2.1), .vi (y3.2.2.2.2.1), .vi (y3.2.2.2.2.2.1), .vi (y3.2.2.2.2.2.2.1), .vi (y3.2.2.2.2.2.2.2.1), .ref 64000000000020504584, .vi (y3.2.2.2.2.2.2.2.2.2.1), .ref 64000000000020504586, .vi (y3.2.2.2.2.2.2.2.2.2.2.2.1), .vi (y3.2.2.2.2.2.2.2.2.2.2.2.2.1), .ref 64000000000020504589, .vi (y3.2.2.2.2.2.2.2.2.2.2.2.2.2.2.1), .val (.bool y3.2.2.2.2.2.2.2.2.2.2.2.2.2.2.2.1), .ref 64000000000020504592, .vi (y3.2.2.2.2.2.2.2.2.2.2.2.2.2.2.2.2.2.1), .vi (y3.2.2.2.2.2.2.2.2.2.2.2.2.2.2.2.2.2.2.1), .vi (y3.2.2.2.2.2.2.2.2.2.2.2.2.2.2.2.2.2.2.2.1), .vi (y3.2.2.2.2.2.2.2.2.2.2.2.2.2.2.2.2.2.2.2.2.1), .vi (y3.2.2.2.2.2.2.2.2.2.2.2.2.2.2.2.2.2.2.2.2.2.1), .vi (y3.2.2.2.2.2.2.2.2.2.2.2.2.2.2.2.2.2.2.2.2.2.2.1), .vi (y3.2.2.2.2.2.2.2.2.2.2.2.2.2.2.2.2.2.2.2.2.2.2.2.1), .vi (y3.2.2.2.2.2.2.2.2.2.2.2.2.2.2.2.2.2.2.2.2.2.2.2.2.1), .ref 64000000000020504601, .vi (y3.2.2.2.2.2.2.2.2.2.2.2.2.2.2.2.2.2.2.2.2.2.2.2.2.2.2.1), .ref 64000000000020504603, .vi (y3.2.2.2.2.2.2.2.2.2.2.2.2.2.2.2.2.2.2.2.2.2.2.2.2.2.2.2.2.1), .vi (y3.2.2.2.2.2.2.2.2.2.2.2.2.2.2.2.2.2.2.2.2.2.2.2.2.2.2.2.2.2.1), .ref 64000000000020504606, .vi (y3.2.2.2.2.2.2.2.2.2.2.2.2.2.2.2.2.2.2.2.2.2.2.2.2.2.2.2.2.2.2.2.1), .val (.bool y3.2.2.2.2.2.2.2.2.2.2.2.2.2.2.2.2.2.2.2.2.2.2.2.2.2.2.2.2.2.2.2.2.1), .ref 64000000000020504609, .vi (y3.2.2.2.2.2.2.2.2.2.2.2.2.2.2.2.2.2.2.2.2.2.2.2.2.2.2.2.2.2.2.2.2.2.2.1), .vi (y3.2.2.2.2.2.2.2.2.2.2.2.2.2.2.2.2.2.2.2.2.2.2.2.2.2.2.2.2.2.2.2.2.2.2.2.1), .vi (y3.2.2.2.2.2.2.2.2.2.2.2.2.2.2.2.2.2.2.2.2.2.2.2.2.2.2.2.2.2.2.2.2.2.2.2.2.1), .vi (y3.2.2.2.2.2.2.2.2.2.2.2.2.2.2.2.2.2.2.2.2.2.2.2.2.2.2.2.2.2.2.2.2.2.2.2.2.2.1), .vi (y3.2.2.2.2.2.2.2.2.2.2.2.2.2.2.2.2.2.2.2.2.2.2.2.2.2.2.2.2.2.2.2.2.2.2.2.2.2.2.1), .vi (y3.2.2.2.2.2.2.2.2.2.2.2.2.2.2.2.2.2.2.2.2.2.2.2.2.2.2.2.2.2.2.2.2.2.2.2.2.2.2.2.1), .vi (y3.2.2.2.2.2.2.2.2.2.2.2.2.2.2.2.2.2.2.2.2.2.2.2.2.2.2.2.2.2.2.2.2.2.2.2.2.2.2.2.2.1), .vi (y3.2.2.2.2.2.2.2.2.2.2.2.2.2.2.2.2.2.2.2.2.2.2.2.2.2.2.2.2.2.2.2.2.2.2.2.2.2.2.2.2.2.1), .ref 64000000000020504618, .vi (y3.2.2.2.2.2.2.2.2.2.2.2.2.2.2.2.2.2.2.2.2.2.2.2.2.2.2.2.2.2.2.2.2.2.2.2.2.2.2.2.2.2.2.2.1), .ref 64000000000020504620, .vi (y3.2.2.2.2.2.2.2.2.2.2.2.2.2.2.2.2.2.2.2.2.2.2.2.2.2.2.2.2.2.2.2.2.2.2.2.2.2.2.2.2.2.2.2.2.2.1), .vi (y3.2.2.2.2.2.2.2.2.2.2.2.2.2.2.2.2.2.2.2.2.2.2.2.2.2.2.2.2.2.2.2.2.2.2.2.2.2.2.2.2.2.2.2.2.2.2.1), .ref 64000000000020504623, .vi (y3.2.2.2.2.2.2.2.2.2.2.2.2.2.2.2.2.2.2.2.2.2.2.2.2.2.2.2.2.2.2.2.2.2.2.2.2.2.2.2.2.2.2.2.2.2.2.2.2.1), .val (.bool y3.2.2.2.2.2.2.2.2.2.2.2.2.2.2.2.2.2.2.2.2.2.2.2.2.2.2.2.2.2.2.2.2.2.2.2.2.2.2.2.2.2.2.2.2.2.2.2.2.2.1), .ref 64000000000020504626]),(64000000000020504584, .row (V.ci .nil) true y3.2.2.2.2.2.2.2.2.1),(64000000000020504586, .row (V.ci .nil) true y3.2.2.2.2.2.2.2.2.2.2.1),(64000000000020504589, .row (V.ci .nil) true y3.2.2.2.2.2.2.2.2.2.2.2.2.2.1),(64000000000020504592, .row (V.ci (V.ci .nil)) true y3.2.2.2.2.2.2.2.2.2.2.2.2.2.2.2.2.1),(64000000000020504601, .row (V.ci .nil) true y3.2.2.2.2.2.2.2.2.2.2.2.2.2.2.2.2.2.2.2.2.2.2.2.2.2.1),(64000000000020504603, .row (V.ci .nil) true y3.2.2.2.2.2.2.2.2.2.2.2.2.2.2.2.2.2.2.2.2.2.2.2.2.2.2.2.1),(64000000000020504606, .row (V.ci .nil) true y3.2.2.2.2.2.2.2.2.2.2.2.2.2.2.2.2.2.2.2.2.2.2.2.2.2.2.2.2.2.2.1),(64000000000020504609, .row (V.ci (V.ci .nil)) true y3.2.2.2.2.2.2.2.2.2.2.2.2.2.2.2.2.2.2.2.2.2.2.2.2.2.2.2.2.2.2.2.2.2.1),(64000000000020504618, .row (V.ci .nil) true y3.2.2.2.2.2.2.2.2.2.2.2.2.2.2.2.2.2.2.2.2.2.2.2.2.2.2.2.2.2.2.2.2.2.2.2.2.2.2.2.2.2.2.1),(64000000000020504620, .row (V.ci .nil) true y3.2.2.2.2.2.2.2.2.2.2.2.2.2.2.2.2.2.2.2.2.2.2.2.2.2.2.2.2.2.2.2.2.2.2.2.2.2.2.2.2.2.2.2.2.1),(64000000000020504623, .row (V.ci .nil) true y3.2.2.2.2.2.2.2.2.2.2.2.2.2.2.2.2.2.2.2.2.2.2.2.2.2.2.2.2.2.2.2.2.2.2.2.2.2.2.2.2.2.2.2.2.2.2.2.1),(64000000000020504626, .row (V.ci (V.ci .nil)) true y3.2.2.2.2.2.2.2.2.2.2.2.2.2.2.2.2.2.2.2.2.2.2.2.2.2.2.2.2.2.2.2.2.2.2.2.2.2.2.2.2.2.2.2.2.2.2.2.2.2.2.1)]⟩
noncomputable abbrev Za.s35 (x0:List Int)(y2:List Z0×List Z0)(y3:Yl)(y6:List Int)(v35_2:Bool):V.St:=⟨[(0, .v false [.val (.sl (.cons (.int .u8) .nil) x0)]),(3, .v false [.val (.sl V.eSigned y2.1)]),(4, .v false [.ref 64000224000256]),(5, .v false [.ptr 320384 0]),(9, .v false [.ref 64000224000576]),(11, .v false [.ptr 1024192 0]),(12, .v false [.val (.bool v35_2)])],[(64000224000256, .row V.eSigned true y2.2),(320384, .box [.vi (y3.1), .vi (y3.2.1), .vi (y3.2.2.1), .vi (y3.2.2.2.1), .vi (y3.2.2.2.2.1), .vi (y3.2.2.2.2.2.1), .vi (y3.2.2.2.2.2.2.1), .vi (y3.2.2.2.2.2.2.2.1), .ref 64000000000020504584, .vi (y3.2.2.2.2.2.2.2.2.2.1), .ref 64000000000020504586, .vi (y3.2.2.2.2.2.2.2.2.2.2.2.1), .vi (y3.2.2.2.2.2.2.2.2.2.2.2.2.1), .ref 64000000000020504589, .vi (y3.2.2.2.2.2.2.2.2.2.2.2.2.2.2.1), .val (.bool y3.2.2.2.2.2.2.2.2.2.2.2.2.2.2.2.1), .ref 64000000000020504592, .vi (y3.2.2.2.2.2.2.2.2.2.2.2.2.2.2.2.2.2.1), .vi (y3.2.2.2.2.2.2.2.2.2.2.2.2.2.2.2.2.2.2.1), .vi (y3.2.2.2.2.2.2.2.2.2.2.2.2.2.2.2.2.2.2.2.1), .vi (y3.2.2.2.2.2.2.2.2.2.2.2.2.2.2.2.2.2.2.2.2.1), .vi (y3.2.2.2.2.2.2.2.2.2.2.2.2.2.2.2.2.2.2.2.2.2.1), .vi (y3.2.2.2.2.2.2.2.2.2.2.2.2.2.2.2.2.2.2.2.2.2.2.1), .vi (y3.2.2.2.2.2.2.2.2.2.2.2.2.2.2.2.2.2.2.2.2.2.2.2.1), .vi (y3.2.2.2.2.2.2.2.2.2.2.2.2.2.2.2.2.2.2.2.2.2.2.2.2.1), .ref 64000000000020504601, .vi (y3.2.2.2.2.2.2.2.2.2.2.2.2.2.2.2.2.2.2.2.2.2.2.2.2.2.2.1), .ref 64000000000020504603, .vi (y3.2.2.2.2.2.2.2.2.2.2.2.2.2.2.2.2.2.2.2.2.2.2.2.2.2.2.2.2.1), .vi (y3.2.2.2.2.2.2.2.2.2.2.2.2.2.2.2.2.2.2.2.2.2.2.2.2.2.2.2.2.2.1), .ref 64000000000020504606, .vi (y3.2.2.2.2.2.2.2.2.2.2.2.2.2.2.2.2.2.2.2.2.2.2.2.2.2.2.2.2.2.2.2.1), .val (.bool y3.2.2.2.2.2.2.2.2.2.2.2.2.2.2.2.2.2.2.2.2.2.2.2.2.2.2.2.2.2.2.2.2.1), .ref 64000000000020504609, .vi (y3.2.2.2.2.2.2.2.2.2.2.2.2.2.2.2.2.2.2.2.2.2.2.2.2.2.2.2.2.2.2.2.2.2.2.1), .vi (y3.2.2.2.2.2.2.2.2.2.2.2.2.2.2.2.2.2.2.2.2.2.2.2.2.2.2.2.2.2.2.2.2.2.2.2.1), .vi (y3.2.2.2.2.2.2.2.2.2.2.2.2.2.2.2.2.2.2.2.2.2.2.2.2.2.2.2.2.2.2.2.2.2.2.2.2.1), .vi (y3.2.2.2.2.2.2.2.2.2.2.2.2.2.2.2.2.2.2.2.2.2.2.2.2.2.2.2.2.2.2.2.2.2.2.2.2.2.1), .vi (y3.2.2.2.2.2.2.2.2.2.2.2.2.2.2.2.2.2.2.2.2.2.2.2.2.2.2.2.2.2.2.2.2.2.2.2.2.2.2.1), .vi (y3.2.2.2.2.2.2.2.2.2.2.2.2.2.2.2.2.2.2.2.2.2.2.2.2.2.2.2.2.2.2.2.2.2.2.2.2.2.2.2.1), .vi (y3.2.2.2.2.2.2.2.2.2.2.2.2.2.2.2.2.2.2.2.2.2.2.2.2.2.2.2.2.2.2.2.2.2.2.2.2.2.2.2.2.1), .vi (y3.2.2.2.2.2.2.2.2.2.2.2.2.2.2.2.2.2.2.2.2.2.2.2.2.2.2.2.2.2.2.2.2.2.2.2.2.2.2.2.2.2.1), .ref 64000000000020504618, .vi (y3.2.2.2.2.2.2.2.2.2.2.2.2.2.2.2.2.2.2.2.2.2.2.2.2.2.2.2.2.2.2.2.2.2.2.2.2.2.2.2.2.2.2.2.1), .ref 64000000000020504620, .vi (y3.2.2.2.2.2.2.2.2.2.2.2.2.2.2.2.2.2.2.2.2.2.2.2.2.2.2.2.2.2.2.2.2.2.2.2.2.2.2.2.2.2.2.2.2.2.1), .vi (y3.2.2.2.2.2.2.2.2.2.2.2.2.2.2.2.2.2.2.2.2.2.2.2.2.2.2.2.2.2.2.2.2.2.2.2.2.2.2.2.2.2.2.2.2.2.2.1), .ref 64000000000020504623, .vi (y3.2.2.2.2.2.2.2.2.2.2.2.2.2.2.2.2.2.2.2.2.2.2.2.2.2.2.2.2.2.2.2.2.2.2.2.2.2.2.2.2.2.2.2.2.2.2.2.2.1), .val (.bool y3.2.2.2.2.2.2.2.2.2.2.2.2.2.2.2.2.2.2.2.2.2.2.2.2.2.2.2.2.2.2.2.2.2.2.2.2.2.2.2.2.2.2.2.2.2.2.2.2.2.1), .ref 64000000000020504626]),(64000000000020504584, .row (V.ci .nil) true y3.2.2.2.2.2.2.2.2.1),(64000000000020504586, .row (V.ci .nil) true y3.2.2.2.2.2.2.2.2.2.2.1),(64000000000020504589, .row (V.ci .nil) true y3.2.2.2.2.2.2.2.2.2.2.2.2.2.1),(64000000000020504592, .row (V.ci (V.ci .nil)) true y3.2.2.2.2.2.2.2.2.2.2.2.2.2.2.2.2.1),(64000000000020504601, .row (V.ci .nil) true y3.2.2.2.2.2.2.2.2.2.2.2.2.2.2.2.2.2.2.2.2.2.2.2.2.2.1),(64000000000020504603, .row (V.ci .nil) true y3.2.2.2.2.2.2.2.2.2.2.2.2.2.2.2.2.2.2.2.2.2.2.2.2.2.2.2.1),(64000000000020504606, .row (V.ci .nil) true y3.2.2.2.2.2.2.2.2.2.2.2.2.2.2.2.2.2.2.2.2.2.2.2.2.2.2.2.2.2.2.1),(64000000000020504609, .row (V.ci (V.ci .nil)) true y3.2.2.2.2.2.2.2.2.2.2.2.2.2.2.2.2.2.2.2.2.2.2.2.2.2.2.2.2.2.2.2.2.2.1),(64000000000020504618, .row (V.ci .nil) true y3.2.2.2.2.2.2.2.2.2.2.2.2.2.2.2.2.2.2.2.2.2.2.2.2.2.2.2.2.2.2.2.2.2.2.2.2.2.2.2.2.2.2.1),(64000000000020504620, .row (V.ci .nil) true y3.2.2.2.2.2.2.2.2.2.2.2.2.2.2.2.2.2.2.2.2.2.2.2.2.2.2.2.2.2.2.2.2.2.2.2.2.2.2.2.2.2.2.2.2.1),(64000000000020504623, .row (V.ci .nil) true y3.2.2.2.2.2.2.2.2.2.2.2.2.2.2.2.2.2.2.2.2.2.2.2.2.2.2.2.2.2.2.2.2.2.2.2.2.2.2.2.2.2.2.2.2.2.2.2.1),(64000000000020504626, .row (V.ci (V.ci .nil)) true y3.2.2.2.2.2.2.2.2.2.2.2.2.2.2.2.2.2.2.2.2.2.2.2.2.2.2.2.2.2.2.2.2.2.2.2.2.2.2.2.2.2.2.2.2.2.2.2.2.2.2.1),(64000224000576, .row (V.ci .nil) true y6),(1024192, .box [.vi (y3.1), .vi (y3.2.1), .vi (y3.2.2.1), .vi (y3.2.2.2.1), .vi (y3.2.2.2.2.1), .vi (y3.2.2.2.2.2.1), .vi (y3.2.2.2.2.2.2.1), .vi (y3.2.2.2.2.2.2.2.1), .ref 64000000000020504584, .vi (y3.2.2.2.2.2.2.2.2.2.1), .ref 64000000000020504586, .vi (y3.2.2.2.2.2.2.2.2.2.2.2.1), .vi (y3.2.2.2.2.2.2.2.2.2.2.2.2.1), .ref 64000000000020504589, .vi (y3.2.2.2.2.2.2.2.2.2.2.2.2.2.2.1), .val (.bool y3.2.2.2.2.2.2.2.2.2.2.2.2.2.2.2.1)])]⟩
noncomputable abbrev Za.s22 (x0:List Int)(y2:List Z0×List Z0)(y3:Yl)(y6:List Int)(v22_2:Int):V.St:=⟨[(0, .v false [.val (.sl (.cons (.int .u8) .nil) x0)]),(3, .v false [.val (.sl V.eSigned y2.1)]),(4, .v false [.ref 64000140800256]),(5, .v false [.ptr 320384 0]),(9, .v false [.ref 64000140800576]),(10, .v false [.vi (v22_2)])],[(64000140800256, .row V.eSigned true y2.2),(320384, .box [.vi (y3.1), .vi (y3.2.1), .vi (y3.2.2.1), .vi (y3.2.2.2.1), .vi (y3.2.2.2.2.1), .vi (y3.2.2.2.2.2.1), .vi (y3.2.2.2.2.2.2.1), .vi (y3.2.2.2.2.2.2.2.1), .ref 64000000000020504584, .vi (y3.2.2.2.2.2.2.2.2.2.1), .ref 64000000000020504586, .vi (y3.2.2.2.2.2.2.2.2.2.2.2.1), .vi (y3.2.2.2.2.2.2.2.2.2.2.2.2.1), .ref 64000000000020504589, .vi (y3.2.2.2.2.2.2.2.2.2.2.2.2.2.2.1), .val (.bool y3.2.2.2.2.2.2.2.2.2.2.2.2.2.2.2.1), .ref 64000000000020504592, .vi (y3.2.2.2.2.2.2.2.2.2.2.2.2.2.2.2.2.2.1), .vi (y3.2.2.2.2.2.2.2.2.2.2.2.2.2.2.2.2.2.2.1), .vi (y3.2.2.2.2.2.2.2.2.2.2.2.2.2.2.2.2.2.2.2.1), .vi (y3.2.2.2.2.2.2.2.2.2.2.2.2.2.2.2.2.2.2.2.2.1), .vi (y3.2.2.2.2.2.2.2.2.2.2.2.2.2.2.2.2.2.2.2.2.2.1), .vi (y3.2.2.2.2.2.2.2.2.2.2.2.2.2.2.2.2.2.2.2.2.2.2.1), .vi (y3.2.2.2.2.2.2.2.2.2.2.2.2.2.2.2.2.2.2.2.2.2.2.2.1), .vi (y3.2.2.2.2.2.2.2.2.2.2.2.2.2.2.2.2.2.2.2.2.2.2.2.2.1), .ref 64000000000020504601, .vi (y3.2.2.2.2.2.2.2.2.2.2.2.2.2.2.2.2.2.2.2.2.2.2.2.2.2.2.1), .ref 64000000000020504603, .vi (y3.2.2.2.2.2.2.2.2.2.2.2.2.2.2.2.2.2.2.2.2.2.2.2.2.2.2.2.2.1), .vi (y3.2.2.2.2.2.2.2.2.2.2.2.2.2.2.2.2.2.2.2.2.2.2.2.2.2.2.2.2.2.1), .ref 64000000000020504606, .vi (y3.2.2.2.2.2.2.2.2.2.2.2.2.2.2.2.2.2.2.2.2.2.2.2.2.2.2.2.2.2.2.2.1), .val (.bool y3.2.2.2.2.2.2.2.2.2.2.2.2.2.2.2.2.2.2.2.2.2.2.2.2.2.2.2.2.2.2.2.2.1), .ref 64000000000020504609, .vi (y3.2.2.2.2.2.2.2.2.2.2.2.2.2.2.2.2.2.2.2.2.2.2.2.2.2.2.2.2.2.2.2.2.2.2.1), .vi (y3.2.2.2.2.2.2.2.2.2.2.2.2.2.2.2.2.2.2.2.2.2.2.2.2.2.2.2.2.2.2.2.2.2.2.2.1), .vi (y3.2.2.2.2.2.2.2.2.2.2.2.2.2.2.2.2.2.2.2.2.2.2.2.2.2.2.2.2.2.2.2.2.2.2.2.2.1), .vi (y3.2.2.2.2.2.2.2.2.2.2.2.2.2.2.2.2.2.2.2.2.2.2.2.2.2.2.2.2.2.2.2.2.2.2.2.2.2.1), .vi (y3.2.2.2.2.2.2.2.2.2.2.2.2.2.2.2.2.2.2.2.2.2.2.2.2.2.2.2.2.2.2.2.2.2.2.2.2.2.2.1), .vi (y3.2.2.2.2.2.2.2.2.2.2.2.2.2.2.2.2.2.2.2.2.2.2.2.2.2.2.2.2.2.2.2.2.2.2.2.2.2.2.2.1), .vi (y3.2.2.2.2.2.2.2.2.2.2.2.2.2.2.2.2.2.2.2.2.2.2.2.2.2.2.2.2.2.2.2.2.2.2.2.2.2.2.2.2.1), .vi (y3.2.2.2.2.2.2.2.2.2.2.2.2.2.2.2.2.2.2.2.2.2.2.2.2.2.2.2.2.2.2.2.2.2.2.2.2.2.2.2.2.2.1), .ref 64000000000020504618, .vi (y3.2.2.2.2.2.2.2.2.2.2.2.2.2.2.2.2.2.2.2.2.2.2.2.2.2.2.2.2.2.2.2.2.2.2.2.2.2.2.2.2.2.2.2.1), .ref 64000000000020504620, .vi (y3.2.2.2.2.2.2.2.2.2.2.2.2.2.2.2.2.2.2.2.2.2.2.2.2.2.2.2.2.2.2.2.2.2.2.2.2.2.2.2.2.2.2.2.2.2.1), .vi (y3.2.2.2.2.2.2.2.2.2.2.2.2.2.2.2.2.2.2.2.2.2.2.2.2.2.2.2.2.2.2.2.2.2.2.2.2.2.2.2.2.2.2.2.2.2.2.1), .ref 64000000000020504623, .vi (y3.2.2.2.2.2.2.2.2.2.2.2.2.2.2.2.2.2.2.2.2.2.2.2.2.2.2.2.2.2.2.2.2.2.2.2.2.2.2.2.2.2.2.2.2.2.2.2.2.1), .val (.bool y3.2.2.2.2.2.2.2.2.2.2.2.2.2.2.2.2.2.2.2.2.2.2.2.2.2.2.2.2.2.2.2.2.2.2.2.2.2.2.2.2.2.2.2.2.2.2.2.2.2.1), .ref 64000000000020504626]),(64000000000020504584, .row (V.ci .nil) true y3.2.2.2.2.2.2.2.2.1),(64000000000020504586, .row (V.ci .nil) true y3.2.2.2.2.2.2.2.2.2.2.1),(64000000000020504589, .row (V.ci .nil) true y3.2.2.2.2.2.2.2.2.2.2.2.2.2.1),(64000000000020504592, .row (V.ci (V.ci .nil)) true y3.2.2.2.2.2.2.2.2.2.2.2.2.2.2.2.2.1),(64000000000020504601, .row (V.ci .nil) true y3.2.2.2.2.2.2.2.2.2.2.2.2.2.2.2.2.2.2.2.2.2.2.2.2.2.1),(64000000000020504603, .row (V.ci .nil) true y3.2.2.2.2.2.2.2.2.2.2.2.2.2.2.2.2.2.2.2.2.2.2.2.2.2.2.2.1),(64000000000020504606, .row (V.ci .nil) true y3.2.2.2.2.2.2.2.2.2.2.2.2.2.2.2.2.2.2.2.2.2.2.2.2.2.2.2.2.2.2.1),(64000000000020504609, .row (V.ci (V.ci .nil)) true y3.2.2.2.2.2.2.2.2.2.2.2.2.2.2.2.2.2.2.2.2.2.2.2.2.2.2.2.2.2.2.2.2.2.1),(64000000000020504618, .row (V.ci .nil) true y3.2.2.2.2.2.2.2.2.2.2.2.2.2.2.2.2.2.2.2.2.2.2.2.2.2.2.2.2.2.2.2.2.2.2.2.2.2.2.2.2.2.2.1),(64000000000020504620, .row (V.ci .nil) true y3.2.2.2.2.2.2.2.2.2.2.2.2.2.2.2.2.2.2.2.2.2.2.2.2.2.2.2.2.2.2.2.2.2.2.2.2.2.2.2.2.2.2.2.2.1),(64000000000020504623, .row (V.ci .nil) true y3.2.2.2.2.2.2.2.2.2.2.2.2.2.2.2.2.2.2.2.2.2.2.2.2.2.2.2.2.2.2.2.2.2.2.2.2.2.2.2.2.2.2.2.2.2.2.2.1),(64000000000020504626, .row (V.ci (V.ci .nil)) true y3.2.2.2.2.2.2.2.2.2.2.2.2.2.2.2.2.2.2.2.2.2.2.2.2.2.2.2.2.2.2.2.2.2.2.2.2.2.2.2.2.2.2.2.2.2.2.2.2.2.2.1),(64000140800576, .row (V.ci .nil) true y6)]⟩
noncomputable abbrev Za.s17 (x0:List Int)(y2:List Z0×List Z0)(y3:Yl):V.St:=⟨[(0, .v false [.val (.sl (.cons (.int .u8) .nil) x0)]),(3, .v false [.val (.sl V.eSigned y2.1)]),(4, .v false [.ref 64000108800256]),(5, .v false [.ptr 320384 0]),(6, .v false [.val (.bool y3.2.2.2.2.2.2.2.2.2.2.2.2.2.2.2.2.2.2.2.2.2.2.2.2.2.2.2.2.2.2.2.2.2.2.2.2.2.2.2.2.2.2.2.2.2.2.2.2.2.2.2)])],[(64000108800256, .row V.eSigned true y2.2),(320384, .box [.vi (y3.1), .vi (y3.2.1), .vi (y3.2.2.1), .vi (y3.2.2.2.1), .vi (y3.2.2.2.2.1), .vi (y3.2.2.2.2.2.1), .vi (y3.2.2.2.2.2.2.1), .vi (y3.2.2.2.2.2.2.2.1), .ref 64000000000020504584, .vi (y3.2.2.2.2.2.2.2.2.2.1), .ref 64000000000020504586, .vi (y3.2.2.2.2.2.2.2.2.2.2.2.1), .vi (y3.2.2.2.2.2.2.2.2.2.2.2.2.1), .ref 64000000000020504589, .vi (y3.2.2.2.2.2.2.2.2.2.2.2.2.2.2.1), .val (.bool y3.2.2.2.2.2.2.2.2.2.2.2.2.2.2.2.1), .ref 64000000000020504592, .vi (y3.2.2.2.2.2.2.2.2.2.2.2.2.2.2.2.2.2.1), .vi (y3.2.2.2.2.2.2.2.2.2.2.2.2.2.2.2.2.2.2.1), .vi (y3.2.2.2.2.2.2.2.2.2.2.2.2.2.2.2.2.2.2.2.1), .vi (y3.2.2.2.2.2.2.2.2.2.2.2.2.2.2.2.2.2.2.2.2.1), .vi (y3.2.2.2.2.2.2.2.2.2.2.2.2.2.2.2.2.2.2.2.2.2.1), .vi (y3.2.2.2.2.2.2.2.2.2.2.2.2.2.2.2.2.2.2.2.2.2.2.1), .vi (y3.2.2.2.2.2.2.2.2.2.2.2.2.2.2.2.2.2.2.2.2.2.2.2.1), .vi (y3.2.2.2.2.2.2.2.2.2.2.2.2.2.2.2.2.2.2.2.2.2.2.2.2.1), .ref 64000000000020504601, .vi (y3.2.2.2.2.2.2.2.2.2.2.2.2.2.2.2.2.2.2.2.2.2.2.2.2.2.2.1), .ref 64000000000020504603, .vi (y3.2.2.2.2.2.2.2.2.2.2.2.2.2.2.2.2.2.2.2.2.2.2.2.2.2.2.2.2.1), .vi (y3.2.2.2.2.2.2.2.2.2.2.2.2.2.2.2.2.2.2.2.2.2.2.2.2.2.2.2.2.2.1), .ref 64000000000020504606, .vi (y3.2.2.2.2.2.2.2.2.2.2.2.2.2.2.2.2.2.2.2.2.2.2.2.2.2.2.2.2.2.2.2.1), .val (.bool y3.2.2.2.2.2.2.2.2.2.2.2.2.2.2.2.2.2.2.2.2.2.2.2.2.2.2.2.2.2.2.2.2.1), .ref 64000000000020504609, .vi (y3.2.2.2.2.2.2.2.2.2.2.2.2.2.2.2.2.2.2.2.2.2.2.2.2.2.2.2.2.2.2.2.2.2.2.1), .vi (y3.2.2.2.2.2.2.2.2.2.2.2.2.2.2.2.2.2.2.2.2.2.2.2.2.2.2.2.2.2.2.2.2.2.2.2.1), .vi (y3.2.2.2.2.2.2.2.2.2.2.2.2.2.2.2.2.2.2.2.2.2.2.2.2.2.2.2.2.2.2.2.2.2.2.2.2.1), .vi (y3.2.2.2.2.2.2.2.2.2.2.2.2.2.2.2.2.2.2.2.2.2.2.2.2.2.2.2.2.2.2.2.2.2.2.2.2.2.1), .vi (y3.2.2.2.2.2.2.2.2.2.2.2.2.2.2.2.2.2.2.2.2.2.2.2.2.2.2.2.2.2.2.2.2.2.2.2.2.2.2.1), .vi (y3.2.2.2.2.2.2.2.2.2.2.2.2.2.2.2.2.2.2.2.2.2.2.2.2.2.2.2.2.2.2.2.2.2.2.2.2.2.2.2.1), .vi (y3.2.2.2.2.2.2.2.2.2.2.2.2.2.2.2.2.2.2.2.2.2.2.2.2.2.2.2.2.2.2.2.2.2.2.2.2.2.2.2.2.1), .vi (y3.2.2.2.2.2.2.2.2.2.2.2.2.2.2.2.2.2.2.2.2.2.2.2.2.2.2.2.2.2.2.2.2.2.2.2.2.2.2.2.2.2.1), .ref 64000000000020504618, .vi (y3.2.2.2.2.2.2.2.2.2.2.2.2.2.2.2.2.2.2.2.2.2.2.2.2.2.2.2.2.2.2.2.2.2.2.2.2.2.2.2.2.2.2.2.1), .ref 64000000000020504620, .vi (y3.2.2.2.2.2.2.2.2.2.2.2.2.2.2.2.2.2.2.2.2.2.2.2.2.2.2.2.2.2.2.2.2.2.2.2.2.2.2.2.2.2.2.2.2.2.1), .vi (y3.2.2.2.2.2.2.2.2.2.2.2.2.2.2.2.2.2.2.2.2.2.2.2.2.2.2.2.2.2.2.2.2.2.2.2.2.2.2.2.2.2.2.2.2.2.2.1), .ref 64000000000020504623, .vi (y3.2.2.2.2.2.2.2.2.2.2.2.2.2.2.2.2.2.2.2.2.2.2.2.2.2.2.2.2.2.2.2.2.2.2.2.2.2.2.2.2.2.2.2.2.2.2.2.2.1), .val (.bool y3.2.2.2.2.2.2.2.2.2.2.2.2.2.2.2.2.2.2.2.2.2.2.2.2.2.2.2.2.2.2.2.2.2.2.2.2.2.2.2.2.2.2.2.2.2.2.2.2.2.1), .ref 64000000000020504626]),(64000000000020504584, .row (V.ci .nil) true y3.2.2.2.2.2.2.2.2.1),(64000000000020504586, .row (V.ci .nil) true y3.2.2.2.2.2.2.2.2.2.2.1),(64000000000020504589, .row (V.ci .nil) true y3.2.2.2.2.2.2.2.2.2.2.2.2.2.1),(64000000000020504592, .row (V.ci (V.ci .nil)) true y3.2.2.2.2.2.2.2.2.2.2.2.2.2.2.2.2.1),(64000000000020504601, .row (V.ci .nil) true y3.2.2.2.2.2.2.2.2.2.2.2.2.2.2.2.2.2.2.2.2.2.2.2.2.2.1),(64000000000020504603, .row (V.ci .nil) true y3.2.2.2.2.2.2.2.2.2.2.2.2.2.2.2.2.2.2.2.2.2.2.2.2.2.2.2.1),(64000000000020504606, .row (V.ci .nil) true y3.2.2.2.2.2.2.2.2.2.2.2.2.2.2.2.2.2.2.2.2.2.2.2.2.2.2.2.2.2.2.1),(64000000000020504609, .row (V.ci (V.ci .nil)) true y3.2.2.2.2.2.2.2.2.2.2.2.2.2.2.2.2.2.2.2.2.2.2.2.2.2.2.2.2.2.2.2.2.2.1),(64000000000020504618, .row (V.ci .nil) true y3.2.2.2.2.2.2.2.2.2.2.2.2.2.2.2.2.2.2.2.2.2.2.2.2.2.2.2.2.2.2.2.2.2.2.2.2.2.2.2.2.2.2.1),(64000000000020504620, .row (V.ci .nil) true y3.2.2.2.2.2.2.2.2.2.2.2.2.2.2.2.2.2.2.2.2.2.2.2.2.2.2.2.2.2.2.2.2.2.2.2.2.2.2.2.2.2.2.2.2.1),(64000000000020504623, .row (V.ci .nil) true y3.2.2.2.2.2.2.2.2.2.2.2.2.2.2.2.2.2.2.2.2.2.2.2.2.2.2.2.2.2.2.2.2.2.2.2.2.2.2.2.2.2.2.2.2.2.2.2.1),(64000000000020504626, .row (V.ci (V.ci .nil)) true y3.2.2.2.2.2.2.2.2.2.2.2.2.2.2.2.2.2.2.2.2.2.2.2.2.2.2.2.2.2.2.2.2.2.2.2.2.2.2.2.2.2.2.2.2.2.2.2.2.2.2.1)]⟩
theorem Za.r45 (x0:List Int):V.joinF Za.E Tryz.f3.ntmps [1,1,1,1,1,1] [] (V.codeOf Tryz.f3) (Za.kt x0) (Za.s45 x0)=Za.g45 x0:=by kernel_rfl
theorem Za.e45 (x0:List Int):V.jn (V.joinF Za.E Tryz.f3.ntmps [1,1,1,1,1,1] [] (V.codeOf Tryz.f3) (Za.kt x0)) (Za.s45 x0)=Za.l45 x0:=by
 rw[V.jn_eq,Za.r45]
 rfl
theorem Za.r39 (x0:List Int)(y2:List Z0×List Z0)(y3:Yl):V.joinF Za.E Tryz.f3.ntmps [1,1,1,1,1,1,0,1,0,1,1,1,1] [] (V.codeOf Tryz.f3) (Za.kt x0) (Za.s39 x0 y2 y3)=Za.g39 x0 y2 y3 (V.jn (V.joinF Za.E Tryz.f3.ntmps [1,1,1,1,1,1] [] (V.codeOf Tryz.f3) (Za.kt x0)) (Za.s45 x0)):=by kernel_rfl
theorem Za.e39 (x0:List Int)(y2:List Z0×List Z0)(y3:Yl):V.jn (V.joinF Za.E Tryz.f3.ntmps [1,1,1,1,1,1,0,1,0,1,1,1,1] [] (V.codeOf Tryz.f3) (Za.kt x0)) (Za.s39 x0 y2 y3)=Za.l39 x0 y2 y3:=by
 rw[V.jn_eq,Za.r39]
 simp only[Za.e45]
 rfl
theorem Za.r35 (x0:List Int)(y2:List Z0×List Z0)(y3:Yl)(y6:List Int)(v35_2:Bool):V.joinF Za.E Tryz.f3.ntmps [1,1,1,1,1,1,0,1,0,1,1,1] [] (V.codeOf Tryz.f3) (Za.kt x0) (Za.s35 x0 y2 y3 y6 v35_2)=Za.g35 x0 y2 y3 y6 (fun y2 y3=>V.jn (V.joinF Za.E Tryz.f3.ntmps [1,1,1,1,1,1,0,1,0,1,1,1,1] [] (V.codeOf Tryz.f3) (Za.kt x0)) (Za.s39 x0 y2 y3)) v35_2:=by kernel_rfl
theorem Za.e35 (x0:List Int)(y2:List Z0×List Z0)(y3:Yl)(y6:List Int)(v35_2:Bool):V.jn (V.joinF Za.E Tryz.f3.ntmps [1,1,1,1,1,1,0,1,0,1,1,1] [] (V.codeOf Tryz.f3) (Za.kt x0)) (Za.s35 x0 y2 y3 y6 v35_2)=Za.l35 x0 y2 y3 y6 v35_2:=by
 rw[V.jn_eq,Za.r35]
 simp only[Za.e39]
 rfl
theorem Za.r22 (x0:List Int)(y2:List Z0×List Z0)(y3:Yl)(y6:List Int)(R:V.St→Option Bool)(v22_2:Int):V.loopF Za.E Tryz.f3.ntmps [1,1,1,1,1,1,0,1,0,1,0,1,0] [] (V.codeOf Tryz.f3) (Za.kt x0) R (Za.s22 x0 y2 y3 y6 v22_2)=Za.g22 x0 y2 y3 y6 (fun v22_2=>R (Za.s22 x0 y2 y3 y6 v22_2)) (fun y2 y3 y6 v35_2=>V.jn (V.joinF Za.E Tryz.f3.ntmps [1,1,1,1,1,1,0,1,0,1,1,1] [] (V.codeOf Tryz.f3) (Za.kt x0)) (Za.s35 x0 y2 y3 y6 v35_2)) v22_2:=by kernel_rfl
theorem Za.e22 (x0:List Int)(y2:List Z0×List Z0)(y3:Yl)(y6:List Int):∀(n:Nat) (v22_2:Int),V.loopN (V.loopF Za.E Tryz.f3.ntmps [1,1,1,1,1,1,0,1,0,1,0,1,0] [] (V.codeOf Tryz.f3) (Za.kt x0)) n (Za.s22 x0 y2 y3 y6 v22_2)=Za.l22 x0 y2 y3 y6 n v22_2:=by
 intro n
 induction n with
 |zero=>intros;rw[V.loopN_z];rfl
 |succ n ih=>
  intro v22_2
  rw[V.loopN_s,Za.r22]
  simp only[Za.e35,ih]
  first|exact(Za.u22 ..).symm|rfl
theorem Za.r17 (x0:List Int)(y2:List Z0×List Z0)(y3:Yl):V.joinF Za.E Tryz.f3.ntmps [1,1,1,1,1] [] (V.codeOf Tryz.f3) (Za.kt x0) (Za.s17 x0 y2 y3)=Za.g17 x0 y2 y3 (fun y2 y3 y6 v22_2=>V.loopN (V.loopF Za.E Tryz.f3.ntmps [1,1,1,1,1,1,0,1,0,1,0,1,0] [] (V.codeOf Tryz.f3) (Za.kt x0)) V.KK (Za.s22 x0 y2 y3 y6 v22_2)) (V.jn (V.joinF Za.E Tryz.f3.ntmps [1,1,1,1,1,1] [] (V.codeOf Tryz.f3) (Za.kt x0)) (Za.s45 x0)):=by kernel_rfl
theorem Za.e17 (x0:List Int)(y2:List Z0×List Z0)(y3:Yl):V.jn (V.joinF Za.E Tryz.f3.ntmps [1,1,1,1,1] [] (V.codeOf Tryz.f3) (Za.kt x0)) (Za.s17 x0 y2 y3)=Za.l17 x0 y2 y3:=by
 rw[V.jn_eq,Za.r17]
 simp only[Za.e22,Za.e45]
 rfl
theorem Za.v (x0:List Int):V.evBody Za.E Za.con Tryz.f3 ((x0):List Int)=Za.b x0 (fun y2 y3=>V.jn (V.joinF Za.E Tryz.f3.ntmps [1,1,1,1,1] [] (V.codeOf Tryz.f3) (Za.kt x0)) (Za.s17 x0 y2 y3)):=by kernel_rfl
theorem Za.eq (x0:List Int):V.evBody Za.E Za.con Tryz.f3 ((x0):List Int)=Za x0:=by
 rw[Za.v]
 simp only[Za.e17]
 rfl
theorem Za.ok :V.Valid Tryz.prog 3 Za.con:=
 V.fo (V.tab_cons WD.ok (V.tab_cons Wk.ok (V.tab_cons ZA.ok (V.tab_cons Zz.ok (V.tab_cons X8.ok (V.tab_cons X5.ok (V.tab_cons Y5.ok (V.tab_cons ZP.ok (V.tab_cons Yf.ok (V.tab_cons YP.ok (V.tab_cons X3.ok (V.tab_cons X6.ok (V.tab_cons Wl.ok (V.tab_cons YT.ok (V.tab_cons ZW.ok (V.tab_cons ZI.ok (V.tab_cons Xe.ok V.tab_nil))))))))))))))))) Tryz.func3 (by kernel_rfl) (fun x y h=>(show V.evBody Za.E Za.con Tryz.f3 x=_ from Za.eq x).trans (V.cfl (by kernel_rfl) h))
end Go.Proofs.YtcbeaoigenjoeadGreat
