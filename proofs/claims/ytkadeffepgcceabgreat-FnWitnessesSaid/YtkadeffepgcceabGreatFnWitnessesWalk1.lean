/- That the functions compute it, part 1. -/
import Derived.Test.YtkadeffepgcceabGreatFnWitnessesWalk0
namespace Go.Proofs.YtkadeffepgcceabGreat
set_option linter.unusedVariables false
set_option maxRecDepth 100000
noncomputable abbrev Z81.con : V.Con := ⟨V.A0, (.cons (.sl (V.ci .nil)) .nil), fun (x : V.D0) => Z81 (V.p0_0 x), [], [(true, 16)], [(false, 1)], [true], []⟩
noncomputable abbrev Z81.E : V.Env := V.mkE V.tys [(102, Z11.con), (109, Z97.con), (110, Z127.con)] [] [(1, 33)] [] [] []
noncomputable abbrev Z81.kt (x0 : THead) : V.Kt (List Int) := V.ktOf Z81.E Z81.con Tryz.f91 (V.fl0 x0)
noncomputable abbrev Z81.s (x0 : THead) : V.St := ⟨[(0, .v true (V.lsHead x0))], []⟩
theorem Z81.v0 (x0 : THead) : V.evBody Z81.E Z81.con Tryz.f91 (V.fl0 x0) = V.evC Z81.E Tryz.f91.ntmps (V.codeOf Tryz.f91) (Z81.kt x0) (Z81.s x0) := by kernel_rfl
theorem Z81.v (x0 : THead) : V.evC Z81.E Tryz.f91.ntmps (V.codeOf Tryz.f91) (Z81.kt x0) (Z81.s x0) = Z81 x0 := by kernel_rfl
theorem Z81.eq (x0 : THead) : V.evBody Z81.E Z81.con Tryz.f91 (V.fl0 x0) = Z81 x0 := (Z81.v0 x0).trans (Z81.v x0)
theorem Z81.ok : V.Valid Tryz.prog 91 Z81.con :=
 V.fo (V.tab_cons Z11.ok (V.tab_cons Z97.ok (V.tab_cons Z127.ok V.tab_nil))) Tryz.func91 (by kernel_rfl) (fun x y h => (show V.evBody Z81.E Z81.con Tryz.f91 x = _ from Z81.eq (V.p0_0 x)).trans (V.cfl (by kernel_rfl) h))
noncomputable abbrev Z136.con : V.Con := ⟨(V.ci (.cons (.sl (V.ci .nil)) .nil)), (V.ci .nil), fun (x : Int × List Int) => Z136 x.1 x.2, [], [(false, 1), (false, 1)], [(false, 1)], [false], []⟩
noncomputable abbrev Z136.E : V.Env := V.mkE V.tys [(90, Z25.con), (102, Z11.con)] [] [] [128320] [] []
theorem Z136.eq (x0 : Int) (x1 : List Int) : V.evBody Z136.E Z136.con Tryz.f74 ((x0, x1) : Int × List Int) = Z136 x0 x1 := by kernel_rfl
theorem Z136.ok : V.Valid Tryz.prog 74 Z136.con :=
 V.fo (V.tab_cons Z25.ok (V.tab_cons Z11.ok V.tab_nil)) Tryz.func74 (by kernel_rfl) (fun x y h => (show V.evBody Z136.E Z136.con Tryz.f74 x = _ from Z136.eq x.1 x.2).trans (V.cfl (by kernel_rfl) h))
noncomputable abbrev Z113.con : V.Con := ⟨(V.ci (.cons (.sl (V.ci .nil)) .nil)), (V.ci .nil), fun (x : Int × List Int) => Z113 x.1 x.2, [], [(false, 1), (false, 1)], [(false, 1)], [false], []⟩
noncomputable abbrev Z113.E : V.Env := V.mkE V.tys [(74, Z136.con)] [] [] [] [] []
theorem Z113.eq (x0 : Int) (x1 : List Int) : V.evBody Z113.E Z113.con Tryz.f36 ((x0, x1) : Int × List Int) = Z113 x0 x1 := by kernel_rfl
theorem Z113.ok : V.Valid Tryz.prog 36 Z113.con :=
 V.fo (V.tab_cons Z136.ok V.tab_nil) Tryz.func36 (by kernel_rfl) (fun x y h => (show V.evBody Z113.E Z113.con Tryz.f36 x = _ from Z113.eq x.1 x.2).trans (V.cfl (by kernel_rfl) h))
noncomputable abbrev Z134.con : V.Con := ⟨(V.ci (V.ci (.cons (.sl (V.ci .nil)) .nil))), (.cons .bool .nil), fun (x : Int × Int × List Int) => Z134 (x.1, x.2.1) x.2.2, [], [(true, 2), (false, 1)], [(false, 1)], [false], []⟩
noncomputable abbrev Z134.E : V.Env := V.mkE V.tys [(36, Z113.con), (50, Z99.con)] [] [(1, 10)] [] [] []
theorem Z134.eq (x0 : TSig) (x1 : List Int) : V.evBody Z134.E Z134.con Tryz.f88 ((x0.1, x0.2, x1) : Int × Int × List Int) = Z134 x0 x1 := by kernel_rfl
theorem Z134.ok : V.Valid Tryz.prog 88 Z134.con :=
 V.fo (V.tab_cons Z113.ok (V.tab_cons Z99.ok V.tab_nil)) Tryz.func88 (by kernel_rfl) (fun x y h => (show V.evBody Z134.E Z134.con Tryz.f88 x = _ from Z134.eq (x.1, x.2.1) x.2.2).trans (V.cfl (by kernel_rfl) h))
noncomputable abbrev Z156.con : V.Con := ⟨(V.ci (V.ci (.cons (.ptr (V.ci .nil)) (.cons (.ptr (.cons (.sl (V.ci .nil)) .nil)) .nil)))), (.cons .bool .nil), fun (x : Int × Int × Int × List Int) => Z156 (x.1, x.2.1) x.2.2.1 x.2.2.2, [], [(true, 2), (false, 1), (false, 1)], [(false, 1)], [false], []⟩
noncomputable abbrev Z156.E : V.Env := V.mkE V.tys [(88, Z134.con)] [] [] [] [] []
theorem Z156.eq (x0 : TSig) (x1 : Int) (x2 : List Int) : V.evBody Z156.E Z156.con Tryz.f87 ((x0.1, x0.2, x1, x2) : Int × Int × Int × List Int) = Z156 x0 x1 x2 := by kernel_rfl
theorem Z156.ok : V.Valid Tryz.prog 87 Z156.con :=
 V.fo (V.tab_cons Z134.ok V.tab_nil) Tryz.func87 (by kernel_rfl) (fun x y h => (show V.evBody Z156.E Z156.con Tryz.f87 x = _ from Z156.eq (x.1, x.2.1) x.2.2.1 x.2.2.2).trans (V.cfl (by kernel_rfl) h))
noncomputable abbrev Z37.con : V.Con := ⟨(.cons (.sl (V.ci (V.ci .nil))) (.cons (.fn 87 false .nil (.cons (.ptr (V.ci .nil)) (.cons (.ptr (.cons (.sl (V.ci .nil)) .nil)) .nil))) .nil)), (V.ci .nil), fun (x : List TSig × (Unit) × (Int × List Int)) => Z37 x.1 x.2, [], [(false, 1), (false, 1)], [(false, 1)], [false], []⟩
noncomputable abbrev Z37.E : V.Env := V.mkE V.tys [(87, Z156.con)] [(4, [0, 1, 7, 8], [])] [] [] [] []
noncomputable abbrev Z37.kt (x0 : List TSig) (x1 : (Unit) × (Int × List Int)) : V.Kt Int := V.ktOf Z37.E Z37.con Tryz.f107 ((x0, x1) : List TSig × (Unit) × (Int × List Int))
noncomputable abbrev Z37.s4 (x0 : List TSig) (x1 : (Unit) × (Int × List Int)) (v4_2 : Int) (v4_3 : Int) : V.St := ⟨[(0, .v false [.val (.sl (V.ci (V.ci .nil)) x0)]), (1, .v false [.val (.fn 87 false .nil (.cons (.ptr (V.ci .nil)) (.cons (.ptr (.cons (.sl (V.ci .nil)) .nil)) .nil)) () x1.2)]), (7, .v false [.vi (v4_2)]), (8, .v false [.vi (v4_3)])], []⟩
theorem Z37.r4 (x0 : List TSig) (x1 : (Unit) × (Int × List Int)) (R : V.St → Option Int) (v4_2 : Int) (v4_3 : Int) : V.loopF Z37.E Tryz.f107.ntmps [1, 0, 1, 0] [] (V.codeOf Tryz.f107) (Z37.kt x0 x1) R (Z37.s4 x0 x1 v4_2 v4_3) = Z37.g4 x0 x1 (fun v4_2 v4_3 => R (Z37.s4 x0 x1 v4_2 v4_3)) v4_2 v4_3 := by kernel_rfl
theorem Z37.e4 (x0 : List TSig) (x1 : (Unit) × (Int × List Int)) : ∀ (n : Nat) (v4_2 : Int) (v4_3 : Int), V.loopN (V.loopF Z37.E Tryz.f107.ntmps [1, 0, 1, 0] [] (V.codeOf Tryz.f107) (Z37.kt x0 x1)) n (Z37.s4 x0 x1 v4_2 v4_3) = Z37.l4 x0 x1 n v4_2 v4_3 := by
 intro n
 induction n with
 | zero => intros; rw [V.loopN_z]; rfl
 | succ n ih =>
   intro v4_2 v4_3
   rw [V.loopN_s, Z37.r4]
   simp only [ih]
   first | exact (Z37.u4 ..).symm | rfl
theorem Z37.v (x0 : List TSig) (x1 : (Unit) × (Int × List Int)) : V.evBody Z37.E Z37.con Tryz.f107 ((x0, x1) : List TSig × (Unit) × (Int × List Int)) = Z37.b x0 x1 (fun v4_2 v4_3 => V.loopN (V.loopF Z37.E Tryz.f107.ntmps [1, 0, 1, 0] [] (V.codeOf Tryz.f107) (Z37.kt x0 x1)) V.KK (Z37.s4 x0 x1 v4_2 v4_3)) := by kernel_rfl
theorem Z37.eq (x0 : List TSig) (x1 : (Unit) × (Int × List Int)) : V.evBody Z37.E Z37.con Tryz.f107 ((x0, x1) : List TSig × (Unit) × (Int × List Int)) = Z37 x0 x1 := by
 rw [Z37.v]
 simp only [Z37.e4]
 rfl
theorem Z37.ok : V.Valid Tryz.prog 107 Z37.con :=
 V.fo (V.tab_cons Z156.ok V.tab_nil) Tryz.func107 (by kernel_rfl) (fun x y h => (show V.evBody Z37.E Z37.con Tryz.f107 x = _ from Z37.eq x.1 x.2).trans (V.cfl (by kernel_rfl) h))
noncomputable abbrev Z142.con : V.Con := ⟨(.cons (.sl (V.ci (V.ci .nil))) (.cons (.fn 87 false .nil (.cons (.ptr (V.ci .nil)) (.cons (.ptr (.cons (.sl (V.ci .nil)) .nil)) .nil))) .nil)), (.cons .bool .nil), fun (x : List TSig × (Unit) × (Int × List Int)) => Z142 x.1 x.2, [], [(false, 1), (false, 1)], [(false, 1)], [false], []⟩
noncomputable abbrev Z142.E : V.Env := V.mkE V.tys [(107, Z37.con)] [] [] [] [] []
theorem Z142.eq (x0 : List TSig) (x1 : (Unit) × (Int × List Int)) : V.evBody Z142.E Z142.con Tryz.f86 ((x0, x1) : List TSig × (Unit) × (Int × List Int)) = Z142 x0 x1 := by kernel_rfl
theorem Z142.ok : V.Valid Tryz.prog 86 Z142.con :=
 V.fo (V.tab_cons Z37.ok V.tab_nil) Tryz.func86 (by kernel_rfl) (fun x y h => (show V.evBody Z142.E Z142.con Tryz.f86 x = _ from Z142.eq x.1 x.2).trans (V.cfl (by kernel_rfl) h))
noncomputable abbrev Z30.con : V.Con := ⟨(.cons (.sl (V.ci .nil)) (V.ci (.cons (.sl (V.ci .nil)) (.cons (.sl (V.ci (V.ci .nil))) .nil)))), (V.ci .nil), fun (x : List Int × Int × List Int × List TSig) => Z30 (x.1, x.2.1) x.2.2.1 x.2.2.2, [], [(true, 2), (false, 1), (false, 1)], [(false, 1)], [false], []⟩
noncomputable abbrev Z30.E : V.Env := V.mkE V.tys [(86, Z142.con)] [(6, [2, 4, 7, 11, 12, 13], [])] [] [] [] []
noncomputable abbrev Z30.kt (x0 : TKeys) (x1 : List Int) (x2 : List TSig) : V.Kt Int := V.ktOf Z30.E Z30.con Tryz.f55 ((x0.1, x0.2, x1, x2) : List Int × Int × List Int × List TSig)
noncomputable abbrev Z30.s6 (x0 : TKeys) (x1 : List Int) (x2 : List TSig) (v6_1 : Int) (v6_3 : Int) (v6_4 : Int) : V.St := ⟨[(2, .v false [.val (.sl (V.ci (V.ci .nil)) x2)]), (4, .v false [.ptr 64064 0]), (7, .v false [.vi (v6_1)]), (11, .v false [.val (.sl (V.ci .nil) x0.1)]), (12, .v false [.vi (v6_3)]), (13, .v false [.vi (v6_4)])], [(64064, .box [.val (.sl (V.ci .nil) x1)])]⟩
theorem Z30.r6 (x0 : TKeys) (x1 : List Int) (x2 : List TSig) (R : V.St → Option Int) (v6_1 : Int) (v6_3 : Int) (v6_4 : Int) : V.loopF Z30.E Tryz.f55.ntmps [1, 1, 0, 1, 0] [] (V.codeOf Tryz.f55) (Z30.kt x0 x1 x2) R (Z30.s6 x0 x1 x2 v6_1 v6_3 v6_4) = Z30.g6 x0 x1 x2 (fun v6_1 v6_3 v6_4 => R (Z30.s6 x0 x1 x2 v6_1 v6_3 v6_4)) v6_1 v6_3 v6_4 := by kernel_rfl
theorem Z30.e6 (x0 : TKeys) (x1 : List Int) (x2 : List TSig) : ∀ (n : Nat) (v6_1 : Int) (v6_3 : Int) (v6_4 : Int), V.loopN (V.loopF Z30.E Tryz.f55.ntmps [1, 1, 0, 1, 0] [] (V.codeOf Tryz.f55) (Z30.kt x0 x1 x2)) n (Z30.s6 x0 x1 x2 v6_1 v6_3 v6_4) = Z30.l6 x0 x1 x2 n v6_1 v6_3 v6_4 := by
 intro n
 induction n with
 | zero => intros; rw [V.loopN_z]; rfl
 | succ n ih =>
   intro v6_1 v6_3 v6_4
   rw [V.loopN_s, Z30.r6]
   simp only [ih]
   first | exact (Z30.u6 ..).symm | rfl
theorem Z30.v (x0 : TKeys) (x1 : List Int) (x2 : List TSig) : V.evBody Z30.E Z30.con Tryz.f55 ((x0.1, x0.2, x1, x2) : List Int × Int × List Int × List TSig) = Z30.b x0 x1 x2 (fun v6_1 v6_3 v6_4 => V.loopN (V.loopF Z30.E Tryz.f55.ntmps [1, 1, 0, 1, 0] [] (V.codeOf Tryz.f55) (Z30.kt x0 x1 x2)) V.KK (Z30.s6 x0 x1 x2 v6_1 v6_3 v6_4)) := by kernel_rfl
theorem Z30.eq (x0 : TKeys) (x1 : List Int) (x2 : List TSig) : V.evBody Z30.E Z30.con Tryz.f55 ((x0.1, x0.2, x1, x2) : List Int × Int × List Int × List TSig) = Z30 x0 x1 x2 := by
 rw [Z30.v]
 simp only [Z30.e6]
 rfl
theorem Z30.ok : V.Valid Tryz.prog 55 Z30.con :=
 V.fo (V.tab_cons Z142.ok V.tab_nil) Tryz.func55 (by kernel_rfl) (fun x y h => (show V.evBody Z30.E Z30.con Tryz.f55 x = _ from Z30.eq (x.1, x.2.1) x.2.2.1 x.2.2.2).trans (V.cfl (by kernel_rfl) h))
noncomputable abbrev Z135.con : V.Con := ⟨(.cons (.sl (V.ci .nil)) (V.ci (.cons (.sl (V.ci .nil)) (.cons (.sl (V.ci (V.ci .nil))) .nil)))), (.cons .bool .nil), fun (x : List Int × Int × List Int × List TSig) => Z135 (x.1, x.2.1) x.2.2.1 x.2.2.2, [], [(true, 2), (false, 1), (false, 1)], [(false, 1)], [false], []⟩
noncomputable abbrev Z135.E : V.Env := V.mkE V.tys [(51, Z96.con), (55, Z30.con)] [] [(1, 9)] [] [] []
theorem Z135.eq (x0 : TKeys) (x1 : List Int) (x2 : List TSig) : V.evBody Z135.E Z135.con Tryz.f147 ((x0.1, x0.2, x1, x2) : List Int × Int × List Int × List TSig) = Z135 x0 x1 x2 := by kernel_rfl
theorem Z135.ok : V.Valid Tryz.prog 147 Z135.con :=
 V.fo (V.tab_cons Z96.ok (V.tab_cons Z30.ok V.tab_nil)) Tryz.func147 (by kernel_rfl) (fun x y h => (show V.evBody Z135.E Z135.con Tryz.f147 x = _ from Z135.eq (x.1, x.2.1) x.2.2.1 x.2.2.2).trans (V.cfl (by kernel_rfl) h))
noncomputable abbrev Z71.con : V.Con := ⟨V.A7, (.cons .bool .nil), fun (x : V.D7) => Z71 (V.p7_0 x) (V.p7_1 x), [], [(true, 17), (true, 2)], [(false, 1)], [false], []⟩
noncomputable abbrev Z71.E : V.Env := V.mkE V.tys [(91, Z81.con), (147, Z135.con)] [] [(1, 6)] [] [] []
noncomputable abbrev Z71.kt (x0 : TSigned) (x1 : TKeys) : V.Kt Bool := V.ktOf Z71.E Z71.con Tryz.f125 (V.fl7 x0 x1)
noncomputable abbrev Z71.s (x0 : TSigned) (x1 : TKeys) : V.St := ⟨[(0, .v true (V.lsSigned x0)), (1, .v true [.val (.sl (V.ci .nil) x1.1), .vi (x1.2)])], []⟩
theorem Z71.v0 (x0 : TSigned) (x1 : TKeys) : V.evBody Z71.E Z71.con Tryz.f125 (V.fl7 x0 x1) = V.evC Z71.E Tryz.f125.ntmps (V.codeOf Tryz.f125) (Z71.kt x0 x1) (Z71.s x0 x1) := by kernel_rfl
theorem Z71.v (x0 : TSigned) (x1 : TKeys) : V.evC Z71.E Tryz.f125.ntmps (V.codeOf Tryz.f125) (Z71.kt x0 x1) (Z71.s x0 x1) = Z71 x0 x1 := by kernel_rfl
theorem Z71.eq (x0 : TSigned) (x1 : TKeys) : V.evBody Z71.E Z71.con Tryz.f125 (V.fl7 x0 x1) = Z71 x0 x1 := (Z71.v0 x0 x1).trans (Z71.v x0 x1)
theorem Z71.ok : V.Valid Tryz.prog 125 Z71.con :=
 V.fo (V.tab_cons Z81.ok (V.tab_cons Z135.ok V.tab_nil)) Tryz.func125 (by kernel_rfl) (fun x y h => (show V.evBody Z71.E Z71.con Tryz.f125 x = _ from Z71.eq (V.p7_0 x) (V.p7_1 x)).trans (V.cfl (by kernel_rfl) h))
noncomputable abbrev Z85.con : V.Con := ⟨V.A3, (.cons .bool .nil), fun (x : V.D3) => Z85 (V.p3_0 x), [], [(true, 17)], [(false, 1)], [false], []⟩
noncomputable abbrev Z85.E : V.Env := V.mkE V.tys [(123, Z76.con), (124, Z137.con), (125, Z71.con)] [] [(2, 31)] [] [] []
noncomputable abbrev Z85.kt (x0 : TSigned) : V.Kt Bool := V.ktOf Z85.E Z85.con Tryz.f99 (V.fl3 x0)
noncomputable abbrev Z85.s (x0 : TSigned) : V.St := ⟨[(0, .v true (V.lsSigned x0))], []⟩
theorem Z85.v0 (x0 : TSigned) : V.evBody Z85.E Z85.con Tryz.f99 (V.fl3 x0) = V.evC Z85.E Tryz.f99.ntmps (V.codeOf Tryz.f99) (Z85.kt x0) (Z85.s x0) := by kernel_rfl
theorem Z85.v (x0 : TSigned) : V.evC Z85.E Tryz.f99.ntmps (V.codeOf Tryz.f99) (Z85.kt x0) (Z85.s x0) = Z85 x0 := by kernel_rfl
theorem Z85.eq (x0 : TSigned) : V.evBody Z85.E Z85.con Tryz.f99 (V.fl3 x0) = Z85 x0 := (Z85.v0 x0).trans (Z85.v x0)
theorem Z85.ok : V.Valid Tryz.prog 99 Z85.con :=
 V.fo (V.tab_cons Z76.ok (V.tab_cons Z137.ok (V.tab_cons Z71.ok V.tab_nil))) Tryz.func99 (by kernel_rfl) (fun x y h => (show V.evBody Z85.E Z85.con Tryz.f99 x = _ from Z85.eq (V.p3_0 x)).trans (V.cfl (by kernel_rfl) h))
noncomputable abbrev Z79.con : V.Con := ⟨V.A0, (V.ci .nil), fun (x : V.D0) => Z79 (V.p0_0 x), [], [(true, 16)], [(false, 1)], [false], []⟩
noncomputable abbrev Z79.E : V.Env := V.mkE V.tys [(90, Z25.con), (91, Z81.con)] [] [] [] [] []
noncomputable abbrev Z79.kt (x0 : THead) : V.Kt Int := V.ktOf Z79.E Z79.con Tryz.f58 (V.fl0 x0)
noncomputable abbrev Z79.s (x0 : THead) : V.St := ⟨[(0, .v true (V.lsHead x0))], []⟩
theorem Z79.v0 (x0 : THead) : V.evBody Z79.E Z79.con Tryz.f58 (V.fl0 x0) = V.evC Z79.E Tryz.f58.ntmps (V.codeOf Tryz.f58) (Z79.kt x0) (Z79.s x0) := by kernel_rfl
theorem Z79.v (x0 : THead) : V.evC Z79.E Tryz.f58.ntmps (V.codeOf Tryz.f58) (Z79.kt x0) (Z79.s x0) = Z79 x0 := by kernel_rfl
theorem Z79.eq (x0 : THead) : V.evBody Z79.E Z79.con Tryz.f58 (V.fl0 x0) = Z79 x0 := (Z79.v0 x0).trans (Z79.v x0)
theorem Z79.ok : V.Valid Tryz.prog 58 Z79.con :=
 V.fo (V.tab_cons Z25.ok (V.tab_cons Z81.ok V.tab_nil)) Tryz.func58 (by kernel_rfl) (fun x y h => (show V.evBody Z79.E Z79.con Tryz.f58 x = _ from Z79.eq (V.p0_0 x)).trans (V.cfl (by kernel_rfl) h))
noncomputable abbrev Z87.con : V.Con := ⟨V.A4, (.cons .bool .nil), fun (x : V.D4) => Z87 (V.p4_0 x) (V.p4_1 x), [], [(true, 16), (true, 16)], [(false, 1)], [false], []⟩
noncomputable abbrev Z87.E : V.Env := V.mkE V.tys [(58, Z79.con)] [] [(1, 25)] [] [] []
noncomputable abbrev Z87.kt (x0 : THead) (x1 : THead) : V.Kt Bool := V.ktOf Z87.E Z87.con Tryz.f148 (V.fl4 x0 x1)
noncomputable abbrev Z87.s (x0 : THead) (x1 : THead) : V.St := ⟨[(0, .v true (V.lsHead x0)), (1, .v true (V.lsHead x1))], []⟩
theorem Z87.v0 (x0 : THead) (x1 : THead) : V.evBody Z87.E Z87.con Tryz.f148 (V.fl4 x0 x1) = V.evC Z87.E Tryz.f148.ntmps (V.codeOf Tryz.f148) (Z87.kt x0 x1) (Z87.s x0 x1) := by kernel_rfl
theorem Z87.v (x0 : THead) (x1 : THead) : V.evC Z87.E Tryz.f148.ntmps (V.codeOf Tryz.f148) (Z87.kt x0 x1) (Z87.s x0 x1) = Z87 x0 x1 := by kernel_rfl
theorem Z87.eq (x0 : THead) (x1 : THead) : V.evBody Z87.E Z87.con Tryz.f148 (V.fl4 x0 x1) = Z87 x0 x1 := (Z87.v0 x0 x1).trans (Z87.v x0 x1)
theorem Z87.ok : V.Valid Tryz.prog 148 Z87.con :=
 V.fo (V.tab_cons Z79.ok V.tab_nil) Tryz.func148 (by kernel_rfl) (fun x y h => (show V.evBody Z87.E Z87.con Tryz.f148 x = _ from Z87.eq (V.p4_0 x) (V.p4_1 x)).trans (V.cfl (by kernel_rfl) h))
noncomputable abbrev Z88.con : V.Con := ⟨V.A5, (V.ci .nil), fun (x : V.D5) => Z88 (V.p5_0 x) (V.p5_1 x), [], [(true, 16), (true, 17)], [(false, 1)], [false], []⟩
noncomputable abbrev Z88.E : V.Env := V.mkE V.tys [(125, Z71.con)] [] [] [] [] []
noncomputable abbrev Z88.kt (x0 : THead) (x1 : TSigned) : V.Kt Int := V.ktOf Z88.E Z88.con Tryz.f149 (V.fl5 x0 x1)
noncomputable abbrev Z88.s (x0 : THead) (x1 : TSigned) : V.St := ⟨[(0, .v true (V.lsHead x0)), (1, .v true (V.lsSigned x1))], []⟩
theorem Z88.v0 (x0 : THead) (x1 : TSigned) : V.evBody Z88.E Z88.con Tryz.f149 (V.fl5 x0 x1) = V.evC Z88.E Tryz.f149.ntmps (V.codeOf Tryz.f149) (Z88.kt x0 x1) (Z88.s x0 x1) := by kernel_rfl
theorem Z88.v (x0 : THead) (x1 : TSigned) : V.evC Z88.E Tryz.f149.ntmps (V.codeOf Tryz.f149) (Z88.kt x0 x1) (Z88.s x0 x1) = Z88 x0 x1 := by kernel_rfl
theorem Z88.eq (x0 : THead) (x1 : TSigned) : V.evBody Z88.E Z88.con Tryz.f149 (V.fl5 x0 x1) = Z88 x0 x1 := (Z88.v0 x0 x1).trans (Z88.v x0 x1)
theorem Z88.ok : V.Valid Tryz.prog 149 Z88.con :=
 V.fo (V.tab_cons Z71.ok V.tab_nil) Tryz.func149 (by kernel_rfl) (fun x y h => (show V.evBody Z88.E Z88.con Tryz.f149 x = _ from Z88.eq (V.p5_0 x) (V.p5_1 x)).trans (V.cfl (by kernel_rfl) h))
noncomputable abbrev Z32.con : V.Con := ⟨(.cons (.sl (V.ci .nil)) (.cons (.sl (V.ci .nil)) .nil)), (.cons .bool .nil), fun (x : List Int × List Int) => Z32 x.1 x.2, [], [(false, 1), (false, 1)], [(false, 1)], [false], []⟩
noncomputable abbrev Z32.E : V.Env := V.mkE V.tys [] [(8, [0, 1, 12, 13], [])] [(6, 8)] [] [] []
noncomputable abbrev Z32.kt (x0 : List Int) (x1 : List Int) : V.Kt Bool := V.ktOf Z32.E Z32.con Tryz.f162 ((x0, x1) : List Int × List Int)
noncomputable abbrev Z32.s8 (x0 : List Int) (x1 : List Int) (v8_2 : Int) (v8_3 : Int) : V.St := ⟨[(0, .v false [.val (.sl (V.ci .nil) x0)]), (1, .v false [.val (.sl (V.ci .nil) x1)]), (12, .v false [.vi (v8_2)]), (13, .v false [.vi (v8_3)])], []⟩
theorem Z32.r8 (x0 : List Int) (x1 : List Int) (R : V.St → Option Bool) (v8_2 : Int) (v8_3 : Int) : V.loopF Z32.E Tryz.f162.ntmps [1, 1, 0, 1, 0] [] (V.codeOf Tryz.f162) (Z32.kt x0 x1) R (Z32.s8 x0 x1 v8_2 v8_3) = Z32.g8 x0 x1 (fun v8_2 v8_3 => R (Z32.s8 x0 x1 v8_2 v8_3)) v8_2 v8_3 := by kernel_rfl
theorem Z32.e8 (x0 : List Int) (x1 : List Int) : ∀ (n : Nat) (v8_2 : Int) (v8_3 : Int), V.loopN (V.loopF Z32.E Tryz.f162.ntmps [1, 1, 0, 1, 0] [] (V.codeOf Tryz.f162) (Z32.kt x0 x1)) n (Z32.s8 x0 x1 v8_2 v8_3) = Z32.l8 x0 x1 n v8_2 v8_3 := by
 intro n
 induction n with
 | zero => intros; rw [V.loopN_z]; rfl
 | succ n ih =>
   intro v8_2 v8_3
   rw [V.loopN_s, Z32.r8]
   simp only [ih]
   first | exact (Z32.u8 ..).symm | rfl
theorem Z32.v (x0 : List Int) (x1 : List Int) : V.evBody Z32.E Z32.con Tryz.f162 ((x0, x1) : List Int × List Int) = Z32.b x0 x1 (fun v8_2 v8_3 => V.loopN (V.loopF Z32.E Tryz.f162.ntmps [1, 1, 0, 1, 0] [] (V.codeOf Tryz.f162) (Z32.kt x0 x1)) V.KK (Z32.s8 x0 x1 v8_2 v8_3)) := by kernel_rfl
theorem Z32.eq (x0 : List Int) (x1 : List Int) : V.evBody Z32.E Z32.con Tryz.f162 ((x0, x1) : List Int × List Int) = Z32 x0 x1 := by
 rw [Z32.v]
 simp only [Z32.e8]
 rfl
theorem Z32.ok : V.Valid Tryz.prog 162 Z32.con :=
 V.fo V.tab_nil Tryz.func162 (by kernel_rfl) (fun x y h => (show V.evBody Z32.E Z32.con Tryz.f162 x = _ from Z32.eq x.1 x.2).trans (V.cfl (by kernel_rfl) h))
noncomputable abbrev Z108.con : V.Con := ⟨(.cons (.sl (V.ci .nil)) (V.ci (.cons (.sl (V.ci .nil)) (V.ci .nil)))), (.cons .bool .nil), fun (x : List Int × Int × List Int × Int) => Z108 (x.1, x.2.1) x.2.2, [], [(true, 2), (true, 2)], [(false, 1)], [false], []⟩
noncomputable abbrev Z108.E : V.Env := V.mkE V.tys [(162, Z32.con)] [] [] [] [] []
theorem Z108.eq (x0 : TKeys) (x1 : TKeys) : V.evBody Z108.E Z108.con Tryz.f157 ((x0.1, x0.2, x1.1, x1.2) : List Int × Int × List Int × Int) = Z108 x0 x1 := by kernel_rfl
theorem Z108.ok : V.Valid Tryz.prog 157 Z108.con :=
 V.fo (V.tab_cons Z32.ok V.tab_nil) Tryz.func157 (by kernel_rfl) (fun x y h => (show V.evBody Z108.E Z108.con Tryz.f157 x = _ from Z108.eq (x.1, x.2.1) x.2.2).trans (V.cfl (by kernel_rfl) h))
noncomputable abbrev Z82.con : V.Con := ⟨V.A4, (.cons .bool .nil), fun (x : V.D4) => Z82 (V.p4_0 x) (V.p4_1 x), [], [(true, 16), (true, 16)], [(false, 1)], [false], []⟩
noncomputable abbrev Z82.E : V.Env := V.mkE V.tys [] [] [] [] [] []
noncomputable abbrev Z82.kt (x0 : THead) (x1 : THead) : V.Kt Bool := V.ktOf Z82.E Z82.con Tryz.f158 (V.fl4 x0 x1)
noncomputable abbrev Z82.s (x0 : THead) (x1 : THead) : V.St := ⟨[(0, .v true (V.lsHead x0)), (1, .v true (V.lsHead x1))], []⟩
theorem Z82.v0 (x0 : THead) (x1 : THead) : V.evBody Z82.E Z82.con Tryz.f158 (V.fl4 x0 x1) = V.evC Z82.E Tryz.f158.ntmps (V.codeOf Tryz.f158) (Z82.kt x0 x1) (Z82.s x0 x1) := by kernel_rfl
theorem Z82.v (x0 : THead) (x1 : THead) : V.evC Z82.E Tryz.f158.ntmps (V.codeOf Tryz.f158) (Z82.kt x0 x1) (Z82.s x0 x1) = Z82 x0 x1 := by kernel_rfl
theorem Z82.eq (x0 : THead) (x1 : THead) : V.evBody Z82.E Z82.con Tryz.f158 (V.fl4 x0 x1) = Z82 x0 x1 := (Z82.v0 x0 x1).trans (Z82.v x0 x1)
theorem Z82.ok : V.Valid Tryz.prog 158 Z82.con :=
 V.fo V.tab_nil Tryz.func158 (by kernel_rfl) (fun x y h => (show V.evBody Z82.E Z82.con Tryz.f158 x = _ from Z82.eq (V.p4_0 x) (V.p4_1 x)).trans (V.cfl (by kernel_rfl) h))
noncomputable abbrev Z17.con : V.Con := ⟨V.A5, (V.ci .nil), fun (x : V.D5) => Z17 (V.p5_0 x) (V.p5_1 x), [], [(true, 16), (true, 17)], [(false, 1)], [false], []⟩
noncomputable abbrev Z17.E : V.Env := V.mkE V.tys [(125, Z71.con), (146, Z94.con), (157, Z108.con), (158, Z82.con)] [(11, [2, 3, 5, 11], []), (15, [2, 3, 25], [])] [] [] [] []
noncomputable abbrev Z17.kt (x0 : THead) (x1 : TSigned) : V.Kt Int := V.ktOf Z17.E Z17.con Tryz.f150 (V.fl5 x0 x1)
noncomputable abbrev Z17.s15 (x0 : THead) (x1 : TSigned) (v15_0 : Bool) : V.St := ⟨[(2, .v false [.ptr 64000 0]), (3, .v false [.ptr 64064 0]), (25, .v false [.val (.bool v15_0)])], [(64000, .box (V.lsHead x0)), (64064, .box (V.lsSigned x1))]⟩
noncomputable abbrev Z17.s11 (x0 : THead) (x1 : TSigned) (v11_0 : Bool) : V.St := ⟨[(2, .v false [.ptr 64000 0]), (3, .v false [.ptr 64064 0]), (5, .v false [.ptr 128128 0]), (11, .v false [.val (.bool v11_0)])], [(64000, .box (V.lsHead x0)), (64064, .box (V.lsSigned x1)), (128128, .box [.vi (x1.1), .vi (x1.2.1), .vi (x1.2.2.1), .vi (x1.2.2.2.1), .vi (x1.2.2.2.2.1), .vi (x1.2.2.2.2.2.1), .vi (x1.2.2.2.2.2.2.1), .vi (x1.2.2.2.2.2.2.2.1), .val (.sl (V.ci .nil) x1.2.2.2.2.2.2.2.2.1), .vi (x1.2.2.2.2.2.2.2.2.2.1), .val (.sl (V.ci .nil) x1.2.2.2.2.2.2.2.2.2.2.1), .vi (x1.2.2.2.2.2.2.2.2.2.2.2.1), .vi (x1.2.2.2.2.2.2.2.2.2.2.2.2.1), .val (.sl (V.ci .nil) x1.2.2.2.2.2.2.2.2.2.2.2.2.2.1), .vi (x1.2.2.2.2.2.2.2.2.2.2.2.2.2.2.1), .val (.bool x1.2.2.2.2.2.2.2.2.2.2.2.2.2.2.2.1)])]⟩
theorem Z17.r15 (x0 : THead) (x1 : TSigned) (v15_0 : Bool) : V.joinF Z17.E Tryz.f150.ntmps [1, 1, 0, 0, 1, 1, 1, 1] [] (V.codeOf Tryz.f150) (Z17.kt x0 x1) (Z17.s15 x0 x1 v15_0) = Z17.g15 x0 x1 v15_0 := by kernel_rfl
theorem Z17.e15 (x0 : THead) (x1 : TSigned) (v15_0 : Bool) : V.jn (V.joinF Z17.E Tryz.f150.ntmps [1, 1, 0, 0, 1, 1, 1, 1] [] (V.codeOf Tryz.f150) (Z17.kt x0 x1)) (Z17.s15 x0 x1 v15_0) = Z17.l15 x0 x1 v15_0 := by
 rw [V.jn_eq, Z17.r15]
 rfl
theorem Z17.r11 (x0 : THead) (x1 : TSigned) (v11_0 : Bool) : V.joinF Z17.E Tryz.f150.ntmps [1, 1, 0, 0, 1, 1] [] (V.codeOf Tryz.f150) (Z17.kt x0 x1) (Z17.s11 x0 x1 v11_0) = Z17.g11 x0 x1 (fun v15_0 => V.jn (V.joinF Z17.E Tryz.f150.ntmps [1, 1, 0, 0, 1, 1, 1, 1] [] (V.codeOf Tryz.f150) (Z17.kt x0 x1)) (Z17.s15 x0 x1 v15_0)) v11_0 := by kernel_rfl
theorem Z17.e11 (x0 : THead) (x1 : TSigned) (v11_0 : Bool) : V.jn (V.joinF Z17.E Tryz.f150.ntmps [1, 1, 0, 0, 1, 1] [] (V.codeOf Tryz.f150) (Z17.kt x0 x1)) (Z17.s11 x0 x1 v11_0) = Z17.l11 x0 x1 v11_0 := by
 rw [V.jn_eq, Z17.r11]
 simp only [Z17.e15]
 rfl
noncomputable abbrev Z17.s (x0 : THead) (x1 : TSigned) : V.St := ⟨[(0, .v true (V.lsHead x0)), (1, .v true (V.lsSigned x1))], []⟩
theorem Z17.v0 (x0 : THead) (x1 : TSigned) : V.evBody Z17.E Z17.con Tryz.f150 (V.fl5 x0 x1) = V.evC Z17.E Tryz.f150.ntmps (V.codeOf Tryz.f150) (Z17.kt x0 x1) (Z17.s x0 x1) := by kernel_rfl
theorem Z17.v (x0 : THead) (x1 : TSigned) : V.evC Z17.E Tryz.f150.ntmps (V.codeOf Tryz.f150) (Z17.kt x0 x1) (Z17.s x0 x1) = Z17.b x0 x1 (fun v11_0 => V.jn (V.joinF Z17.E Tryz.f150.ntmps [1, 1, 0, 0, 1, 1] [] (V.codeOf Tryz.f150) (Z17.kt x0 x1)) (Z17.s11 x0 x1 v11_0)) := by kernel_rfl
theorem Z17.eq (x0 : THead) (x1 : TSigned) : V.evBody Z17.E Z17.con Tryz.f150 (V.fl5 x0 x1) = Z17 x0 x1 := by
 rw [Z17.v0, Z17.v]
 simp only [Z17.e11]
 rfl
theorem Z17.ok : V.Valid Tryz.prog 150 Z17.con :=
 V.fo (V.tab_cons Z71.ok (V.tab_cons Z94.ok (V.tab_cons Z108.ok (V.tab_cons Z82.ok V.tab_nil)))) Tryz.func150 (by kernel_rfl) (fun x y h => (show V.evBody Z17.E Z17.con Tryz.f150 x = _ from Z17.eq (V.p5_0 x) (V.p5_1 x)).trans (V.cfl (by kernel_rfl) h))
noncomputable abbrev Z18.con : V.Con := ⟨V.A5, (V.ci .nil), fun (x : V.D5) => Z18 (V.p5_0 x) (V.p5_1 x), [], [(true, 16), (true, 17)], [(false, 1)], [false], []⟩
noncomputable abbrev Z18.E : V.Env := V.mkE V.tys [(125, Z71.con), (146, Z94.con), (157, Z108.con), (158, Z82.con)] [(7, [2, 3, 5, 6], []), (13, [2, 3, 37], [])] [] [] [] []
noncomputable abbrev Z18.kt (x0 : THead) (x1 : TSigned) : V.Kt Int := V.ktOf Z18.E Z18.con Tryz.f151 (V.fl5 x0 x1)
noncomputable abbrev Z18.s13 (x0 : THead) (x1 : TSigned) (v13_0 : Bool) : V.St := ⟨[(2, .v false [.ptr 64000 0]), (3, .v false [.ptr 64064 0]), (37, .v false [.val (.bool v13_0)])], [(64000, .box (V.lsHead x0)), (64064, .box (V.lsSigned x1))]⟩
noncomputable abbrev Z18.s7 (x0 : THead) (x1 : TSigned) (v7_0 : Bool) : V.St := ⟨[(2, .v false [.ptr 64000 0]), (3, .v false [.ptr 64064 0]), (5, .v false [.ptr 128128 0]), (6, .v false [.val (.bool v7_0)])], [(64000, .box (V.lsHead x0)), (64064, .box (V.lsSigned x1)), (128128, .box [.vi (x1.1), .vi (x1.2.1), .vi (x1.2.2.1), .vi (x1.2.2.2.1), .vi (x1.2.2.2.2.1), .vi (x1.2.2.2.2.2.1), .vi (x1.2.2.2.2.2.2.1), .vi (x1.2.2.2.2.2.2.2.1), .val (.sl (V.ci .nil) x1.2.2.2.2.2.2.2.2.1), .vi (x1.2.2.2.2.2.2.2.2.2.1), .val (.sl (V.ci .nil) x1.2.2.2.2.2.2.2.2.2.2.1), .vi (x1.2.2.2.2.2.2.2.2.2.2.2.1), .vi (x1.2.2.2.2.2.2.2.2.2.2.2.2.1), .val (.sl (V.ci .nil) x1.2.2.2.2.2.2.2.2.2.2.2.2.2.1), .vi (x1.2.2.2.2.2.2.2.2.2.2.2.2.2.2.1), .val (.bool x1.2.2.2.2.2.2.2.2.2.2.2.2.2.2.2.1)])]⟩
theorem Z18.r13 (x0 : THead) (x1 : TSigned) (v13_0 : Bool) : V.joinF Z18.E Tryz.f151.ntmps [1, 1, 1, 0, 0, 1, 1] [] (V.codeOf Tryz.f151) (Z18.kt x0 x1) (Z18.s13 x0 x1 v13_0) = Z18.g13 x0 x1 v13_0 := by kernel_rfl
theorem Z18.e13 (x0 : THead) (x1 : TSigned) (v13_0 : Bool) : V.jn (V.joinF Z18.E Tryz.f151.ntmps [1, 1, 1, 0, 0, 1, 1] [] (V.codeOf Tryz.f151) (Z18.kt x0 x1)) (Z18.s13 x0 x1 v13_0) = Z18.l13 x0 x1 v13_0 := by
 rw [V.jn_eq, Z18.r13]
 rfl
theorem Z18.r7 (x0 : THead) (x1 : TSigned) (v7_0 : Bool) : V.joinF Z18.E Tryz.f151.ntmps [1, 1] [] (V.codeOf Tryz.f151) (Z18.kt x0 x1) (Z18.s7 x0 x1 v7_0) = Z18.g7 x0 x1 (fun v13_0 => V.jn (V.joinF Z18.E Tryz.f151.ntmps [1, 1, 1, 0, 0, 1, 1] [] (V.codeOf Tryz.f151) (Z18.kt x0 x1)) (Z18.s13 x0 x1 v13_0)) v7_0 := by kernel_rfl
theorem Z18.e7 (x0 : THead) (x1 : TSigned) (v7_0 : Bool) : V.jn (V.joinF Z18.E Tryz.f151.ntmps [1, 1] [] (V.codeOf Tryz.f151) (Z18.kt x0 x1)) (Z18.s7 x0 x1 v7_0) = Z18.l7 x0 x1 v7_0 := by
 rw [V.jn_eq, Z18.r7]
 simp only [Z18.e13]
 rfl
noncomputable abbrev Z18.s (x0 : THead) (x1 : TSigned) : V.St := ⟨[(0, .v true (V.lsHead x0)), (1, .v true (V.lsSigned x1))], []⟩
theorem Z18.v0 (x0 : THead) (x1 : TSigned) : V.evBody Z18.E Z18.con Tryz.f151 (V.fl5 x0 x1) = V.evC Z18.E Tryz.f151.ntmps (V.codeOf Tryz.f151) (Z18.kt x0 x1) (Z18.s x0 x1) := by kernel_rfl
theorem Z18.v (x0 : THead) (x1 : TSigned) : V.evC Z18.E Tryz.f151.ntmps (V.codeOf Tryz.f151) (Z18.kt x0 x1) (Z18.s x0 x1) = Z18.b x0 x1 (fun v7_0 => V.jn (V.joinF Z18.E Tryz.f151.ntmps [1, 1] [] (V.codeOf Tryz.f151) (Z18.kt x0 x1)) (Z18.s7 x0 x1 v7_0)) := by kernel_rfl
theorem Z18.eq (x0 : THead) (x1 : TSigned) : V.evBody Z18.E Z18.con Tryz.f151 (V.fl5 x0 x1) = Z18 x0 x1 := by
 rw [Z18.v0, Z18.v]
 simp only [Z18.e7]
 rfl
theorem Z18.ok : V.Valid Tryz.prog 151 Z18.con :=
 V.fo (V.tab_cons Z71.ok (V.tab_cons Z94.ok (V.tab_cons Z108.ok (V.tab_cons Z82.ok V.tab_nil)))) Tryz.func151 (by kernel_rfl) (fun x y h => (show V.evBody Z18.E Z18.con Tryz.f151 x = _ from Z18.eq (V.p5_0 x) (V.p5_1 x)).trans (V.cfl (by kernel_rfl) h))
noncomputable abbrev Z34.con : V.Con := ⟨V.A5, (V.ci .nil), fun (x : V.D5) => Z34 (V.p5_0 x) (V.p5_1 x), [], [(true, 16), (true, 17)], [(false, 1)], [false], []⟩
noncomputable abbrev Z34.E : V.Env := V.mkE V.tys [(123, Z76.con), (148, Z87.con), (149, Z88.con), (150, Z17.con), (151, Z18.con)] [(5, [2, 3, 5], [])] [] [] [] []
noncomputable abbrev Z34.kt (x0 : THead) (x1 : TSigned) : V.Kt Int := V.ktOf Z34.E Z34.con Tryz.f126 (V.fl5 x0 x1)
noncomputable abbrev Z34.s5 (x0 : THead) (x1 : TSigned) (v5_0 : Bool) : V.St := ⟨[(2, .v false [.ptr 64000 0]), (3, .v false [.ptr 64064 0]), (5, .v false [.val (.bool v5_0)])], [(64000, .box (V.lsHead x0)), (64064, .box (V.lsSigned x1))]⟩
theorem Z34.r5 (x0 : THead) (x1 : TSigned) (v5_0 : Bool) : V.joinF Z34.E Tryz.f126.ntmps [1, 0, 0] [] (V.codeOf Tryz.f126) (Z34.kt x0 x1) (Z34.s5 x0 x1 v5_0) = Z34.g5 x0 x1 v5_0 := by kernel_rfl
theorem Z34.e5 (x0 : THead) (x1 : TSigned) (v5_0 : Bool) : V.jn (V.joinF Z34.E Tryz.f126.ntmps [1, 0, 0] [] (V.codeOf Tryz.f126) (Z34.kt x0 x1)) (Z34.s5 x0 x1 v5_0) = Z34.l5 x0 x1 v5_0 := by
 rw [V.jn_eq, Z34.r5]
 rfl
noncomputable abbrev Z34.s (x0 : THead) (x1 : TSigned) : V.St := ⟨[(0, .v true (V.lsHead x0)), (1, .v true (V.lsSigned x1))], []⟩
theorem Z34.v0 (x0 : THead) (x1 : TSigned) : V.evBody Z34.E Z34.con Tryz.f126 (V.fl5 x0 x1) = V.evC Z34.E Tryz.f126.ntmps (V.codeOf Tryz.f126) (Z34.kt x0 x1) (Z34.s x0 x1) := by kernel_rfl
theorem Z34.v (x0 : THead) (x1 : TSigned) : V.evC Z34.E Tryz.f126.ntmps (V.codeOf Tryz.f126) (Z34.kt x0 x1) (Z34.s x0 x1) = Z34.b x0 x1 (fun v5_0 => V.jn (V.joinF Z34.E Tryz.f126.ntmps [1, 0, 0] [] (V.codeOf Tryz.f126) (Z34.kt x0 x1)) (Z34.s5 x0 x1 v5_0)) := by kernel_rfl
theorem Z34.eq (x0 : THead) (x1 : TSigned) : V.evBody Z34.E Z34.con Tryz.f126 (V.fl5 x0 x1) = Z34 x0 x1 := by
 rw [Z34.v0, Z34.v]
 simp only [Z34.e5]
 rfl
theorem Z34.ok : V.Valid Tryz.prog 126 Z34.con :=
 V.fo (V.tab_cons Z76.ok (V.tab_cons Z87.ok (V.tab_cons Z88.ok (V.tab_cons Z17.ok (V.tab_cons Z18.ok V.tab_nil))))) Tryz.func126 (by kernel_rfl) (fun x y h => (show V.evBody Z34.E Z34.con Tryz.f126 x = _ from Z34.eq (V.p5_0 x) (V.p5_1 x)).trans (V.cfl (by kernel_rfl) h))
noncomputable abbrev Z86.con : V.Con := ⟨V.A5, (.cons .bool .nil), fun (x : V.D5) => Z86 (V.p5_0 x) (V.p5_1 x), [], [(true, 16), (true, 17)], [(false, 1)], [false], []⟩
noncomputable abbrev Z86.E : V.Env := V.mkE V.tys [(126, Z34.con)] [] [] [] [] []
noncomputable abbrev Z86.kt (x0 : THead) (x1 : TSigned) : V.Kt Bool := V.ktOf Z86.E Z86.con Tryz.f100 (V.fl5 x0 x1)
noncomputable abbrev Z86.s (x0 : THead) (x1 : TSigned) : V.St := ⟨[(0, .v true (V.lsHead x0)), (1, .v true (V.lsSigned x1))], []⟩
theorem Z86.v0 (x0 : THead) (x1 : TSigned) : V.evBody Z86.E Z86.con Tryz.f100 (V.fl5 x0 x1) = V.evC Z86.E Tryz.f100.ntmps (V.codeOf Tryz.f100) (Z86.kt x0 x1) (Z86.s x0 x1) := by kernel_rfl
theorem Z86.v (x0 : THead) (x1 : TSigned) : V.evC Z86.E Tryz.f100.ntmps (V.codeOf Tryz.f100) (Z86.kt x0 x1) (Z86.s x0 x1) = Z86 x0 x1 := by kernel_rfl
theorem Z86.eq (x0 : THead) (x1 : TSigned) : V.evBody Z86.E Z86.con Tryz.f100 (V.fl5 x0 x1) = Z86 x0 x1 := (Z86.v0 x0 x1).trans (Z86.v x0 x1)
theorem Z86.ok : V.Valid Tryz.prog 100 Z86.con :=
 V.fo (V.tab_cons Z34.ok V.tab_nil) Tryz.func100 (by kernel_rfl) (fun x y h => (show V.evBody Z86.E Z86.con Tryz.f100 x = _ from Z86.eq (V.p5_0 x) (V.p5_1 x)).trans (V.cfl (by kernel_rfl) h))
noncomputable abbrev Z43.con : V.Con := ⟨(.cons (.sl V.eSigned) .nil), (V.ci .nil), fun (x : List TSigned) => Z43 x, [], [(false, 1)], [(false, 1)], [false], []⟩
noncomputable abbrev Z43.E : V.Env := V.mkE V.tys [(99, Z85.con), (100, Z86.con)] [(4, [0, 5, 6, 7], [])] [(4, 18)] [] [] []
noncomputable abbrev Z43.kt (x0 : List TSigned) : V.Kt Int := V.ktOf Z43.E Z43.con Tryz.f70 ((x0) : List TSigned)
noncomputable abbrev Z43.s4 (x0 : List TSigned) (v4_2 : Int) (v4_3 : Int) : V.St := ⟨[(0, .v false [.val (.sl V.eSigned x0)]), (5, .v false [.val (.sl V.eSigned x0)]), (6, .v false [.vi (v4_2)]), (7, .v false [.vi (v4_3)])], []⟩
theorem Z43.r4 (x0 : List TSigned) (R : V.St → Option Int) (v4_2 : Int) (v4_3 : Int) : V.loopF Z43.E Tryz.f70.ntmps [1, 0, 1, 0] [] (V.codeOf Tryz.f70) (Z43.kt x0) R (Z43.s4 x0 v4_2 v4_3) = Z43.g4 x0 (fun v4_2 v4_3 => R (Z43.s4 x0 v4_2 v4_3)) v4_2 v4_3 := by kernel_rfl
theorem Z43.e4 (x0 : List TSigned) : ∀ (n : Nat) (v4_2 : Int) (v4_3 : Int), V.loopN (V.loopF Z43.E Tryz.f70.ntmps [1, 0, 1, 0] [] (V.codeOf Tryz.f70) (Z43.kt x0)) n (Z43.s4 x0 v4_2 v4_3) = Z43.l4 x0 n v4_2 v4_3 := by
 intro n
 induction n with
 | zero => intros; rw [V.loopN_z]; rfl
 | succ n ih =>
   intro v4_2 v4_3
   rw [V.loopN_s, Z43.r4]
   simp only [ih]
   first | exact (Z43.u4 ..).symm | rfl
theorem Z43.v (x0 : List TSigned) : V.evBody Z43.E Z43.con Tryz.f70 ((x0) : List TSigned) = Z43.b x0 (fun v4_2 v4_3 => V.loopN (V.loopF Z43.E Tryz.f70.ntmps [1, 0, 1, 0] [] (V.codeOf Tryz.f70) (Z43.kt x0)) V.KK (Z43.s4 x0 v4_2 v4_3)) := by kernel_rfl
theorem Z43.eq (x0 : List TSigned) : V.evBody Z43.E Z43.con Tryz.f70 ((x0) : List TSigned) = Z43 x0 := by
 rw [Z43.v]
 simp only [Z43.e4]
 rfl
theorem Z43.ok : V.Valid Tryz.prog 70 Z43.con :=
 V.fo (V.tab_cons Z85.ok (V.tab_cons Z86.ok V.tab_nil)) Tryz.func70 (by kernel_rfl) (fun x y h => (show V.evBody Z43.E Z43.con Tryz.f70 x = _ from Z43.eq x).trans (V.cfl (by kernel_rfl) h))
noncomputable abbrev Z133.con : V.Con := ⟨(.cons (.sl V.eSigned) .nil), (.cons .bool .nil), fun (x : List TSigned) => Z133 x, [], [(false, 1)], [(false, 1)], [false], []⟩
noncomputable abbrev Z133.E : V.Env := V.mkE V.tys [(49, Z74.con), (70, Z43.con)] [] [] [] [] []
theorem Z133.eq (x0 : List TSigned) : V.evBody Z133.E Z133.con Tryz.f31 ((x0) : List TSigned) = Z133 x0 := by kernel_rfl
theorem Z133.ok : V.Valid Tryz.prog 31 Z133.con :=
 V.fo (V.tab_cons Z74.ok (V.tab_cons Z43.ok V.tab_nil)) Tryz.func31 (by kernel_rfl) (fun x y h => (show V.evBody Z133.E Z133.con Tryz.f31 x = _ from Z133.eq x).trans (V.cfl (by kernel_rfl) h))
noncomputable abbrev Z114.con : V.Con := ⟨(.cons (.sl V.eSigned) .nil), V.eHead, fun (x : List TSigned) => Z114 x, [], [(false, 1)], [(true, 16)], [false, false, false, false, false, false, false, false, false, false, false, false, false, false, false, false], []⟩
noncomputable abbrev Z114.E : V.Env := V.mkE V.tys [] [] [] [] [] []
theorem Z114.eq (x0 : List TSigned) : V.evBody Z114.E Z114.con Tryz.f37 ((x0) : List TSigned) = Z114 x0 := by kernel_rfl
theorem Z114.ok : V.Valid Tryz.prog 37 Z114.con :=
 V.fo V.tab_nil Tryz.func37 (by kernel_rfl) (fun x y h => (show V.evBody Z114.E Z114.con Tryz.f37 x = _ from Z114.eq x).trans (V.cfl (by kernel_rfl) h))
noncomputable abbrev Z69.con : V.Con := ⟨V.A0, (V.ci (V.ci (V.ci .nil))), fun (x : V.D0) => Z69 (V.p0_0 x), [], [(true, 16)], [(true, 3)], [false, false, false], []⟩
noncomputable abbrev Z69.E : V.Env := V.mkE V.tys [(58, Z79.con)] [] [(1, 6)] [] [] []
noncomputable abbrev Z69.kt (x0 : THead) : V.Kt TMark := V.ktOf Z69.E Z69.con Tryz.f22 (V.fl0 x0)
noncomputable abbrev Z69.s (x0 : THead) : V.St := ⟨[(0, .v true (V.lsHead x0))], []⟩
theorem Z69.v0 (x0 : THead) : V.evBody Z69.E Z69.con Tryz.f22 (V.fl0 x0) = V.evC Z69.E Tryz.f22.ntmps (V.codeOf Tryz.f22) (Z69.kt x0) (Z69.s x0) := by kernel_rfl
theorem Z69.v (x0 : THead) : V.evC Z69.E Tryz.f22.ntmps (V.codeOf Tryz.f22) (Z69.kt x0) (Z69.s x0) = Z69 x0 := by kernel_rfl
theorem Z69.eq (x0 : THead) : V.evBody Z69.E Z69.con Tryz.f22 (V.fl0 x0) = Z69 x0 := (Z69.v0 x0).trans (Z69.v x0)
theorem Z69.ok : V.Valid Tryz.prog 22 Z69.con :=
 V.fo (V.tab_cons Z79.ok V.tab_nil) Tryz.func22 (by kernel_rfl) (fun x y h => (show V.evBody Z69.E Z69.con Tryz.f22 x = _ from Z69.eq (V.p0_0 x)).trans (V.cfl (by kernel_rfl) h))
noncomputable abbrev Z84.con : V.Con := ⟨V.A8, (.cons .bool .nil), fun (x : V.D8) => Z84 (V.p8_0 x) (V.p8_1 x), [], [(true, 17), (false, 1)], [(false, 1)], [false], []⟩
noncomputable abbrev Z84.E : V.Env := V.mkE V.tys [(22, Z69.con), (35, Z111.con)] [] [] [] [] []
noncomputable abbrev Z84.kt (x0 : TSigned) (x1 : (TMark)) : V.Kt Bool := V.ktOf Z84.E Z84.con Tryz.f73 (V.fl8 x0 x1)
noncomputable abbrev Z84.s (x0 : TSigned) (x1 : (TMark)) : V.St := ⟨[(0, .v true (V.lsSigned x0)), (1, .v false [.val (.ptr (V.ci (V.ci (V.ci .nil))) x1)])], []⟩
theorem Z84.v0 (x0 : TSigned) (x1 : (TMark)) : V.evBody Z84.E Z84.con Tryz.f73 (V.fl8 x0 x1) = V.evC Z84.E Tryz.f73.ntmps (V.codeOf Tryz.f73) (Z84.kt x0 x1) (Z84.s x0 x1) := by kernel_rfl
theorem Z84.v (x0 : TSigned) (x1 : (TMark)) : V.evC Z84.E Tryz.f73.ntmps (V.codeOf Tryz.f73) (Z84.kt x0 x1) (Z84.s x0 x1) = Z84 x0 x1 := by kernel_rfl
theorem Z84.eq (x0 : TSigned) (x1 : (TMark)) : V.evBody Z84.E Z84.con Tryz.f73 (V.fl8 x0 x1) = Z84 x0 x1 := (Z84.v0 x0 x1).trans (Z84.v x0 x1)
theorem Z84.ok : V.Valid Tryz.prog 73 Z84.con :=
 V.fo (V.tab_cons Z69.ok (V.tab_cons Z111.ok V.tab_nil)) Tryz.func73 (by kernel_rfl) (fun x y h => (show V.evBody Z84.E Z84.con Tryz.f73 x = _ from Z84.eq (V.p8_0 x) (V.p8_1 x)).trans (V.cfl (by kernel_rfl) h))
noncomputable abbrev Z65.con : V.Con := ⟨(.cons (.sl V.eSigned) (.cons (.fn 73 false .nil (.cons (.ptr (V.ci (V.ci (V.ci .nil)))) .nil)) .nil)), (V.ci .nil), fun (x : List TSigned × (Unit) × ((TMark))) => Z65 x.1 x.2, [], [(false, 1), (false, 1)], [(false, 1)], [false], []⟩
noncomputable abbrev Z65.E : V.Env := V.mkE V.tys [(73, Z84.con)] [(4, [0, 1, 7, 8], [])] [] [] [] []
noncomputable abbrev Z65.kt (x0 : List TSigned) (x1 : (Unit) × ((TMark))) : V.Kt Int := V.ktOf Z65.E Z65.con Tryz.f101 ((x0, x1) : List TSigned × (Unit) × ((TMark)))
noncomputable abbrev Z65.s4 (x0 : List TSigned) (x1 : (Unit) × ((TMark))) (v4_2 : Int) (v4_3 : Int) : V.St := ⟨[(0, .v false [.val (.sl V.eSigned x0)]), (1, .v false [.val (.fn 73 false .nil (.cons (.ptr (V.ci (V.ci (V.ci .nil)))) .nil) () x1.2)]), (7, .v false [.vi (v4_2)]), (8, .v false [.vi (v4_3)])], []⟩
theorem Z65.r4 (x0 : List TSigned) (x1 : (Unit) × ((TMark))) (R : V.St → Option Int) (v4_2 : Int) (v4_3 : Int) : V.loopF Z65.E Tryz.f101.ntmps [1, 0, 1, 0] [] (V.codeOf Tryz.f101) (Z65.kt x0 x1) R (Z65.s4 x0 x1 v4_2 v4_3) = Z65.g4 x0 x1 (fun v4_2 v4_3 => R (Z65.s4 x0 x1 v4_2 v4_3)) v4_2 v4_3 := by kernel_rfl
theorem Z65.e4 (x0 : List TSigned) (x1 : (Unit) × ((TMark))) : ∀ (n : Nat) (v4_2 : Int) (v4_3 : Int), V.loopN (V.loopF Z65.E Tryz.f101.ntmps [1, 0, 1, 0] [] (V.codeOf Tryz.f101) (Z65.kt x0 x1)) n (Z65.s4 x0 x1 v4_2 v4_3) = Z65.l4 x0 x1 n v4_2 v4_3 := by
 intro n
 induction n with
 | zero => intros; rw [V.loopN_z]; rfl
 | succ n ih =>
   intro v4_2 v4_3
   rw [V.loopN_s, Z65.r4]
   simp only [ih]
   first | exact (Z65.u4 ..).symm | rfl
theorem Z65.v (x0 : List TSigned) (x1 : (Unit) × ((TMark))) : V.evBody Z65.E Z65.con Tryz.f101 ((x0, x1) : List TSigned × (Unit) × ((TMark))) = Z65.b x0 x1 (fun v4_2 v4_3 => V.loopN (V.loopF Z65.E Tryz.f101.ntmps [1, 0, 1, 0] [] (V.codeOf Tryz.f101) (Z65.kt x0 x1)) V.KK (Z65.s4 x0 x1 v4_2 v4_3)) := by kernel_rfl
theorem Z65.eq (x0 : List TSigned) (x1 : (Unit) × ((TMark))) : V.evBody Z65.E Z65.con Tryz.f101 ((x0, x1) : List TSigned × (Unit) × ((TMark))) = Z65 x0 x1 := by
 rw [Z65.v]
 simp only [Z65.e4]
 rfl
theorem Z65.ok : V.Valid Tryz.prog 101 Z65.con :=
 V.fo (V.tab_cons Z84.ok V.tab_nil) Tryz.func101 (by kernel_rfl) (fun x y h => (show V.evBody Z65.E Z65.con Tryz.f101 x = _ from Z65.eq x.1 x.2).trans (V.cfl (by kernel_rfl) h))
noncomputable abbrev Z129.con : V.Con := ⟨(.cons (.sl V.eSigned) (.cons (.fn 73 false .nil (.cons (.ptr (V.ci (V.ci (V.ci .nil)))) .nil)) .nil)), (.cons .bool .nil), fun (x : List TSigned × (Unit) × ((TMark))) => Z129 x.1 x.2, [], [(false, 1), (false, 1)], [(false, 1)], [false], []⟩
noncomputable abbrev Z129.E : V.Env := V.mkE V.tys [(101, Z65.con)] [] [] [] [] []
theorem Z129.eq (x0 : List TSigned) (x1 : (Unit) × ((TMark))) : V.evBody Z129.E Z129.con Tryz.f72 ((x0, x1) : List TSigned × (Unit) × ((TMark))) = Z129 x0 x1 := by kernel_rfl
theorem Z129.ok : V.Valid Tryz.prog 72 Z129.con :=
 V.fo (V.tab_cons Z65.ok V.tab_nil) Tryz.func72 (by kernel_rfl) (fun x y h => (show V.evBody Z129.E Z129.con Tryz.f72 x = _ from Z129.eq x.1 x.2).trans (V.cfl (by kernel_rfl) h))
noncomputable abbrev Z138.con : V.Con := ⟨(V.ci (V.ci (V.ci (.cons (.sl V.eSigned) .nil)))), (.cons .bool .nil), fun (x : Int × Int × Int × List TSigned) => Z138 (x.1, x.2.1, x.2.2.1) x.2.2.2, [], [(true, 3), (false, 1)], [(false, 1)], [false], []⟩
noncomputable abbrev Z138.E : V.Env := V.mkE V.tys [(37, Z114.con), (72, Z129.con)] [] [] [] [] []
theorem Z138.eq (x0 : TMark) (x1 : List TSigned) : V.evBody Z138.E Z138.con Tryz.f34 ((x0.1, x0.2.1, x0.2.2, x1) : Int × Int × Int × List TSigned) = Z138 x0 x1 := by kernel_rfl
theorem Z138.ok : V.Valid Tryz.prog 34 Z138.con :=
 V.fo (V.tab_cons Z114.ok (V.tab_cons Z129.ok V.tab_nil)) Tryz.func34 (by kernel_rfl) (fun x y h => (show V.evBody Z138.E Z138.con Tryz.f34 x = _ from Z138.eq (x.1, x.2.1, x.2.2.1) x.2.2.2).trans (V.cfl (by kernel_rfl) h))
noncomputable abbrev Z155.con : V.Con := ⟨(V.ci (V.ci (V.ci (.cons (.ptr (.cons (.sl V.eSigned) .nil)) .nil)))), (.cons .bool .nil), fun (x : Int × Int × Int × List TSigned) => Z155 (x.1, x.2.1, x.2.2.1) x.2.2.2, [], [(true, 3), (false, 1)], [(false, 1)], [false], []⟩
noncomputable abbrev Z155.E : V.Env := V.mkE V.tys [(34, Z138.con)] [] [] [] [] []
theorem Z155.eq (x0 : TMark) (x1 : List TSigned) : V.evBody Z155.E Z155.con Tryz.f33 ((x0.1, x0.2.1, x0.2.2, x1) : Int × Int × Int × List TSigned) = Z155 x0 x1 := by kernel_rfl
theorem Z155.ok : V.Valid Tryz.prog 33 Z155.con :=
 V.fo (V.tab_cons Z138.ok V.tab_nil) Tryz.func33 (by kernel_rfl) (fun x y h => (show V.evBody Z155.E Z155.con Tryz.f33 x = _ from Z155.eq (x.1, x.2.1, x.2.2.1) x.2.2.2).trans (V.cfl (by kernel_rfl) h))
noncomputable abbrev Z63.con : V.Con := ⟨(.cons (.sl (V.ci (V.ci (V.ci .nil)))) (.cons (.fn 33 false .nil (.cons (.ptr (.cons (.sl V.eSigned) .nil)) .nil)) .nil)), (V.ci .nil), fun (x : List TMark × (Unit) × (List TSigned)) => Z63 x.1 x.2, [], [(false, 1), (false, 1)], [(false, 1)], [false], []⟩
noncomputable abbrev Z63.E : V.Env := V.mkE V.tys [(33, Z155.con)] [(4, [0, 1, 7, 8], [])] [] [] [] []
noncomputable abbrev Z63.kt (x0 : List TMark) (x1 : (Unit) × (List TSigned)) : V.Kt Int := V.ktOf Z63.E Z63.con Tryz.f71 ((x0, x1) : List TMark × (Unit) × (List TSigned))
noncomputable abbrev Z63.s4 (x0 : List TMark) (x1 : (Unit) × (List TSigned)) (v4_2 : Int) (v4_3 : Int) : V.St := ⟨[(0, .v false [.val (.sl (V.ci (V.ci (V.ci .nil))) x0)]), (1, .v false [.val (.fn 33 false .nil (.cons (.ptr (.cons (.sl V.eSigned) .nil)) .nil) () x1.2)]), (7, .v false [.vi (v4_2)]), (8, .v false [.vi (v4_3)])], []⟩
theorem Z63.r4 (x0 : List TMark) (x1 : (Unit) × (List TSigned)) (R : V.St → Option Int) (v4_2 : Int) (v4_3 : Int) : V.loopF Z63.E Tryz.f71.ntmps [1, 0, 1, 0] [] (V.codeOf Tryz.f71) (Z63.kt x0 x1) R (Z63.s4 x0 x1 v4_2 v4_3) = Z63.g4 x0 x1 (fun v4_2 v4_3 => R (Z63.s4 x0 x1 v4_2 v4_3)) v4_2 v4_3 := by kernel_rfl
theorem Z63.e4 (x0 : List TMark) (x1 : (Unit) × (List TSigned)) : ∀ (n : Nat) (v4_2 : Int) (v4_3 : Int), V.loopN (V.loopF Z63.E Tryz.f71.ntmps [1, 0, 1, 0] [] (V.codeOf Tryz.f71) (Z63.kt x0 x1)) n (Z63.s4 x0 x1 v4_2 v4_3) = Z63.l4 x0 x1 n v4_2 v4_3 := by
 intro n
 induction n with
 | zero => intros; rw [V.loopN_z]; rfl
 | succ n ih =>
   intro v4_2 v4_3
   rw [V.loopN_s, Z63.r4]
   simp only [ih]
   first | exact (Z63.u4 ..).symm | rfl
theorem Z63.v (x0 : List TMark) (x1 : (Unit) × (List TSigned)) : V.evBody Z63.E Z63.con Tryz.f71 ((x0, x1) : List TMark × (Unit) × (List TSigned)) = Z63.b x0 x1 (fun v4_2 v4_3 => V.loopN (V.loopF Z63.E Tryz.f71.ntmps [1, 0, 1, 0] [] (V.codeOf Tryz.f71) (Z63.kt x0 x1)) V.KK (Z63.s4 x0 x1 v4_2 v4_3)) := by kernel_rfl
theorem Z63.eq (x0 : List TMark) (x1 : (Unit) × (List TSigned)) : V.evBody Z63.E Z63.con Tryz.f71 ((x0, x1) : List TMark × (Unit) × (List TSigned)) = Z63 x0 x1 := by
 rw [Z63.v]
 simp only [Z63.e4]
 rfl
theorem Z63.ok : V.Valid Tryz.prog 71 Z63.con :=
 V.fo (V.tab_cons Z155.ok V.tab_nil) Tryz.func71 (by kernel_rfl) (fun x y h => (show V.evBody Z63.E Z63.con Tryz.f71 x = _ from Z63.eq x.1 x.2).trans (V.cfl (by kernel_rfl) h))
noncomputable abbrev Z141.con : V.Con := ⟨(.cons (.sl (V.ci (V.ci (V.ci .nil)))) (.cons (.fn 33 false .nil (.cons (.ptr (.cons (.sl V.eSigned) .nil)) .nil)) .nil)), (.cons .bool .nil), fun (x : List TMark × (Unit) × (List TSigned)) => Z141 x.1 x.2, [], [(false, 1), (false, 1)], [(false, 1)], [false], []⟩
noncomputable abbrev Z141.E : V.Env := V.mkE V.tys [(71, Z63.con)] [] [] [] [] []
theorem Z141.eq (x0 : List TMark) (x1 : (Unit) × (List TSigned)) : V.evBody Z141.E Z141.con Tryz.f32 ((x0, x1) : List TMark × (Unit) × (List TSigned)) = Z141 x0 x1 := by kernel_rfl
theorem Z141.ok : V.Valid Tryz.prog 32 Z141.con :=
 V.fo (V.tab_cons Z63.ok V.tab_nil) Tryz.func32 (by kernel_rfl) (fun x y h => (show V.evBody Z141.E Z141.con Tryz.f32 x = _ from Z141.eq x.1 x.2).trans (V.cfl (by kernel_rfl) h))
noncomputable abbrev Z98.con : V.Con := ⟨(V.ci (V.ci (V.ci .nil))), (.cons (.sl (V.ci .nil)) .nil), fun (x : Int × Int × Int) => Z98 x, [], [(true, 3)], [(false, 1)], [true], []⟩
noncomputable abbrev Z98.E : V.Env := V.mkE V.tys [] [] [] [] [] []
theorem Z98.eq (x0 : TMark) : V.evBody Z98.E Z98.con Tryz.f20 ((x0.1, x0.2.1, x0.2.2) : Int × Int × Int) = Z98 x0 := by kernel_rfl
theorem Z98.ok : V.Valid Tryz.prog 20 Z98.con :=
 V.fo V.tab_nil Tryz.func20 (by kernel_rfl) (fun x y h => (show V.evBody Z98.E Z98.con Tryz.f20 x = _ from Z98.eq x).trans (V.cfl (by kernel_rfl) h))
noncomputable abbrev Z16.con : V.Con := ⟨(V.ci (.cons (.sl (V.ci (V.ci (V.ci .nil)))) (.cons (.sl V.eSigned) .nil))), V.eRWitnessSigBool, fun (x : Int × List TMark × List TSigned) => Z16 (x.1, x.2.1) x.2.2, [], [(true, 2), (false, 1)], [(true, 2), (true, 2), (false, 1)], [false, true, false, false, false], []⟩
noncomputable abbrev Z16.E : V.Env := V.mkE2 V.tys [(11, Z31.con), (20, Z98.con), (22, Z69.con), (30, Z128.con), (31, Z133.con), (32, Z115.con), (36, Z113.con), (37, Z114.con)] [3012] [(32, Z141.con)] [(7, [2, 3, 4, 5, 7, 26], []), (10, [2, 3, 4, 5, 7, 29, 30, 31], [])] [(13, 11)] [] [] [(13, [1, 2, 10])]
noncomputable abbrev Z16.kt (x0 : TWitness) (x1 : List TSigned) : V.Kt TRWitnessSigBool := V.ktOf Z16.E Z16.con Tryz.f6 ((x0.1, x0.2, x1) : Int × List TMark × List TSigned)
noncomputable abbrev Z16.s10 (x0 : TWitness) (x1 : List TSigned) (y1 : TWitness) (v10_1 : Int) (v10_2 : Int) (v10_10 : List TMark) : V.St := ⟨[(2, .v false [.ptr 64000 0]), (3, .v false [.ptr 64064 0]), (4, .v false [.ptr 64128 0]), (5, .v false [.ptr 64192 0]), (7, .v false [.ptr 128128 0]), (29, .v false [.val (.sl V.eSigned x1)]), (30, .v false [.vi (v10_1)]), (31, .v false [.vi (v10_2)])], [(64000, .box [.vi (x0.1), .val (.sl (V.ci (V.ci (V.ci .nil))) x0.2)]), (64064, .box [.val (.sl V.eSigned x1)]), (64128, .box [.vi ((0 : Int)), .nil0]), (64192, .box [.vi ((0 : Int)), .vi ((0 : Int))]), (128128, .box [.vi (y1.1), .ref 64000000000008200193]), (64000000000008200193, .row (V.ci (V.ci (V.ci .nil))) true v10_10)]⟩
noncomputable abbrev Z16.s7 (x0 : TWitness) (x1 : List TSigned) (y1 : TWitness) (v7_0 : Bool) : V.St := ⟨[(2, .v false [.ptr 64000 0]), (3, .v false [.ptr 64064 0]), (4, .v false [.ptr 64128 0]), (5, .v false [.ptr 64192 0]), (7, .v false [.ptr 128128 0]), (26, .v false [.val (.bool v7_0)])], [(64000, .box [.vi (x0.1), .val (.sl (V.ci (V.ci (V.ci .nil))) x0.2)]), (64064, .box [.val (.sl V.eSigned x1)]), (64128, .box [.vi ((0 : Int)), .nil0]), (64192, .box [.vi ((0 : Int)), .vi ((0 : Int))]), (128128, .box [.vi (y1.1), .ref 64000000000008200193]), (64000000000008200193, .row (V.ci (V.ci (V.ci .nil))) true y1.2)]⟩
theorem Z16.r10 (x0 : TWitness) (x1 : List TSigned) (y1 : TWitness) (R : V.St → Option TRWitnessSigBool) (v10_1 : Int) (v10_2 : Int) (v10_10 : List TMark) : V.loopF Z16.E Tryz.f6.ntmps [1, 1, 1, 0, 1, 0] [] (V.codeOf Tryz.f6) (Z16.kt x0 x1) R (Z16.s10 x0 x1 y1 v10_1 v10_2 v10_10) = Z16.g10 x0 x1 y1 (fun v10_1 v10_2 v10_10 => R (Z16.s10 x0 x1 y1 v10_1 v10_2 v10_10)) v10_1 v10_2 v10_10 := by kernel_rfl
theorem Z16.e10 (x0 : TWitness) (x1 : List TSigned) (y1 : TWitness) : ∀ (n : Nat) (v10_1 : Int) (v10_2 : Int) (v10_10 : List TMark), V.loopN (V.loopF Z16.E Tryz.f6.ntmps [1, 1, 1, 0, 1, 0] [] (V.codeOf Tryz.f6) (Z16.kt x0 x1)) n (Z16.s10 x0 x1 y1 v10_1 v10_2 v10_10) = Z16.l10 x0 x1 y1 n v10_1 v10_2 v10_10 := by
 intro n
 induction n with
 | zero => intros; rw [V.loopN_z]; rfl
 | succ n ih =>
   intro v10_1 v10_2 v10_10
   rw [V.loopN_s, Z16.r10]
   simp only [ih]
   first | exact (Z16.u10 ..).symm | rfl
theorem Z16.r7 (x0 : TWitness) (x1 : List TSigned) (y1 : TWitness) (v7_0 : Bool) : V.joinF Z16.E Tryz.f6.ntmps [1, 1, 0] [] (V.codeOf Tryz.f6) (Z16.kt x0 x1) (Z16.s7 x0 x1 y1 v7_0) = Z16.g7 x0 x1 y1 (fun y1 v10_1 v10_2 v10_10 => V.loopN (V.loopF Z16.E Tryz.f6.ntmps [1, 1, 1, 0, 1, 0] [] (V.codeOf Tryz.f6) (Z16.kt x0 x1)) V.KK (Z16.s10 x0 x1 y1 v10_1 v10_2 v10_10)) v7_0 := by kernel_rfl
theorem Z16.e7 (x0 : TWitness) (x1 : List TSigned) (y1 : TWitness) (v7_0 : Bool) : V.jn (V.joinF Z16.E Tryz.f6.ntmps [1, 1, 0] [] (V.codeOf Tryz.f6) (Z16.kt x0 x1)) (Z16.s7 x0 x1 y1 v7_0) = Z16.l7 x0 x1 y1 v7_0 := by
 rw [V.jn_eq, Z16.r7]
 simp only [Z16.e10]
 rfl
theorem Z16.v (x0 : TWitness) (x1 : List TSigned) : V.evBody Z16.E Z16.con Tryz.f6 ((x0.1, x0.2, x1) : Int × List TMark × List TSigned) = Z16.b x0 x1 (fun y1 v7_0 => V.jn (V.joinF Z16.E Tryz.f6.ntmps [1, 1, 0] [] (V.codeOf Tryz.f6) (Z16.kt x0 x1)) (Z16.s7 x0 x1 y1 v7_0)) := by kernel_rfl
theorem Z16.eq (x0 : TWitness) (x1 : List TSigned) : V.evBody Z16.E Z16.con Tryz.f6 ((x0.1, x0.2, x1) : Int × List TMark × List TSigned) = Z16 x0 x1 := by
 rw [Z16.v]
 simp only [Z16.e7]
 rfl
theorem Z16.ok : V.Valid Tryz.prog 6 Z16.con :=
 V.fo2 (V.tab_cons Z31.ok (V.tab_cons Z98.ok (V.tab_cons Z69.ok (V.tab_cons Z128.ok (V.tab_cons Z133.ok (V.tab_cons Z115.ok (V.tab_cons Z113.ok (V.tab_cons Z114.ok V.tab_nil)))))))) (V.tab_cons Z141.ok V.tab_nil) Tryz.func6 (by kernel_rfl) (fun x y h => (show V.evBody Z16.E Z16.con Tryz.f6 x = _ from Z16.eq (x.1, x.2.1) x.2.2).trans (V.cfl (by kernel_rfl) h))
noncomputable abbrev Z36.con : V.Con := ⟨(.cons (.sl (V.ci (V.ci (V.ci .nil)))) (.cons (.sl (V.ci (V.ci (V.ci .nil)))) .nil)), (.cons .bool .nil), fun (x : List TMark × List TMark) => Z36 x.1 x.2, [], [(false, 1), (false, 1)], [(false, 1)], [false], []⟩
noncomputable abbrev Z36.E : V.Env := V.mkE V.tys [] [(8, [0, 1, 12, 13], [])] [(6, 8)] [] [] []
noncomputable abbrev Z36.kt (x0 : List TMark) (x1 : List TMark) : V.Kt Bool := V.ktOf Z36.E Z36.con Tryz.f44 ((x0, x1) : List TMark × List TMark)
noncomputable abbrev Z36.s8 (x0 : List TMark) (x1 : List TMark) (v8_2 : Int) (v8_3 : Int) : V.St := ⟨[(0, .v false [.val (.sl (V.ci (V.ci (V.ci .nil))) x0)]), (1, .v false [.val (.sl (V.ci (V.ci (V.ci .nil))) x1)]), (12, .v false [.vi (v8_2)]), (13, .v false [.vi (v8_3)])], []⟩
theorem Z36.r8 (x0 : List TMark) (x1 : List TMark) (R : V.St → Option Bool) (v8_2 : Int) (v8_3 : Int) : V.loopF Z36.E Tryz.f44.ntmps [1, 1, 0, 1, 0] [] (V.codeOf Tryz.f44) (Z36.kt x0 x1) R (Z36.s8 x0 x1 v8_2 v8_3) = Z36.g8 x0 x1 (fun v8_2 v8_3 => R (Z36.s8 x0 x1 v8_2 v8_3)) v8_2 v8_3 := by kernel_rfl
theorem Z36.e8 (x0 : List TMark) (x1 : List TMark) : ∀ (n : Nat) (v8_2 : Int) (v8_3 : Int), V.loopN (V.loopF Z36.E Tryz.f44.ntmps [1, 1, 0, 1, 0] [] (V.codeOf Tryz.f44) (Z36.kt x0 x1)) n (Z36.s8 x0 x1 v8_2 v8_3) = Z36.l8 x0 x1 n v8_2 v8_3 := by
 intro n
 induction n with
 | zero => intros; rw [V.loopN_z]; rfl
 | succ n ih =>
   intro v8_2 v8_3
   rw [V.loopN_s, Z36.r8]
   simp only [ih]
   first | exact (Z36.u8 ..).symm | rfl
theorem Z36.v (x0 : List TMark) (x1 : List TMark) : V.evBody Z36.E Z36.con Tryz.f44 ((x0, x1) : List TMark × List TMark) = Z36.b x0 x1 (fun v8_2 v8_3 => V.loopN (V.loopF Z36.E Tryz.f44.ntmps [1, 1, 0, 1, 0] [] (V.codeOf Tryz.f44) (Z36.kt x0 x1)) V.KK (Z36.s8 x0 x1 v8_2 v8_3)) := by kernel_rfl
theorem Z36.eq (x0 : List TMark) (x1 : List TMark) : V.evBody Z36.E Z36.con Tryz.f44 ((x0, x1) : List TMark × List TMark) = Z36 x0 x1 := by
 rw [Z36.v]
 simp only [Z36.e8]
 rfl
theorem Z36.ok : V.Valid Tryz.prog 44 Z36.con :=
 V.fo V.tab_nil Tryz.func44 (by kernel_rfl) (fun x y h => (show V.evBody Z36.E Z36.con Tryz.f44 x = _ from Z36.eq x.1 x.2).trans (V.cfl (by kernel_rfl) h))
noncomputable abbrev Z126.con : V.Con := ⟨(V.ci (.cons (.sl (V.ci (V.ci (V.ci .nil)))) (V.ci (.cons (.sl (V.ci (V.ci (V.ci .nil)))) .nil)))), (.cons .bool .nil), fun (x : Int × List TMark × Int × List TMark) => Z126 (x.1, x.2.1) x.2.2, [], [(true, 2), (true, 2)], [(false, 1)], [false], []⟩
noncomputable abbrev Z126.E : V.Env := V.mkE V.tys [(44, Z36.con)] [] [] [] [] []
theorem Z126.eq (x0 : TWitness) (x1 : TWitness) : V.evBody Z126.E Z126.con Tryz.f8 ((x0.1, x0.2, x1.1, x1.2) : Int × List TMark × Int × List TMark) = Z126 x0 x1 := by kernel_rfl
theorem Z126.ok : V.Valid Tryz.prog 8 Z126.con :=
 V.fo (V.tab_cons Z36.ok V.tab_nil) Tryz.func8 (by kernel_rfl) (fun x y h => (show V.evBody Z126.E Z126.con Tryz.f8 x = _ from Z126.eq (x.1, x.2.1) x.2.2).trans (V.cfl (by kernel_rfl) h))
noncomputable abbrev Z145.con : V.Con := ⟨(.cons (.sl (.cons (.int .u8) .nil)) .nil), (.cons (.sl V.eSigned) (.cons (.sl V.eSigned) .nil)), fun (x : List Int) => Z145 x, [], [(false, 1)], [(false, 1), (false, 1)], [false, true], []⟩
noncomputable abbrev Z145.E : V.Env := V.mkE V.tys [(24, Z12.con), (25, Z8.con), (27, Z5.con), (29, Z110.con)] [] [] [] [] []
theorem Z145.eq (x0 : List Int) : V.evBody Z145.E Z145.con Tryz.f9 ((x0) : List Int) = Z145 x0 := by kernel_rfl
theorem Z145.ok : V.Valid Tryz.prog 9 Z145.con :=
 V.fo (V.tab_cons Z12.ok (V.tab_cons Z8.ok (V.tab_cons Z5.ok (V.tab_cons Z110.ok V.tab_nil)))) Tryz.func9 (by kernel_rfl) (fun x y h => (show V.evBody Z145.E Z145.con Tryz.f9 x = _ from Z145.eq x).trans (V.cfl (by kernel_rfl) h))
noncomputable abbrev Z77.con : V.Con := ⟨V.A4, (.cons .bool .nil), fun (x : V.D4) => Z77 (V.p4_0 x) (V.p4_1 x), [], [(true, 16), (true, 16)], [(false, 1)], [false], []⟩
noncomputable abbrev Z77.E : V.Env := V.mkE V.tys [(78, Z26.con), (79, Z68.con)] [] [(1, 10)] [] [] []
noncomputable abbrev Z77.kt (x0 : THead) (x1 : THead) : V.Kt Bool := V.ktOf Z77.E Z77.con Tryz.f46 (V.fl4 x0 x1)
noncomputable abbrev Z77.s (x0 : THead) (x1 : THead) : V.St := ⟨[(0, .v true (V.lsHead x0)), (1, .v true (V.lsHead x1))], []⟩
theorem Z77.v0 (x0 : THead) (x1 : THead) : V.evBody Z77.E Z77.con Tryz.f46 (V.fl4 x0 x1) = V.evC Z77.E Tryz.f46.ntmps (V.codeOf Tryz.f46) (Z77.kt x0 x1) (Z77.s x0 x1) := by kernel_rfl
theorem Z77.v (x0 : THead) (x1 : THead) : V.evC Z77.E Tryz.f46.ntmps (V.codeOf Tryz.f46) (Z77.kt x0 x1) (Z77.s x0 x1) = Z77 x0 x1 := by kernel_rfl
theorem Z77.eq (x0 : THead) (x1 : THead) : V.evBody Z77.E Z77.con Tryz.f46 (V.fl4 x0 x1) = Z77 x0 x1 := (Z77.v0 x0 x1).trans (Z77.v x0 x1)
theorem Z77.ok : V.Valid Tryz.prog 46 Z77.con :=
 V.fo (V.tab_cons Z26.ok (V.tab_cons Z68.ok V.tab_nil)) Tryz.func46 (by kernel_rfl) (fun x y h => (show V.evBody Z77.E Z77.con Tryz.f46 x = _ from Z77.eq (V.p4_0 x) (V.p4_1 x)).trans (V.cfl (by kernel_rfl) h))
noncomputable abbrev Z52.con : V.Con := ⟨(.cons (.sl V.eSigned) (.cons (.sl V.eSigned) .nil)), (.cons .bool .nil), fun (x : List TSigned × List TSigned) => Z52 x.1 x.2, [], [(false, 1), (false, 1)], [(false, 1)], [false], []⟩
noncomputable abbrev Z52.E : V.Env := V.mkE V.tys [(46, Z77.con)] [(8, [0, 1, 5], [])] [(6, 10)] [] [] []
noncomputable abbrev Z52.kt (x0 : List TSigned) (x1 : List TSigned) : V.Kt Bool := V.ktOf Z52.E Z52.con Tryz.f45 ((x0, x1) : List TSigned × List TSigned)
noncomputable abbrev Z52.s8 (x0 : List TSigned) (x1 : List TSigned) (v8_2 : Int) : V.St := ⟨[(0, .v false [.val (.sl V.eSigned x0)]), (1, .v false [.val (.sl V.eSigned x1)]), (5, .v false [.vi (v8_2)])], []⟩
theorem Z52.r8 (x0 : List TSigned) (x1 : List TSigned) (R : V.St → Option Bool) (v8_2 : Int) : V.loopF Z52.E Tryz.f45.ntmps [1, 1, 0, 1, 0] [] (V.codeOf Tryz.f45) (Z52.kt x0 x1) R (Z52.s8 x0 x1 v8_2) = Z52.g8 x0 x1 (fun v8_2 => R (Z52.s8 x0 x1 v8_2)) v8_2 := by kernel_rfl
theorem Z52.e8 (x0 : List TSigned) (x1 : List TSigned) : ∀ (n : Nat) (v8_2 : Int), V.loopN (V.loopF Z52.E Tryz.f45.ntmps [1, 1, 0, 1, 0] [] (V.codeOf Tryz.f45) (Z52.kt x0 x1)) n (Z52.s8 x0 x1 v8_2) = Z52.l8 x0 x1 n v8_2 := by
 intro n
 induction n with
 | zero => intros; rw [V.loopN_z]; rfl
 | succ n ih =>
   intro v8_2
   rw [V.loopN_s, Z52.r8]
   simp only [ih]
   first | exact (Z52.u8 ..).symm | rfl
theorem Z52.v (x0 : List TSigned) (x1 : List TSigned) : V.evBody Z52.E Z52.con Tryz.f45 ((x0, x1) : List TSigned × List TSigned) = Z52.b x0 x1 (fun v8_2 => V.loopN (V.loopF Z52.E Tryz.f45.ntmps [1, 1, 0, 1, 0] [] (V.codeOf Tryz.f45) (Z52.kt x0 x1)) V.KK (Z52.s8 x0 x1 v8_2)) := by kernel_rfl
theorem Z52.eq (x0 : List TSigned) (x1 : List TSigned) : V.evBody Z52.E Z52.con Tryz.f45 ((x0, x1) : List TSigned × List TSigned) = Z52 x0 x1 := by
 rw [Z52.v]
 simp only [Z52.e8]
 rfl
theorem Z52.ok : V.Valid Tryz.prog 45 Z52.con :=
 V.fo (V.tab_cons Z77.ok V.tab_nil) Tryz.func45 (by kernel_rfl) (fun x y h => (show V.evBody Z52.E Z52.con Tryz.f45 x = _ from Z52.eq x.1 x.2).trans (V.cfl (by kernel_rfl) h))
noncomputable abbrev Z19.con : V.Con := ⟨(.cons (.sl V.eSigned) (.cons (.sl V.eSigned) .nil)), V.eRForkBool, fun (x : List TSigned × List TSigned) => Z19 x.1 x.2, [], [(false, 1), (false, 1)], [(true, 51), (false, 1)], [false, false, false, false, false, false, false, false, true, false, true, false, false, true, false, false, true, false, false, false, false, false, false, false, false, true, false, true, false, false, true, false, false, true, false, false, false, false, false, false, false, false, true, false, true, false, false, true, false, false, true, false], []⟩
noncomputable abbrev Z19.E : V.Env := V.mkE V.tys [(40, Z103.con), (45, Z52.con), (46, Z77.con), (47, Z66.con)] [(5, [0, 1, 4, 38], []), (8, [0, 1, 4, 6], [])] [(1, 29), (4, 21), (6, 12)] [] [] []
noncomputable abbrev Z19.kt (x0 : List TSigned) (x1 : List TSigned) : V.Kt TRForkBool := V.ktOf Z19.E Z19.con Tryz.f10 ((x0, x1) : List TSigned × List TSigned)
noncomputable abbrev Z19.s8 (x0 : List TSigned) (x1 : List TSigned) (v8_2 : Int) : V.St := ⟨[(0, .v false [.val (.sl V.eSigned x0)]), (1, .v false [.val (.sl V.eSigned x1)]), (4, .v false [.ptr 64000 0]), (6, .v false [.vi (v8_2)])], [(64000, .box [.vi ((0 : Int)), .vi ((0 : Int)), .vi ((0 : Int)), .vi ((0 : Int)), .vi ((0 : Int)), .vi ((0 : Int)), .vi ((0 : Int)), .vi ((0 : Int)), .nil0, .vi ((0 : Int)), .nil0, .vi ((0 : Int)), .vi ((0 : Int)), .nil0, .vi ((0 : Int)), .val (.bool false), .nil0, .vi ((0 : Int)), .vi ((0 : Int)), .vi ((0 : Int)), .vi ((0 : Int)), .vi ((0 : Int)), .vi ((0 : Int)), .vi ((0 : Int)), .vi ((0 : Int)), .nil0, .vi ((0 : Int)), .nil0, .vi ((0 : Int)), .vi ((0 : Int)), .nil0, .vi ((0 : Int)), .val (.bool false), .nil0, .vi ((0 : Int)), .vi ((0 : Int)), .vi ((0 : Int)), .vi ((0 : Int)), .vi ((0 : Int)), .vi ((0 : Int)), .vi ((0 : Int)), .vi ((0 : Int)), .nil0, .vi ((0 : Int)), .nil0, .vi ((0 : Int)), .vi ((0 : Int)), .nil0, .vi ((0 : Int)), .val (.bool false), .nil0])]⟩
noncomputable abbrev Z19.s5 (x0 : List TSigned) (x1 : List TSigned) (v5_2 : Bool) : V.St := ⟨[(0, .v false [.val (.sl V.eSigned x0)]), (1, .v false [.val (.sl V.eSigned x1)]), (4, .v false [.ptr 64000 0]), (38, .v false [.val (.bool v5_2)])], [(64000, .box [.vi ((0 : Int)), .vi ((0 : Int)), .vi ((0 : Int)), .vi ((0 : Int)), .vi ((0 : Int)), .vi ((0 : Int)), .vi ((0 : Int)), .vi ((0 : Int)), .nil0, .vi ((0 : Int)), .nil0, .vi ((0 : Int)), .vi ((0 : Int)), .nil0, .vi ((0 : Int)), .val (.bool false), .nil0, .vi ((0 : Int)), .vi ((0 : Int)), .vi ((0 : Int)), .vi ((0 : Int)), .vi ((0 : Int)), .vi ((0 : Int)), .vi ((0 : Int)), .vi ((0 : Int)), .nil0, .vi ((0 : Int)), .nil0, .vi ((0 : Int)), .vi ((0 : Int)), .nil0, .vi ((0 : Int)), .val (.bool false), .nil0, .vi ((0 : Int)), .vi ((0 : Int)), .vi ((0 : Int)), .vi ((0 : Int)), .vi ((0 : Int)), .vi ((0 : Int)), .vi ((0 : Int)), .vi ((0 : Int)), .nil0, .vi ((0 : Int)), .nil0, .vi ((0 : Int)), .vi ((0 : Int)), .nil0, .vi ((0 : Int)), .val (.bool false), .nil0])]⟩
theorem Z19.r8 (x0 : List TSigned) (x1 : List TSigned) (R : V.St → Option TRForkBool) (v8_2 : Int) : V.loopF Z19.E Tryz.f10.ntmps [1, 1, 1, 0, 0] [] (V.codeOf Tryz.f10) (Z19.kt x0 x1) R (Z19.s8 x0 x1 v8_2) = Z19.g8 x0 x1 (fun v8_2 => R (Z19.s8 x0 x1 v8_2)) v8_2 := by kernel_rfl
theorem Z19.e8 (x0 : List TSigned) (x1 : List TSigned) : ∀ (n : Nat) (v8_2 : Int), V.loopN (V.loopF Z19.E Tryz.f10.ntmps [1, 1, 1, 0, 0] [] (V.codeOf Tryz.f10) (Z19.kt x0 x1)) n (Z19.s8 x0 x1 v8_2) = Z19.l8 x0 x1 n v8_2 := by
 intro n
 induction n with
 | zero => intros; rw [V.loopN_z]; rfl
 | succ n ih =>
   intro v8_2
   rw [V.loopN_s, Z19.r8]
   simp only [ih]
   first | exact (Z19.u8 ..).symm | rfl
theorem Z19.r5 (x0 : List TSigned) (x1 : List TSigned) (v5_2 : Bool) : V.joinF Z19.E Tryz.f10.ntmps [1, 0] [] (V.codeOf Tryz.f10) (Z19.kt x0 x1) (Z19.s5 x0 x1 v5_2) = Z19.g5 x0 x1 (fun v8_2 => V.loopN (V.loopF Z19.E Tryz.f10.ntmps [1, 1, 1, 0, 0] [] (V.codeOf Tryz.f10) (Z19.kt x0 x1)) V.KK (Z19.s8 x0 x1 v8_2)) v5_2 := by kernel_rfl
theorem Z19.e5 (x0 : List TSigned) (x1 : List TSigned) (v5_2 : Bool) : V.jn (V.joinF Z19.E Tryz.f10.ntmps [1, 0] [] (V.codeOf Tryz.f10) (Z19.kt x0 x1)) (Z19.s5 x0 x1 v5_2) = Z19.l5 x0 x1 v5_2 := by
 rw [V.jn_eq, Z19.r5]
 simp only [Z19.e8]
 rfl
theorem Z19.v (x0 : List TSigned) (x1 : List TSigned) : V.evBody Z19.E Z19.con Tryz.f10 ((x0, x1) : List TSigned × List TSigned) = Z19.b x0 x1 (fun v5_2 => V.jn (V.joinF Z19.E Tryz.f10.ntmps [1, 0] [] (V.codeOf Tryz.f10) (Z19.kt x0 x1)) (Z19.s5 x0 x1 v5_2)) := by kernel_rfl
theorem Z19.eq (x0 : List TSigned) (x1 : List TSigned) : V.evBody Z19.E Z19.con Tryz.f10 ((x0, x1) : List TSigned × List TSigned) = Z19 x0 x1 := by
 rw [Z19.v]
 simp only [Z19.e5]
 rfl
theorem Z19.ok : V.Valid Tryz.prog 10 Z19.con :=
 V.fo (V.tab_cons Z103.ok (V.tab_cons Z52.ok (V.tab_cons Z77.ok (V.tab_cons Z66.ok V.tab_nil)))) Tryz.func10 (by kernel_rfl) (fun x y h => (show V.evBody Z19.E Z19.con Tryz.f10 x = _ from Z19.eq x.1 x.2).trans (V.cfl (by kernel_rfl) h))
noncomputable abbrev Z124.con : V.Con := ⟨(V.ci .nil), (.cons (.sl (V.ci .nil)) (V.ci .nil)), fun (x : Int) => Z124 x, [], [(false, 1)], [(true, 2)], [true, false], []⟩
noncomputable abbrev Z124.E : V.Env := V.mkE V.tys [] [] [] [] [] []
theorem Z124.eq (x0 : Int) : V.evBody Z124.E Z124.con Tryz.f13 ((x0) : Int) = Z124 x0 := by kernel_rfl
theorem Z124.ok : V.Valid Tryz.prog 13 Z124.con :=
 V.fo V.tab_nil Tryz.func13 (by kernel_rfl) (fun x y h => (show V.evBody Z124.E Z124.con Tryz.f13 x = _ from Z124.eq x).trans (V.cfl (by kernel_rfl) h))
noncomputable abbrev Z78.con : V.Con := ⟨V.A9, (V.ci .nil), fun (x : V.D9) => Z78 (V.p9_0 x) (V.p9_1 x) (V.p9_2 x), [], [(true, 2), (true, 16), (false, 1)], [(false, 1)], [false], []⟩
noncomputable abbrev Z78.E : V.Env := V.mkE V.tys [(20, Z98.con), (22, Z69.con), (55, Z30.con)] [] [(1, 5)] [] [] []
noncomputable abbrev Z78.kt (x0 : TKeys) (x1 : THead) (x2 : List TSig) : V.Kt Int := V.ktOf Z78.E Z78.con Tryz.f16 (V.fl9 x0 x1 x2)
noncomputable abbrev Z78.s (x0 : TKeys) (x1 : THead) (x2 : List TSig) : V.St := ⟨[(0, .v true [.val (.sl (V.ci .nil) x0.1), .vi (x0.2)]), (1, .v true (V.lsHead x1)), (2, .v false [.val (.sl (V.ci (V.ci .nil)) x2)])], []⟩
theorem Z78.v0 (x0 : TKeys) (x1 : THead) (x2 : List TSig) : V.evBody Z78.E Z78.con Tryz.f16 (V.fl9 x0 x1 x2) = V.evC Z78.E Tryz.f16.ntmps (V.codeOf Tryz.f16) (Z78.kt x0 x1 x2) (Z78.s x0 x1 x2) := by kernel_rfl
theorem Z78.v (x0 : TKeys) (x1 : THead) (x2 : List TSig) : V.evC Z78.E Tryz.f16.ntmps (V.codeOf Tryz.f16) (Z78.kt x0 x1 x2) (Z78.s x0 x1 x2) = Z78 x0 x1 x2 := by kernel_rfl
theorem Z78.eq (x0 : TKeys) (x1 : THead) (x2 : List TSig) : V.evBody Z78.E Z78.con Tryz.f16 (V.fl9 x0 x1 x2) = Z78 x0 x1 x2 := (Z78.v0 x0 x1 x2).trans (Z78.v x0 x1 x2)
theorem Z78.ok : V.Valid Tryz.prog 16 Z78.con :=
 V.fo (V.tab_cons Z98.ok (V.tab_cons Z69.ok (V.tab_cons Z30.ok V.tab_nil))) Tryz.func16 (by kernel_rfl) (fun x y h => (show V.evBody Z78.E Z78.con Tryz.f16 x = _ from Z78.eq (V.p9_0 x) (V.p9_1 x) (V.p9_2 x)).trans (V.cfl (by kernel_rfl) h))
noncomputable abbrev Z75.con : V.Con := ⟨V.A9, (.cons .bool .nil), fun (x : V.D9) => Z75 (V.p9_0 x) (V.p9_1 x) (V.p9_2 x), [], [(true, 2), (true, 16), (false, 1)], [(false, 1)], [false], []⟩
noncomputable abbrev Z75.E : V.Env := V.mkE V.tys [(16, Z78.con), (51, Z96.con)] [] [(1, 9)] [] [] []
noncomputable abbrev Z75.kt (x0 : TKeys) (x1 : THead) (x2 : List TSig) : V.Kt Bool := V.ktOf Z75.E Z75.con Tryz.f12 (V.fl9 x0 x1 x2)
noncomputable abbrev Z75.s (x0 : TKeys) (x1 : THead) (x2 : List TSig) : V.St := ⟨[(0, .v true [.val (.sl (V.ci .nil) x0.1), .vi (x0.2)]), (1, .v true (V.lsHead x1)), (2, .v false [.val (.sl (V.ci (V.ci .nil)) x2)])], []⟩
theorem Z75.v0 (x0 : TKeys) (x1 : THead) (x2 : List TSig) : V.evBody Z75.E Z75.con Tryz.f12 (V.fl9 x0 x1 x2) = V.evC Z75.E Tryz.f12.ntmps (V.codeOf Tryz.f12) (Z75.kt x0 x1 x2) (Z75.s x0 x1 x2) := by kernel_rfl
theorem Z75.v (x0 : TKeys) (x1 : THead) (x2 : List TSig) : V.evC Z75.E Tryz.f12.ntmps (V.codeOf Tryz.f12) (Z75.kt x0 x1 x2) (Z75.s x0 x1 x2) = Z75 x0 x1 x2 := by kernel_rfl
theorem Z75.eq (x0 : TKeys) (x1 : THead) (x2 : List TSig) : V.evBody Z75.E Z75.con Tryz.f12 (V.fl9 x0 x1 x2) = Z75 x0 x1 x2 := (Z75.v0 x0 x1 x2).trans (Z75.v x0 x1 x2)
theorem Z75.ok : V.Valid Tryz.prog 12 Z75.con :=
 V.fo (V.tab_cons Z78.ok (V.tab_cons Z96.ok V.tab_nil)) Tryz.func12 (by kernel_rfl) (fun x y h => (show V.evBody Z75.E Z75.con Tryz.f12 x = _ from Z75.eq (V.p9_0 x) (V.p9_1 x) (V.p9_2 x)).trans (V.cfl (by kernel_rfl) h))
noncomputable abbrev Z144.con : V.Con := ⟨(.cons (.sl (.cons (.int .u8) .nil)) .nil), V.eRKeysHeadList, fun (x : List Int) => Z144 x, [], [(false, 1)], [(true, 2), (true, 16), (false, 1)], [true, false, false, false, false, false, false, false, false, false, true, false, true, false, false, true, false, false, true], []⟩
noncomputable abbrev Z144.E : V.Env := V.mkE V.tys [(21, Z3.con), (23, Z10.con), (24, Z12.con), (52, Z112.con), (53, Z106.con), (54, Z0.con)] [] [] [] [] [(4, [1000])]
theorem Z144.eq (x0 : List Int) : V.evBody Z144.E Z144.con Tryz.f14 ((x0) : List Int) = Z144 x0 := by kernel_rfl
theorem Z144.ok : V.Valid Tryz.prog 14 Z144.con :=
 V.fo (V.tab_cons Z3.ok (V.tab_cons Z10.ok (V.tab_cons Z12.ok (V.tab_cons Z112.ok (V.tab_cons Z106.ok (V.tab_cons Z0.ok V.tab_nil)))))) Tryz.func14 (by kernel_rfl) (fun x y h => (show V.evBody Z144.E Z144.con Tryz.f14 x = _ from Z144.eq x).trans (V.cfl (by kernel_rfl) h))
noncomputable abbrev Z146.con : V.Con := ⟨(.cons (.sl (.cons (.int .u8) .nil)) .nil), (V.ci (V.ci (V.ci .nil))), fun (x : List Int) => Z146 x, [], [(false, 1)], [(true, 3)], [false, false, false], []⟩
noncomputable abbrev Z146.E : V.Env := V.mkE V.tys [(23, Z10.con), (24, Z12.con), (53, Z106.con)] [] [] [] [] []
theorem Z146.eq (x0 : List Int) : V.evBody Z146.E Z146.con Tryz.f15 ((x0) : List Int) = Z146 x0 := by kernel_rfl
theorem Z146.ok : V.Valid Tryz.prog 15 Z146.con :=
 V.fo (V.tab_cons Z10.ok (V.tab_cons Z12.ok (V.tab_cons Z106.ok V.tab_nil))) Tryz.func15 (by kernel_rfl) (fun x y h => (show V.evBody Z146.E Z146.con Tryz.f15 x = _ from Z146.eq x).trans (V.cfl (by kernel_rfl) h))
noncomputable abbrev Z80.con : V.Con := ⟨V.A9, (V.ci .nil), fun (x : V.D9) => Z80 (V.p9_0 x) (V.p9_1 x) (V.p9_2 x), [], [(true, 2), (true, 16), (false, 1)], [(false, 1)], [false], []⟩
noncomputable abbrev Z80.E : V.Env := V.mkE V.tys [(21, Z3.con), (23, Z10.con), (56, Z4.con)] [] [(1, 5)] [] [] []
noncomputable abbrev Z80.kt (x0 : TKeys) (x1 : THead) (x2 : List TSig) : V.Kt Int := V.ktOf Z80.E Z80.con Tryz.f17 (V.fl9 x0 x1 x2)
noncomputable abbrev Z80.s (x0 : TKeys) (x1 : THead) (x2 : List TSig) : V.St := ⟨[(0, .v true [.val (.sl (V.ci .nil) x0.1), .vi (x0.2)]), (1, .v true (V.lsHead x1)), (2, .v false [.val (.sl (V.ci (V.ci .nil)) x2)])], []⟩
theorem Z80.v0 (x0 : TKeys) (x1 : THead) (x2 : List TSig) : V.evBody Z80.E Z80.con Tryz.f17 (V.fl9 x0 x1 x2) = V.evC Z80.E Tryz.f17.ntmps (V.codeOf Tryz.f17) (Z80.kt x0 x1 x2) (Z80.s x0 x1 x2) := by kernel_rfl
theorem Z80.v (x0 : TKeys) (x1 : THead) (x2 : List TSig) : V.evC Z80.E Tryz.f17.ntmps (V.codeOf Tryz.f17) (Z80.kt x0 x1 x2) (Z80.s x0 x1 x2) = Z80 x0 x1 x2 := by kernel_rfl
theorem Z80.eq (x0 : TKeys) (x1 : THead) (x2 : List TSig) : V.evBody Z80.E Z80.con Tryz.f17 (V.fl9 x0 x1 x2) = Z80 x0 x1 x2 := (Z80.v0 x0 x1 x2).trans (Z80.v x0 x1 x2)
theorem Z80.ok : V.Valid Tryz.prog 17 Z80.con :=
 V.fo (V.tab_cons Z3.ok (V.tab_cons Z10.ok (V.tab_cons Z4.ok V.tab_nil))) Tryz.func17 (by kernel_rfl) (fun x y h => (show V.evBody Z80.E Z80.con Tryz.f17 x = _ from Z80.eq (V.p9_0 x) (V.p9_1 x) (V.p9_2 x)).trans (V.cfl (by kernel_rfl) h))
noncomputable abbrev Z89.con : V.Con := ⟨V.A9, (.cons .bool .nil), fun (x : V.D9) => Z89 (V.p9_0 x) (V.p9_1 x) (V.p9_2 x), [], [(true, 2), (true, 16), (false, 1)], [(false, 1)], [false], []⟩
noncomputable abbrev Z89.E : V.Env := V.mkE V.tys [(17, Z80.con), (57, Z23.con)] [] [(1, 9)] [] [] []
noncomputable abbrev Z89.kt (x0 : TKeys) (x1 : THead) (x2 : List TSig) : V.Kt Bool := V.ktOf Z89.E Z89.con Tryz.f18 (V.fl9 x0 x1 x2)
noncomputable abbrev Z89.s (x0 : TKeys) (x1 : THead) (x2 : List TSig) : V.St := ⟨[(0, .v true [.val (.sl (V.ci .nil) x0.1), .vi (x0.2)]), (1, .v true (V.lsHead x1)), (2, .v false [.val (.sl (V.ci (V.ci .nil)) x2)])], []⟩
theorem Z89.v0 (x0 : TKeys) (x1 : THead) (x2 : List TSig) : V.evBody Z89.E Z89.con Tryz.f18 (V.fl9 x0 x1 x2) = V.evC Z89.E Tryz.f18.ntmps (V.codeOf Tryz.f18) (Z89.kt x0 x1 x2) (Z89.s x0 x1 x2) := by kernel_rfl
theorem Z89.v (x0 : TKeys) (x1 : THead) (x2 : List TSig) : V.evC Z89.E Tryz.f18.ntmps (V.codeOf Tryz.f18) (Z89.kt x0 x1 x2) (Z89.s x0 x1 x2) = Z89 x0 x1 x2 := by kernel_rfl
theorem Z89.eq (x0 : TKeys) (x1 : THead) (x2 : List TSig) : V.evBody Z89.E Z89.con Tryz.f18 (V.fl9 x0 x1 x2) = Z89 x0 x1 x2 := (Z89.v0 x0 x1 x2).trans (Z89.v x0 x1 x2)
theorem Z89.ok : V.Valid Tryz.prog 18 Z89.con :=
 V.fo (V.tab_cons Z80.ok (V.tab_cons Z23.ok V.tab_nil)) Tryz.func18 (by kernel_rfl) (fun x y h => (show V.evBody Z89.E Z89.con Tryz.f18 x = _ from Z89.eq (V.p9_0 x) (V.p9_1 x) (V.p9_2 x)).trans (V.cfl (by kernel_rfl) h))
noncomputable abbrev Z35.con : V.Con := ⟨(.cons (.sl (V.ci .nil)) (.cons (.sl (V.ci .nil)) .nil)), (.cons .bool .nil), fun (x : List Int × List Int) => Z35 x.1 x.2, [], [(false, 1), (false, 1)], [(false, 1)], [false], []⟩
noncomputable abbrev Z35.E : V.Env := V.mkE V.tys [] [(8, [0, 1, 5], [])] [(6, 8)] [] [] []
noncomputable abbrev Z35.kt (x0 : List Int) (x1 : List Int) : V.Kt Bool := V.ktOf Z35.E Z35.con Tryz.f19 ((x0, x1) : List Int × List Int)
noncomputable abbrev Z35.s8 (x0 : List Int) (x1 : List Int) (v8_2 : Int) : V.St := ⟨[(0, .v false [.val (.sl (V.ci .nil) x0)]), (1, .v false [.val (.sl (V.ci .nil) x1)]), (5, .v false [.vi (v8_2)])], []⟩
theorem Z35.r8 (x0 : List Int) (x1 : List Int) (R : V.St → Option Bool) (v8_2 : Int) : V.loopF Z35.E Tryz.f19.ntmps [1, 1, 0, 1, 0] [] (V.codeOf Tryz.f19) (Z35.kt x0 x1) R (Z35.s8 x0 x1 v8_2) = Z35.g8 x0 x1 (fun v8_2 => R (Z35.s8 x0 x1 v8_2)) v8_2 := by kernel_rfl
theorem Z35.e8 (x0 : List Int) (x1 : List Int) : ∀ (n : Nat) (v8_2 : Int), V.loopN (V.loopF Z35.E Tryz.f19.ntmps [1, 1, 0, 1, 0] [] (V.codeOf Tryz.f19) (Z35.kt x0 x1)) n (Z35.s8 x0 x1 v8_2) = Z35.l8 x0 x1 n v8_2 := by
 intro n
 induction n with
 | zero => intros; rw [V.loopN_z]; rfl
 | succ n ih =>
   intro v8_2
   rw [V.loopN_s, Z35.r8]
   simp only [ih]
   first | exact (Z35.u8 ..).symm | rfl
theorem Z35.v (x0 : List Int) (x1 : List Int) : V.evBody Z35.E Z35.con Tryz.f19 ((x0, x1) : List Int × List Int) = Z35.b x0 x1 (fun v8_2 => V.loopN (V.loopF Z35.E Tryz.f19.ntmps [1, 1, 0, 1, 0] [] (V.codeOf Tryz.f19) (Z35.kt x0 x1)) V.KK (Z35.s8 x0 x1 v8_2)) := by kernel_rfl
theorem Z35.eq (x0 : List Int) (x1 : List Int) : V.evBody Z35.E Z35.con Tryz.f19 ((x0, x1) : List Int × List Int) = Z35 x0 x1 := by
 rw [Z35.v]
 simp only [Z35.e8]
 rfl
theorem Z35.ok : V.Valid Tryz.prog 19 Z35.con :=
 V.fo V.tab_nil Tryz.func19 (by kernel_rfl) (fun x y h => (show V.evBody Z35.E Z35.con Tryz.f19 x = _ from Z35.eq x.1 x.2).trans (V.cfl (by kernel_rfl) h))
noncomputable abbrev Z9.con : V.Con := ⟨(.cons (.sl (.cons (.int .u8) .nil)) .nil), (.cons .bool .nil), fun (x : List Int) => Z9 x, [], [(false, 1)], [(false, 1)], [false], []⟩
noncomputable abbrev Z9.E : V.Env := V.mkE V.tys [(4, Z159.con), (5, Z143.con), (6, Z16.con), (7, Z13.con), (8, Z126.con), (9, Z145.con), (10, Z19.con), (11, Z31.con), (12, Z75.con), (13, Z124.con), (14, Z144.con), (15, Z146.con), (16, Z78.con), (17, Z80.con), (18, Z89.con), (19, Z35.con), (20, Z98.con), (21, Z3.con), (22, Z69.con), (23, Z10.con)] [(17, [0, 3, 4, 5, 6, 7, 8], []), (37, [0, 3, 5, 6, 11, 16, 19, 22, 24, 31], []), (41, [0], [])] [(18, 37), (22, 31)] [] [] []
noncomputable abbrev Z9.kt (x0 : List Int) : V.Kt Bool := V.ktOf Z9.E Z9.con Tryz.f3 ((x0) : List Int)
noncomputable abbrev Z9.s41 (x0 : List Int) : V.St := ⟨[(0, .v false [.val (.sl (.cons (.int .u8) .nil) x0)])], []⟩
noncomputable abbrev Z9.s37 (x0 : List Int) (y2 : TRWitnessList) (y3 : TRWitnessSigBool) (y8 : TRWitnessSigBool) (y9 : TRWitnessSigBool) (y10 : TRWitnessSigBool) (y11 : TRForkBool) (v37_5 : Bool) (v37_12 : Int) (v37_13 : Int) (v37_14 : Int) (v37_15 : Int) (v37_16 : Int) (v37_17 : Int) (v37_18 : Int) (v37_19 : Int) (v37_20 : List Int) (v37_21 : Int) (v37_22 : List Int) (v37_23 : Int) (v37_24 : Int) (v37_25 : List Int) (v37_26 : Int) (v37_27 : Bool) : V.St := ⟨[(0, .v false [.val (.sl (.cons (.int .u8) .nil) x0)]), (3, .v false [.ptr 256320 0]), (5, .v false [.ptr 320448 0]), (6, .v false [.ptr 320512 0]), (11, .v false [.ptr 640448 0]), (16, .v false [.val (.bool y8.2.2.2.2)]), (19, .v false [.val (.bool y9.2.2.2.2)]), (22, .v false [.val (.bool y10.2.2.2.2)]), (24, .v false [.val (.bool y11.2.2.2.2.2.2.2.2.2.2.2.2.2.2.2.2.2.2.2.2.2.2.2.2.2.2.2.2.2.2.2.2.2.2.2.2.2.2.2.2.2.2.2.2.2.2.2.2.2.2.2)]), (31, .v false [.val (.bool v37_5)])], [(256320, .box [.vi (y2.1), .ref 64000000000016404481]), (64000000000016404481, .row (V.ci (V.ci (V.ci .nil))) true y2.2.1), (320448, .box [.vi (y3.1), .ref 64000000000020508673]), (64000000000020508673, .row (V.ci (V.ci (V.ci .nil))) true y3.2.1), (320512, .box [.vi (y3.2.2.1), .vi (y3.2.2.2.1)]), (640448, .box [.vi (v37_12), .vi (v37_13), .vi (v37_14), .vi (v37_15), .vi (v37_16), .vi (v37_17), .vi (v37_18), .vi (v37_19), .val (.sl (V.ci .nil) v37_20), .vi (v37_21), .val (.sl (V.ci .nil) v37_22), .vi (v37_23), .vi (v37_24), .val (.sl (V.ci .nil) v37_25), .vi (v37_26), .val (.bool v37_27)])]⟩
noncomputable abbrev Z9.s17 (x0 : List Int) (y2 : TRWitnessList) (y3 : TRWitnessSigBool) (y4 : TRWitnessSigBool) : V.St := ⟨[(0, .v false [.val (.sl (.cons (.int .u8) .nil) x0)]), (3, .v false [.ptr 256320 0]), (4, .v false [.val (.sl V.eSigned y2.2.2)]), (5, .v false [.ptr 320448 0]), (6, .v false [.ptr 320512 0]), (7, .v false [.val (.bool y3.2.2.2.2)]), (8, .v false [.ptr 384448 0])], [(256320, .box [.vi (y2.1), .ref 64000000000016404481]), (64000000000016404481, .row (V.ci (V.ci (V.ci .nil))) true y2.2.1), (320448, .box [.vi (y3.1), .ref 64000000000020508673]), (64000000000020508673, .row (V.ci (V.ci (V.ci .nil))) true y3.2.1), (320512, .box [.vi (y3.2.2.1), .vi (y3.2.2.2.1)]), (384448, .box [.vi (y4.1), .ref 64000000000024604673]), (64000000000024604673, .row (V.ci (V.ci (V.ci .nil))) true y4.2.1)]⟩
theorem Z9.r41 (x0 : List Int) : V.joinF Z9.E Tryz.f3.ntmps [1, 1, 1, 1, 1, 1] [] (V.codeOf Tryz.f3) (Z9.kt x0) (Z9.s41 x0) = Z9.g41 x0 := by kernel_rfl
theorem Z9.e41 (x0 : List Int) : V.jn (V.joinF Z9.E Tryz.f3.ntmps [1, 1, 1, 1, 1, 1] [] (V.codeOf Tryz.f3) (Z9.kt x0)) (Z9.s41 x0) = Z9.l41 x0 := by
 rw [V.jn_eq, Z9.r41]
 rfl
theorem Z9.r37 (x0 : List Int) (y10 : TRWitnessSigBool) (y11 : TRForkBool) (y2 : TRWitnessList) (y3 : TRWitnessSigBool) (y8 : TRWitnessSigBool) (y9 : TRWitnessSigBool) (v37_5 : Bool) (v37_12 : Int) (v37_13 : Int) (v37_14 : Int) (v37_15 : Int) (v37_16 : Int) (v37_17 : Int) (v37_18 : Int) (v37_19 : Int) (v37_20 : List Int) (v37_21 : Int) (v37_22 : List Int) (v37_23 : Int) (v37_24 : Int) (v37_25 : List Int) (v37_26 : Int) (v37_27 : Bool) : V.joinF Z9.E Tryz.f3.ntmps [1, 1, 1, 1, 1, 1, 0, 1, 0, 1, 1, 1, 1, 1, 1, 1, 1] [] (V.codeOf Tryz.f3) (Z9.kt x0) (Z9.s37 x0 y2 y3 y8 y9 y10 y11 v37_5 v37_12 v37_13 v37_14 v37_15 v37_16 v37_17 v37_18 v37_19 v37_20 v37_21 v37_22 v37_23 v37_24 v37_25 v37_26 v37_27) = Z9.g37 x0 y2 y3 y8 y9 y10 y11 (V.jn (V.joinF Z9.E Tryz.f3.ntmps [1, 1, 1, 1, 1, 1] [] (V.codeOf Tryz.f3) (Z9.kt x0)) (Z9.s41 x0)) v37_5 v37_12 v37_13 v37_14 v37_15 v37_16 v37_17 v37_18 v37_19 v37_20 v37_21 v37_22 v37_23 v37_24 v37_25 v37_26 v37_27 := by kernel_rfl
theorem Z9.e37 (x0 : List Int) (y10 : TRWitnessSigBool) (y11 : TRForkBool) (y2 : TRWitnessList) (y3 : TRWitnessSigBool) (y8 : TRWitnessSigBool) (y9 : TRWitnessSigBool) (v37_5 : Bool) (v37_12 : Int) (v37_13 : Int) (v37_14 : Int) (v37_15 : Int) (v37_16 : Int) (v37_17 : Int) (v37_18 : Int) (v37_19 : Int) (v37_20 : List Int) (v37_21 : Int) (v37_22 : List Int) (v37_23 : Int) (v37_24 : Int) (v37_25 : List Int) (v37_26 : Int) (v37_27 : Bool) : V.jn (V.joinF Z9.E Tryz.f3.ntmps [1, 1, 1, 1, 1, 1, 0, 1, 0, 1, 1, 1, 1, 1, 1, 1, 1] [] (V.codeOf Tryz.f3) (Z9.kt x0)) (Z9.s37 x0 y2 y3 y8 y9 y10 y11 v37_5 v37_12 v37_13 v37_14 v37_15 v37_16 v37_17 v37_18 v37_19 v37_20 v37_21 v37_22 v37_23 v37_24 v37_25 v37_26 v37_27) = Z9.l37 x0 y2 y3 y8 y9 y10 y11 v37_5 v37_12 v37_13 v37_14 v37_15 v37_16 v37_17 v37_18 v37_19 v37_20 v37_21 v37_22 v37_23 v37_24 v37_25 v37_26 v37_27 := by
 rw [V.jn_eq, Z9.r37]
 simp only [Z9.e41]
 rfl
theorem Z9.r17 (x0 : List Int) (y2 : TRWitnessList) (y3 : TRWitnessSigBool) (y4 : TRWitnessSigBool) : V.joinF Z9.E Tryz.f3.ntmps [1, 1, 1, 1, 1] [] (V.codeOf Tryz.f3) (Z9.kt x0) (Z9.s17 x0 y2 y3 y4) = Z9.g17 x0 y2 y3 y4 (fun y2 y3 y8 y9 y10 y11 v37_5 v37_12 v37_13 v37_14 v37_15 v37_16 v37_17 v37_18 v37_19 v37_20 v37_21 v37_22 v37_23 v37_24 v37_25 v37_26 v37_27 => V.jn (V.joinF Z9.E Tryz.f3.ntmps [1, 1, 1, 1, 1, 1, 0, 1, 0, 1, 1, 1, 1, 1, 1, 1, 1] [] (V.codeOf Tryz.f3) (Z9.kt x0)) (Z9.s37 x0 y2 y3 y8 y9 y10 y11 v37_5 v37_12 v37_13 v37_14 v37_15 v37_16 v37_17 v37_18 v37_19 v37_20 v37_21 v37_22 v37_23 v37_24 v37_25 v37_26 v37_27)) (V.jn (V.joinF Z9.E Tryz.f3.ntmps [1, 1, 1, 1, 1, 1] [] (V.codeOf Tryz.f3) (Z9.kt x0)) (Z9.s41 x0)) := by kernel_rfl
theorem Z9.e17 (x0 : List Int) (y2 : TRWitnessList) (y3 : TRWitnessSigBool) (y4 : TRWitnessSigBool) : V.jn (V.joinF Z9.E Tryz.f3.ntmps [1, 1, 1, 1, 1] [] (V.codeOf Tryz.f3) (Z9.kt x0)) (Z9.s17 x0 y2 y3 y4) = Z9.l17 x0 y2 y3 y4 := by
 rw [V.jn_eq, Z9.r17]
 simp only [Z9.e37, Z9.e41]
 rfl
theorem Z9.v (x0 : List Int) : V.evBody Z9.E Z9.con Tryz.f3 ((x0) : List Int) = Z9.b x0 (fun y2 y3 y4 => V.jn (V.joinF Z9.E Tryz.f3.ntmps [1, 1, 1, 1, 1] [] (V.codeOf Tryz.f3) (Z9.kt x0)) (Z9.s17 x0 y2 y3 y4)) := by kernel_rfl
theorem Z9.eq (x0 : List Int) : V.evBody Z9.E Z9.con Tryz.f3 ((x0) : List Int) = Z9 x0 := by
 rw [Z9.v]
 simp only [Z9.e17]
 rfl
theorem Z9.ok : V.Valid Tryz.prog 3 Z9.con :=
 V.fo (V.tab_cons Z159.ok (V.tab_cons Z143.ok (V.tab_cons Z16.ok (V.tab_cons Z13.ok (V.tab_cons Z126.ok (V.tab_cons Z145.ok (V.tab_cons Z19.ok (V.tab_cons Z31.ok (V.tab_cons Z75.ok (V.tab_cons Z124.ok (V.tab_cons Z144.ok (V.tab_cons Z146.ok (V.tab_cons Z78.ok (V.tab_cons Z80.ok (V.tab_cons Z89.ok (V.tab_cons Z35.ok (V.tab_cons Z98.ok (V.tab_cons Z3.ok (V.tab_cons Z69.ok (V.tab_cons Z10.ok V.tab_nil)))))))))))))))))))) Tryz.func3 (by kernel_rfl) (fun x y h => (show V.evBody Z9.E Z9.con Tryz.f3 x = _ from Z9.eq x).trans (V.cfl (by kernel_rfl) h))
end Go.Proofs.YtkadeffepgcceabGreat
