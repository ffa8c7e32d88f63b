/- That the functions compute it, part 1. -/
import Derived.Test.YtmplinobompncaaGreatXAskWalk0
namespace Go.Proofs.YtmplinobompncaaGreat
set_option linter.unusedVariables false
set_option maxRecDepth 100000
noncomputable abbrev Z28.con : V.Con := ⟨(.cons (.sl (.cons (.int .i64) .nil)) .nil), (.cons (.sl (.cons (.int .i64) .nil)) .nil), fun (x : List Int) => Z28 x, [], [(false, 1)], [(false, 1)], [true], []⟩
noncomputable abbrev Z28.E : V.Env := V.mkE V.tys [(441, Z167.con)] [(6, [0, 3, 4], [(64000038400192, (.cons (.int .i64) .nil), true)])] [(6, 12)] [] [] []
noncomputable abbrev Z28.kt (x0 : List Int) : V.Kt (List Int) := V.ktOf Z28.E Z28.con Tryz.f408 ((x0) : List Int)
noncomputable abbrev Z28.s6 (x0 : List Int) (v6_1 : Int) (v6_2 : List Int) : V.St := ⟨[(0, .v false [.val (.sl (.cons (.int .i64) .nil) x0)]), (3, .v false [.ref 64000038400192]), (4, .v false [.val (.int .i64 v6_1)])], [(64000038400192, .row (.cons (.int .i64) .nil) true v6_2)]⟩
theorem Z28.r6 (x0 : List Int) (R : V.St → Option (List Int)) (v6_1 : Int) (v6_2 : List Int) : V.loopF Z28.E Tryz.f408.ntmps [1, 1, 0, 1, 0] [] (V.codeOf Tryz.f408) (Z28.kt x0) R (Z28.s6 x0 v6_1 v6_2) = Z28.g6 x0 (fun v6_1 v6_2 => R (Z28.s6 x0 v6_1 v6_2)) v6_1 v6_2 := by kernel_rfl
theorem Z28.e6 (x0 : List Int) : ∀ (n : Nat) (v6_1 : Int) (v6_2 : List Int), V.loopN (V.loopF Z28.E Tryz.f408.ntmps [1, 1, 0, 1, 0] [] (V.codeOf Tryz.f408) (Z28.kt x0)) n (Z28.s6 x0 v6_1 v6_2) = Z28.l6 x0 n v6_1 v6_2 := by
  intro n
  induction n with
  | zero => intros; rw [V.loopN_z]; rfl
  | succ n ih =>
    intro v6_1 v6_2
    rw [V.loopN_s, Z28.r6]
    simp only [ih]
    first | exact (Z28.u6 ..).symm | rfl
theorem Z28.v (x0 : List Int) : V.evBody Z28.E Z28.con Tryz.f408 ((x0) : List Int) = Z28.b x0 (fun v6_1 v6_2 => V.loopN (V.loopF Z28.E Tryz.f408.ntmps [1, 1, 0, 1, 0] [] (V.codeOf Tryz.f408) (Z28.kt x0)) V.KK (Z28.s6 x0 v6_1 v6_2)) := by kernel_rfl
theorem Z28.eq (x0 : List Int) : V.evBody Z28.E Z28.con Tryz.f408 ((x0) : List Int) = Z28 x0 := by
  rw [Z28.v]
  simp only [Z28.e6]
  rfl
theorem Z28.ok : V.Valid Tryz.prog 408 Z28.con :=
  V.fo (V.tab_cons Z167.ok V.tab_nil) Tryz.func408 (by kernel_rfl) (fun x y h => (show V.evBody Z28.E Z28.con Tryz.f408 x = _ from Z28.eq x).trans (V.cfl (by kernel_rfl) h))
noncomputable abbrev Z48.con : V.Con := ⟨(.cons (.sl (.cons (.int .i64) .nil)) .nil), (.cons (.int .i64) .nil), fun (x : List Int) => Z48 x, [], [(false, 1)], [(false, 1)], [false], []⟩
noncomputable abbrev Z48.E : V.Env := V.mkE V.tys [(407, Z124.con), (408, Z28.con)] [(6, [0], [(0, (.cons (.int .i64) .nil), false)])] [] [] [] []
noncomputable abbrev Z48.kt (x0 : List Int) : V.Kt Int := V.ktOf Z48.E Z48.con Tryz.f345 ((x0) : List Int)
noncomputable abbrev Z48.s6 (v6_0 : List Int) : V.St := ⟨[(0, .v false [.val (.sl (.cons (.int .i64) .nil) v6_0)])], []⟩
theorem Z48.r6 (x0 : List Int) (R : V.St → Option Int) (v6_0 : List Int) : V.loopF Z48.E Tryz.f345.ntmps [1, 1, 0, 0] [] (V.codeOf Tryz.f345) (Z48.kt x0) R (Z48.s6 v6_0) = Z48.g6 (fun v6_0 => R (Z48.s6 v6_0)) v6_0 := by kernel_rfl
theorem Z48.e6 (x0 : List Int) : ∀ (n : Nat) (v6_0 : List Int), V.loopN (V.loopF Z48.E Tryz.f345.ntmps [1, 1, 0, 0] [] (V.codeOf Tryz.f345) (Z48.kt x0)) n (Z48.s6 v6_0) = Z48.l6 n v6_0 := by
  intro n
  induction n with
  | zero => intros; rw [V.loopN_z]; rfl
  | succ n ih =>
    intro v6_0
    rw [V.loopN_s, Z48.r6]
    simp only [ih]
    first | exact (Z48.u6 ..).symm | rfl
theorem Z48.v (x0 : List Int) : V.evBody Z48.E Z48.con Tryz.f345 ((x0) : List Int) = Z48.b x0 (fun v6_0 => V.loopN (V.loopF Z48.E Tryz.f345.ntmps [1, 1, 0, 0] [] (V.codeOf Tryz.f345) (Z48.kt x0)) V.KK (Z48.s6 v6_0)) := by kernel_rfl
theorem Z48.eq (x0 : List Int) : V.evBody Z48.E Z48.con Tryz.f345 ((x0) : List Int) = Z48 x0 := by
  rw [Z48.v]
  simp only [Z48.e6]
  rfl
theorem Z48.ok : V.Valid Tryz.prog 345 Z48.con :=
  V.fo (V.tab_cons Z124.ok (V.tab_cons Z28.ok V.tab_nil)) Tryz.func345 (by kernel_rfl) (fun x y h => (show V.evBody Z48.E Z48.con Tryz.f345 x = _ from Z48.eq x).trans (V.cfl (by kernel_rfl) h))
noncomputable abbrev Z202.con : V.Con := ⟨(.cons (.int .i64) (.cons (.int .i64) .nil)), (.cons (.int .i64) .nil), fun (x : Int × Int) => Z202 x.1 x.2, [], [(false, 1), (false, 1)], [(false, 1)], [false], []⟩
noncomputable abbrev Z202.E : V.Env := V.mkE V.tys [(407, Z124.con)] [] [] [] [] []
theorem Z202.eq (x0 : Int) (x1 : Int) : V.evBody Z202.E Z202.con Tryz.f344 ((x0, x1) : Int × Int) = Z202 x0 x1 := by kernel_rfl
theorem Z202.ok : V.Valid Tryz.prog 344 Z202.con :=
  V.fo (V.tab_cons Z124.ok V.tab_nil) Tryz.func344 (by kernel_rfl) (fun x y h => (show V.evBody Z202.E Z202.con Tryz.f344 x = _ from Z202.eq x.1 x.2).trans (V.cfl (by kernel_rfl) h))
noncomputable abbrev Z168.con : V.Con := ⟨(.cons (.sl V.eEntry) .nil), (.cons (.int .i64) .nil), fun (x : List TEntry) => Z168 x, [], [(false, 1)], [(false, 1)], [false], []⟩
noncomputable abbrev Z168.E : V.Env := V.mkE V.tys [(344, Z202.con), (345, Z48.con), (346, Z36.con)] [] [] [] [] []
theorem Z168.eq (x0 : List TEntry) : V.evBody Z168.E Z168.con Tryz.f223 ((x0) : List TEntry) = Z168 x0 := by kernel_rfl
theorem Z168.ok : V.Valid Tryz.prog 223 Z168.con :=
  V.fo (V.tab_cons Z202.ok (V.tab_cons Z48.ok (V.tab_cons Z36.ok V.tab_nil))) Tryz.func223 (by kernel_rfl) (fun x y h => (show V.evBody Z168.E Z168.con Tryz.f223 x = _ from Z168.eq x).trans (V.cfl (by kernel_rfl) h))
noncomputable abbrev Z160.con : V.Con := ⟨(.cons (.int .i64) (.cons (.sl V.eEntry) .nil)), (.cons .bool .nil), fun (x : Int × List TEntry) => Z160 x.1 x.2, [], [(false, 1), (false, 1)], [(false, 1)], [false], []⟩
noncomputable abbrev Z160.E : V.Env := V.mkE V.tys [(220, Z20.con), (223, Z168.con)] [] [] [] [] []
theorem Z160.eq (x0 : Int) (x1 : List TEntry) : V.evBody Z160.E Z160.con Tryz.f257 ((x0, x1) : Int × List TEntry) = Z160 x0 x1 := by kernel_rfl
theorem Z160.ok : V.Valid Tryz.prog 257 Z160.con :=
  V.fo (V.tab_cons Z20.ok (V.tab_cons Z168.ok V.tab_nil)) Tryz.func257 (by kernel_rfl) (fun x y h => (show V.evBody Z160.E Z160.con Tryz.f257 x = _ from Z160.eq x.1 x.2).trans (V.cfl (by kernel_rfl) h))
noncomputable abbrev Z137.con : V.Con := ⟨(.cons (.sl V.eSigned) (.cons (.sl V.eEntry) .nil)), (.cons .bool .nil), fun (x : List TSigned × List TEntry) => Z137 x, [], [(true, 2)], [(false, 1)], [false], []⟩
noncomputable abbrev Z137.E : V.Env := V.mkE V.tys [(37, Z161.con), (173, Z138.con), (257, Z160.con)] [] [] [] [] []
theorem Z137.eq (x0 : TZone) : V.evBody Z137.E Z137.con Tryz.f98 ((x0.1, x0.2) : List TSigned × List TEntry) = Z137 x0 := by kernel_rfl
theorem Z137.ok : V.Valid Tryz.prog 98 Z137.con :=
  V.fo (V.tab_cons Z161.ok (V.tab_cons Z138.ok (V.tab_cons Z160.ok V.tab_nil))) Tryz.func98 (by kernel_rfl) (fun x y h => (show V.evBody Z137.E Z137.con Tryz.f98 x = _ from Z137.eq x).trans (V.cfl (by kernel_rfl) h))
noncomputable abbrev Z171.con : V.Con := ⟨(.cons (.sl V.eSigned) (.cons (.sl V.eEntry) .nil)), (.cons (.int .i64) .nil), fun (x : List TSigned × List TEntry) => Z171 x, [], [(true, 2)], [(false, 1)], [false], []⟩
noncomputable abbrev Z171.E : V.Env := V.mkE V.tys [(98, Z137.con), (173, Z138.con)] [] [] [] [] []
theorem Z171.eq (x0 : TZone) : V.evBody Z171.E Z171.con Tryz.f100 ((x0.1, x0.2) : List TSigned × List TEntry) = Z171 x0 := by kernel_rfl
theorem Z171.ok : V.Valid Tryz.prog 100 Z171.con :=
  V.fo (V.tab_cons Z137.ok (V.tab_cons Z138.ok V.tab_nil)) Tryz.func100 (by kernel_rfl) (fun x y h => (show V.evBody Z171.E Z171.con Tryz.f100 x = _ from Z171.eq x).trans (V.cfl (by kernel_rfl) h))
noncomputable abbrev Z200.con : V.Con := ⟨(.cons (.sl V.eSigned) (.cons (.sl V.eEntry) (.cons (.ptr (.cons (.int .i64) .nil)) .nil))), (.cons .bool .nil), fun (x : List TSigned × List TEntry × Int) => Z200 (x.1, x.2.1) x.2.2, [], [(true, 2), (false, 1)], [(false, 1)], [false], []⟩
noncomputable abbrev Z200.E : V.Env := V.mkE V.tys [(100, Z171.con)] [] [(1, 3)] [] [] []
theorem Z200.eq (x0 : TZone) (x1 : Int) : V.evBody Z200.E Z200.con Tryz.f298 ((x0.1, x0.2, x1) : List TSigned × List TEntry × Int) = Z200 x0 x1 := by kernel_rfl
theorem Z200.ok : V.Valid Tryz.prog 298 Z200.con :=
  V.fo (V.tab_cons Z171.ok V.tab_nil) Tryz.func298 (by kernel_rfl) (fun x y h => (show V.evBody Z200.E Z200.con Tryz.f298 x = _ from Z200.eq (x.1, x.2.1) x.2.2).trans (V.cfl (by kernel_rfl) h))
noncomputable abbrev Z73.con : V.Con := ⟨(.cons (.sl (.cons (.sl V.eSigned) (.cons (.sl V.eEntry) .nil))) (.cons (.fn 298 false .nil (.cons (.ptr (.cons (.int .i64) .nil)) .nil)) .nil)), (.cons (.int .i64) .nil), fun (x : List TZone × (Unit) × (Int)) => Z73 x.1 x.2, [], [(false, 1), (false, 1)], [(false, 1)], [false], []⟩
noncomputable abbrev Z73.E : V.Env := V.mkE V.tys [(298, Z200.con)] [(4, [0, 1, 7, 8], [])] [] [] [] []
noncomputable abbrev Z73.kt (x0 : List TZone) (x1 : (Unit) × (Int)) : V.Kt Int := V.ktOf Z73.E Z73.con Tryz.f297 ((x0, x1) : List TZone × (Unit) × (Int))
noncomputable abbrev Z73.s4 (x0 : List TZone) (x1 : (Unit) × (Int)) (v4_2 : Int) (v4_3 : Int) : V.St := ⟨[(0, .v false [.val (.sl (.cons (.sl V.eSigned) (.cons (.sl V.eEntry) .nil)) x0)]), (1, .v false [.val (.fn 298 false .nil (.cons (.ptr (.cons (.int .i64) .nil)) .nil) () x1.2)]), (7, .v false [.val (.int .i64 v4_2)]), (8, .v false [.val (.int .i64 v4_3)])], []⟩
theorem Z73.r4 (x0 : List TZone) (x1 : (Unit) × (Int)) (R : V.St → Option Int) (v4_2 : Int) (v4_3 : Int) : V.loopF Z73.E Tryz.f297.ntmps [1, 0, 1, 0] [] (V.codeOf Tryz.f297) (Z73.kt x0 x1) R (Z73.s4 x0 x1 v4_2 v4_3) = Z73.g4 x0 x1 (fun v4_2 v4_3 => R (Z73.s4 x0 x1 v4_2 v4_3)) v4_2 v4_3 := by kernel_rfl
theorem Z73.e4 (x0 : List TZone) (x1 : (Unit) × (Int)) : ∀ (n : Nat) (v4_2 : Int) (v4_3 : Int), V.loopN (V.loopF Z73.E Tryz.f297.ntmps [1, 0, 1, 0] [] (V.codeOf Tryz.f297) (Z73.kt x0 x1)) n (Z73.s4 x0 x1 v4_2 v4_3) = Z73.l4 x0 x1 n v4_2 v4_3 := by
  intro n
  induction n with
  | zero => intros; rw [V.loopN_z]; rfl
  | succ n ih =>
    intro v4_2 v4_3
    rw [V.loopN_s, Z73.r4]
    simp only [ih]
    first | exact (Z73.u4 ..).symm | rfl
theorem Z73.v (x0 : List TZone) (x1 : (Unit) × (Int)) : V.evBody Z73.E Z73.con Tryz.f297 ((x0, x1) : List TZone × (Unit) × (Int)) = Z73.b x0 x1 (fun v4_2 v4_3 => V.loopN (V.loopF Z73.E Tryz.f297.ntmps [1, 0, 1, 0] [] (V.codeOf Tryz.f297) (Z73.kt x0 x1)) V.KK (Z73.s4 x0 x1 v4_2 v4_3)) := by kernel_rfl
theorem Z73.eq (x0 : List TZone) (x1 : (Unit) × (Int)) : V.evBody Z73.E Z73.con Tryz.f297 ((x0, x1) : List TZone × (Unit) × (Int)) = Z73 x0 x1 := by
  rw [Z73.v]
  simp only [Z73.e4]
  rfl
theorem Z73.ok : V.Valid Tryz.prog 297 Z73.con :=
  V.fo (V.tab_cons Z200.ok V.tab_nil) Tryz.func297 (by kernel_rfl) (fun x y h => (show V.evBody Z73.E Z73.con Tryz.f297 x = _ from Z73.eq x.1 x.2).trans (V.cfl (by kernel_rfl) h))
noncomputable abbrev Z169.con : V.Con := ⟨(.cons (.sl (.cons (.sl V.eSigned) (.cons (.sl V.eEntry) .nil))) (.cons (.int .i64) (.cons (.int .i64) .nil))), (.cons (.int .i64) .nil), fun (x : List TZone × Int × Int) => Z169 (x.1, x.2.1) x.2.2, [], [(true, 2), (false, 1)], [(false, 1)], [false], []⟩
noncomputable abbrev Z169.E : V.Env := V.mkE V.tys [(297, Z73.con)] [] [] [] [] []
theorem Z169.eq (x0 : TServer) (x1 : Int) : V.evBody Z169.E Z169.con Tryz.f148 ((x0.1, x0.2, x1) : List TZone × Int × Int) = Z169 x0 x1 := by kernel_rfl
theorem Z169.ok : V.Valid Tryz.prog 148 Z169.con :=
  V.fo (V.tab_cons Z73.ok V.tab_nil) Tryz.func148 (by kernel_rfl) (fun x y h => (show V.evBody Z169.E Z169.con Tryz.f148 x = _ from Z169.eq (x.1, x.2.1) x.2.2).trans (V.cfl (by kernel_rfl) h))
noncomputable abbrev Z181.con : V.Con := ⟨(.cons (.sl (.cons (.int .i64) .nil)) .nil), (.cons (.sl (.cons (.int .i64) .nil)) .nil), fun (x : List Int) => Z181 x, [], [(false, 1)], [(false, 1)], [true], []⟩
noncomputable abbrev Z181.E : V.Env := V.mkE V.tys [] [] [] [] [] []
theorem Z181.eq (x0 : List Int) : V.evBody Z181.E Z181.con Tryz.f319 ((x0) : List Int) = Z181 x0 := by kernel_rfl
theorem Z181.ok : V.Valid Tryz.prog 319 Z181.con :=
  V.fo V.tab_nil Tryz.func319 (by kernel_rfl) (fun x y h => (show V.evBody Z181.E Z181.con Tryz.f319 x = _ from Z181.eq x).trans (V.cfl (by kernel_rfl) h))
noncomputable abbrev Z145.con : V.Con := ⟨(.cons (.sl (.cons (.int .i64) .nil)) (.cons (.int .i64) .nil)), (.cons (.sl (.cons (.int .i64) .nil)) (.cons (.int .i64) .nil)), fun (x : List Int × Int) => Z145 x, [], [(true, 2)], [(true, 2)], [true, false], []⟩
noncomputable abbrev Z145.E : V.Env := V.mkE V.tys [(319, Z181.con)] [] [(1, 5)] [] [] []
theorem Z145.eq (x0 : TKeys) : V.evBody Z145.E Z145.con Tryz.f184 ((x0.1, x0.2) : List Int × Int) = Z145 x0 := by kernel_rfl
theorem Z145.ok : V.Valid Tryz.prog 184 Z145.con :=
  V.fo (V.tab_cons Z181.ok V.tab_nil) Tryz.func184 (by kernel_rfl) (fun x y h => (show V.evBody Z145.E Z145.con Tryz.f184 x = _ from Z145.eq x).trans (V.cfl (by kernel_rfl) h))
noncomputable abbrev Z99.con : V.Con := ⟨V.A2, V.eHead, fun (x : V.D2) => Z99 (V.p2_0 x), [], [(true, 16)], [(true, 16)], [false, false, false, false, false, false, false, false, true, false, true, false, false, true, false, false], []⟩
noncomputable abbrev Z99.E : V.Env := V.mkE V.tys [(184, Z145.con)] [] [(1, 10)] [] [] []
noncomputable abbrev Z99.kt (x0 : THead) : V.Kt THead := V.ktOf Z99.E Z99.con Tryz.f183 (V.fl2 x0)
noncomputable abbrev Z99.s (x0 : THead) : V.St := ⟨[(0, .v true (V.lsHead x0))], []⟩
theorem Z99.v0 (x0 : THead) : V.evBody Z99.E Z99.con Tryz.f183 (V.fl2 x0) = V.evC Z99.E Tryz.f183.ntmps (V.codeOf Tryz.f183) (Z99.kt x0) (Z99.s x0) := by kernel_rfl
theorem Z99.v (x0 : THead) : V.evC Z99.E Tryz.f183.ntmps (V.codeOf Tryz.f183) (Z99.kt x0) (Z99.s x0) = Z99 x0 := by kernel_rfl
theorem Z99.eq (x0 : THead) : V.evBody Z99.E Z99.con Tryz.f183 (V.fl2 x0) = Z99 x0 := (Z99.v0 x0).trans (Z99.v x0)
theorem Z99.ok : V.Valid Tryz.prog 183 Z99.con :=
  V.fo (V.tab_cons Z145.ok V.tab_nil) Tryz.func183 (by kernel_rfl) (fun x y h => (show V.evBody Z99.E Z99.con Tryz.f183 x = _ from Z99.eq (V.p2_0 x)).trans (V.cfl (by kernel_rfl) h))
noncomputable abbrev Z180.con : V.Con := ⟨(.cons (.sl (.cons (.int .i64) (.cons (.int .i64) .nil))) .nil), (.cons (.sl (.cons (.int .i64) (.cons (.int .i64) .nil))) .nil), fun (x : List TSig) => Z180 x, [], [(false, 1)], [(false, 1)], [true], []⟩
noncomputable abbrev Z180.E : V.Env := V.mkE V.tys [] [] [] [] [] []
theorem Z180.eq (x0 : List TSig) : V.evBody Z180.E Z180.con Tryz.f311 ((x0) : List TSig) = Z180 x0 := by kernel_rfl
theorem Z180.ok : V.Valid Tryz.prog 311 Z180.con :=
  V.fo V.tab_nil Tryz.func311 (by kernel_rfl) (fun x y h => (show V.evBody Z180.E Z180.con Tryz.f311 x = _ from Z180.eq x).trans (V.cfl (by kernel_rfl) h))
noncomputable abbrev Z90.con : V.Con := ⟨V.A3, V.eSigned, fun (x : V.D3) => Z90 (V.p3_0 x), [], [(true, 17)], [(true, 17)], [false, false, false, false, false, false, false, false, true, false, true, false, false, true, false, false, true], []⟩
noncomputable abbrev Z90.E : V.Env := V.mkE V.tys [(183, Z99.con), (311, Z180.con)] [] [(1, 5)] [] [] []
noncomputable abbrev Z90.kt (x0 : TSigned) : V.Kt TSigned := V.ktOf Z90.E Z90.con Tryz.f174 (V.fl3 x0)
noncomputable abbrev Z90.s (x0 : TSigned) : V.St := ⟨[(0, .v true (V.lsSigned x0))], []⟩
theorem Z90.v0 (x0 : TSigned) : V.evBody Z90.E Z90.con Tryz.f174 (V.fl3 x0) = V.evC Z90.E Tryz.f174.ntmps (V.codeOf Tryz.f174) (Z90.kt x0) (Z90.s x0) := by kernel_rfl
theorem Z90.v (x0 : TSigned) : V.evC Z90.E Tryz.f174.ntmps (V.codeOf Tryz.f174) (Z90.kt x0) (Z90.s x0) = Z90 x0 := by kernel_rfl
theorem Z90.eq (x0 : TSigned) : V.evBody Z90.E Z90.con Tryz.f174 (V.fl3 x0) = Z90 x0 := (Z90.v0 x0).trans (Z90.v x0)
theorem Z90.ok : V.Valid Tryz.prog 174 Z90.con :=
  V.fo (V.tab_cons Z99.ok (V.tab_cons Z180.ok V.tab_nil)) Tryz.func174 (by kernel_rfl) (fun x y h => (show V.evBody Z90.E Z90.con Tryz.f174 x = _ from Z90.eq (V.p3_0 x)).trans (V.cfl (by kernel_rfl) h))
noncomputable abbrev Z54.con : V.Con := ⟨(.cons (.sl V.eSigned) .nil), (.cons (.sl V.eSigned) .nil), fun (x : List TSigned) => Z54 x, [], [(false, 1)], [(false, 1)], [true], []⟩
noncomputable abbrev Z54.E : V.Env := V.mkE V.tys [(174, Z90.con)] [(6, [3, 7, 8, 9], [(64000038400192, V.eSigned, true)])] [] [] [] []
noncomputable abbrev Z54.kt (x0 : List TSigned) : V.Kt (List TSigned) := V.ktOf Z54.E Z54.con Tryz.f171 ((x0) : List TSigned)
noncomputable abbrev Z54.s6 (x0 : List TSigned) (v6_1 : Int) (v6_2 : Int) (v6_3 : List TSigned) : V.St := ⟨[(3, .v false [.ref 64000038400192]), (7, .v false [.val (.sl V.eSigned x0)]), (8, .v false [.val (.int .i64 v6_1)]), (9, .v false [.val (.int .i64 v6_2)])], [(64000038400192, .row V.eSigned true v6_3)]⟩
theorem Z54.r6 (x0 : List TSigned) (R : V.St → Option (List TSigned)) (v6_1 : Int) (v6_2 : Int) (v6_3 : List TSigned) : V.loopF Z54.E Tryz.f171.ntmps [1, 1, 0, 1, 0] [] (V.codeOf Tryz.f171) (Z54.kt x0) R (Z54.s6 x0 v6_1 v6_2 v6_3) = Z54.g6 x0 (fun v6_1 v6_2 v6_3 => R (Z54.s6 x0 v6_1 v6_2 v6_3)) v6_1 v6_2 v6_3 := by kernel_rfl
theorem Z54.e6 (x0 : List TSigned) : ∀ (n : Nat) (v6_1 : Int) (v6_2 : Int) (v6_3 : List TSigned), V.loopN (V.loopF Z54.E Tryz.f171.ntmps [1, 1, 0, 1, 0] [] (V.codeOf Tryz.f171) (Z54.kt x0)) n (Z54.s6 x0 v6_1 v6_2 v6_3) = Z54.l6 x0 n v6_1 v6_2 v6_3 := by
  intro n
  induction n with
  | zero => intros; rw [V.loopN_z]; rfl
  | succ n ih =>
    intro v6_1 v6_2 v6_3
    rw [V.loopN_s, Z54.r6]
    simp only [ih]
    first | exact (Z54.u6 ..).symm | rfl
theorem Z54.v (x0 : List TSigned) : V.evBody Z54.E Z54.con Tryz.f171 ((x0) : List TSigned) = Z54.b x0 (fun v6_1 v6_2 v6_3 => V.loopN (V.loopF Z54.E Tryz.f171.ntmps [1, 1, 0, 1, 0] [] (V.codeOf Tryz.f171) (Z54.kt x0)) V.KK (Z54.s6 x0 v6_1 v6_2 v6_3)) := by kernel_rfl
theorem Z54.eq (x0 : List TSigned) : V.evBody Z54.E Z54.con Tryz.f171 ((x0) : List TSigned) = Z54 x0 := by
  rw [Z54.v]
  simp only [Z54.e6]
  rfl
theorem Z54.ok : V.Valid Tryz.prog 171 Z54.con :=
  V.fo (V.tab_cons Z90.ok V.tab_nil) Tryz.func171 (by kernel_rfl) (fun x y h => (show V.evBody Z54.E Z54.con Tryz.f171 x = _ from Z54.eq x).trans (V.cfl (by kernel_rfl) h))
noncomputable abbrev Z198.con : V.Con := ⟨(.cons .str (.cons (.int .i64) (.cons (.int .i64) (.cons (.sl (.cons .str .nil)) (.cons (.ptr (.cons .str .nil)) .nil))))), (.cons .bool .nil), fun (x : ByteArray × Int × Int × List ByteArray × ByteArray) => Z198 (x.1, x.2.1, x.2.2.1, x.2.2.2.1) x.2.2.2.2, [], [(true, 4), (false, 1)], [(false, 1)], [false], []⟩
noncomputable abbrev Z198.E : V.Env := V.mkE V.tys [] [] [] [] [] []
theorem Z198.eq (x0 : TEntry) (x1 : ByteArray) : V.evBody Z198.E Z198.con Tryz.f374 ((x0.1, x0.2.1, x0.2.2.1, x0.2.2.2, x1) : ByteArray × Int × Int × List ByteArray × ByteArray) = Z198 x0 x1 := by kernel_rfl
theorem Z198.ok : V.Valid Tryz.prog 374 Z198.con :=
  V.fo V.tab_nil Tryz.func374 (by kernel_rfl) (fun x y h => (show V.evBody Z198.E Z198.con Tryz.f374 x = _ from Z198.eq (x.1, x.2.1, x.2.2.1, x.2.2.2.1) x.2.2.2.2).trans (V.cfl (by kernel_rfl) h))
noncomputable abbrev Z72.con : V.Con := ⟨(.cons (.sl V.eEntry) (.cons (.fn 374 false .nil (.cons (.ptr (.cons .str .nil)) .nil)) .nil)), (.cons (.int .i64) .nil), fun (x : List TEntry × (Unit) × (ByteArray)) => Z72 x.1 x.2, [], [(false, 1), (false, 1)], [(false, 1)], [false], []⟩
noncomputable abbrev Z72.E : V.Env := V.mkE V.tys [(374, Z198.con)] [(4, [0, 1, 7, 8], [])] [] [] [] []
noncomputable abbrev Z72.kt (x0 : List TEntry) (x1 : (Unit) × (ByteArray)) : V.Kt Int := V.ktOf Z72.E Z72.con Tryz.f373 ((x0, x1) : List TEntry × (Unit) × (ByteArray))
noncomputable abbrev Z72.s4 (x0 : List TEntry) (x1 : (Unit) × (ByteArray)) (v4_2 : Int) (v4_3 : Int) : V.St := ⟨[(0, .v false [.val (.sl V.eEntry x0)]), (1, .v false [.val (.fn 374 false .nil (.cons (.ptr (.cons .str .nil)) .nil) () x1.2)]), (7, .v false [.val (.int .i64 v4_2)]), (8, .v false [.val (.int .i64 v4_3)])], []⟩
theorem Z72.r4 (x0 : List TEntry) (x1 : (Unit) × (ByteArray)) (R : V.St → Option Int) (v4_2 : Int) (v4_3 : Int) : V.loopF Z72.E Tryz.f373.ntmps [1, 0, 1, 0] [] (V.codeOf Tryz.f373) (Z72.kt x0 x1) R (Z72.s4 x0 x1 v4_2 v4_3) = Z72.g4 x0 x1 (fun v4_2 v4_3 => R (Z72.s4 x0 x1 v4_2 v4_3)) v4_2 v4_3 := by kernel_rfl
theorem Z72.e4 (x0 : List TEntry) (x1 : (Unit) × (ByteArray)) : ∀ (n : Nat) (v4_2 : Int) (v4_3 : Int), V.loopN (V.loopF Z72.E Tryz.f373.ntmps [1, 0, 1, 0] [] (V.codeOf Tryz.f373) (Z72.kt x0 x1)) n (Z72.s4 x0 x1 v4_2 v4_3) = Z72.l4 x0 x1 n v4_2 v4_3 := by
  intro n
  induction n with
  | zero => intros; rw [V.loopN_z]; rfl
  | succ n ih =>
    intro v4_2 v4_3
    rw [V.loopN_s, Z72.r4]
    simp only [ih]
    first | exact (Z72.u4 ..).symm | rfl
theorem Z72.v (x0 : List TEntry) (x1 : (Unit) × (ByteArray)) : V.evBody Z72.E Z72.con Tryz.f373 ((x0, x1) : List TEntry × (Unit) × (ByteArray)) = Z72.b x0 x1 (fun v4_2 v4_3 => V.loopN (V.loopF Z72.E Tryz.f373.ntmps [1, 0, 1, 0] [] (V.codeOf Tryz.f373) (Z72.kt x0 x1)) V.KK (Z72.s4 x0 x1 v4_2 v4_3)) := by kernel_rfl
theorem Z72.eq (x0 : List TEntry) (x1 : (Unit) × (ByteArray)) : V.evBody Z72.E Z72.con Tryz.f373 ((x0, x1) : List TEntry × (Unit) × (ByteArray)) = Z72 x0 x1 := by
  rw [Z72.v]
  simp only [Z72.e4]
  rfl
theorem Z72.ok : V.Valid Tryz.prog 373 Z72.con :=
  V.fo (V.tab_cons Z198.ok V.tab_nil) Tryz.func373 (by kernel_rfl) (fun x y h => (show V.evBody Z72.E Z72.con Tryz.f373 x = _ from Z72.eq x.1 x.2).trans (V.cfl (by kernel_rfl) h))
noncomputable abbrev Z122.con : V.Con := ⟨(.cons (.sl V.eEntry) (.cons .str .nil)), (.cons (.int .i64) .nil), fun (x : List TEntry × ByteArray) => Z122 x.1 x.2, [], [(false, 1), (false, 1)], [(false, 1)], [false], []⟩
noncomputable abbrev Z122.E : V.Env := V.mkE V.tys [(373, Z72.con)] [] [] [] [] []
theorem Z122.eq (x0 : List TEntry) (x1 : ByteArray) : V.evBody Z122.E Z122.con Tryz.f281 ((x0, x1) : List TEntry × ByteArray) = Z122 x0 x1 := by kernel_rfl
theorem Z122.ok : V.Valid Tryz.prog 281 Z122.con :=
  V.fo (V.tab_cons Z72.ok V.tab_nil) Tryz.func281 (by kernel_rfl) (fun x y h => (show V.evBody Z122.E Z122.con Tryz.f281 x = _ from Z122.eq x.1 x.2).trans (V.cfl (by kernel_rfl) h))
noncomputable abbrev Z182.con : V.Con := ⟨(.cons (.sl (.cons .str .nil)) .nil), (.cons (.sl (.cons .str .nil)) .nil), fun (x : List ByteArray) => Z182 x, [], [(false, 1)], [(false, 1)], [true], []⟩
noncomputable abbrev Z182.E : V.Env := V.mkE V.tys [] [] [] [] [] []
theorem Z182.eq (x0 : List ByteArray) : V.evBody Z182.E Z182.con Tryz.f375 ((x0) : List ByteArray) = Z182 x0 := by kernel_rfl
theorem Z182.ok : V.Valid Tryz.prog 375 Z182.con :=
  V.fo V.tab_nil Tryz.func375 (by kernel_rfl) (fun x y h => (show V.evBody Z182.E Z182.con Tryz.f375 x = _ from Z182.eq x).trans (V.cfl (by kernel_rfl) h))
noncomputable abbrev Z123.con : V.Con := ⟨V.eEntry, V.eEntry, fun (x : ByteArray × Int × Int × List ByteArray) => Z123 x, [], [(true, 4)], [(true, 4)], [false, false, false, true], []⟩
noncomputable abbrev Z123.E : V.Env := V.mkE V.tys [(375, Z182.con)] [] [] [] [] []
theorem Z123.eq (x0 : TEntry) : V.evBody Z123.E Z123.con Tryz.f282 ((x0.1, x0.2.1, x0.2.2.1, x0.2.2.2) : ByteArray × Int × Int × List ByteArray) = Z123 x0 := by kernel_rfl
theorem Z123.ok : V.Valid Tryz.prog 282 Z123.con :=
  V.fo (V.tab_cons Z182.ok V.tab_nil) Tryz.func282 (by kernel_rfl) (fun x y h => (show V.evBody Z123.E Z123.con Tryz.f282 x = _ from Z123.eq x).trans (V.cfl (by kernel_rfl) h))
noncomputable abbrev Z46.con : V.Con := ⟨(.cons (.sl (.cons (.int .i64) .nil)) (.cons (.int .i64) .nil)), (.cons (.sl (.cons (.int .i64) .nil)) .nil), fun (x : List Int × Int) => Z46 x.1 x.2, [], [(false, 1), (false, 1)], [(false, 1)], [true], []⟩
noncomputable abbrev Z46.E : V.Env := V.mkE V.tys [(178, Z75.con), (408, Z28.con)] [(8, [0, 1, 5], [(0, (.cons (.int .i64) .nil), false), (64000051200320, (.cons (.int .i64) .nil), true)])] [] [] [] []
noncomputable abbrev Z46.kt (x0 : List Int) (x1 : Int) : V.Kt (List Int) := V.ktOf Z46.E Z46.con Tryz.f376 ((x0, x1) : List Int × Int)
noncomputable abbrev Z46.s8 (v8_0 : List Int) (v8_1 : Int) (v8_2 : List Int) : V.St := ⟨[(0, .v false [.val (.sl (.cons (.int .i64) .nil) v8_0)]), (1, .v false [.val (.int .i64 v8_1)]), (5, .v false [.ref 64000051200320])], [(64000051200320, .row (.cons (.int .i64) .nil) true v8_2)]⟩
theorem Z46.r8 (x0 : List Int) (x1 : Int) (R : V.St → Option (List Int)) (v8_0 : List Int) (v8_1 : Int) (v8_2 : List Int) : V.loopF Z46.E Tryz.f376.ntmps [1, 1, 1, 0, 0] [] (V.codeOf Tryz.f376) (Z46.kt x0 x1) R (Z46.s8 v8_0 v8_1 v8_2) = Z46.g8 (fun v8_0 v8_1 v8_2 => R (Z46.s8 v8_0 v8_1 v8_2)) v8_0 v8_1 v8_2 := by kernel_rfl
theorem Z46.e8 (x0 : List Int) (x1 : Int) : ∀ (n : Nat) (v8_0 : List Int) (v8_1 : Int) (v8_2 : List Int), V.loopN (V.loopF Z46.E Tryz.f376.ntmps [1, 1, 1, 0, 0] [] (V.codeOf Tryz.f376) (Z46.kt x0 x1)) n (Z46.s8 v8_0 v8_1 v8_2) = Z46.l8 n v8_0 v8_1 v8_2 := by
  intro n
  induction n with
  | zero => intros; rw [V.loopN_z]; rfl
  | succ n ih =>
    intro v8_0 v8_1 v8_2
    rw [V.loopN_s, Z46.r8]
    simp only [ih]
    first | exact (Z46.u8 ..).symm | rfl
theorem Z46.v (x0 : List Int) (x1 : Int) : V.evBody Z46.E Z46.con Tryz.f376 ((x0, x1) : List Int × Int) = Z46.b x0 x1 (fun v8_0 v8_1 v8_2 => V.loopN (V.loopF Z46.E Tryz.f376.ntmps [1, 1, 1, 0, 0] [] (V.codeOf Tryz.f376) (Z46.kt x0 x1)) V.KK (Z46.s8 v8_0 v8_1 v8_2)) := by kernel_rfl
theorem Z46.eq (x0 : List Int) (x1 : Int) : V.evBody Z46.E Z46.con Tryz.f376 ((x0, x1) : List Int × Int) = Z46 x0 x1 := by
  rw [Z46.v]
  simp only [Z46.e8]
  rfl
theorem Z46.ok : V.Valid Tryz.prog 376 Z46.con :=
  V.fo (V.tab_cons Z75.ok (V.tab_cons Z28.ok V.tab_nil)) Tryz.func376 (by kernel_rfl) (fun x y h => (show V.evBody Z46.E Z46.con Tryz.f376 x = _ from Z46.eq x.1 x.2).trans (V.cfl (by kernel_rfl) h))
noncomputable abbrev Z127.con : V.Con := ⟨(.cons (.sl V.eEntry) (.cons .str .nil)), (.cons (.int .i64) (.cons (.sl (.cons (.int .i64) .nil)) (.cons .bool .nil))), fun (x : List TEntry × ByteArray) => Z127 x.1 x.2, [], [(false, 1), (false, 1)], [(true, 2), (false, 1)], [false, true, false], []⟩
noncomputable abbrev Z127.E : V.Env := V.mkE V.tys [(281, Z122.con), (346, Z36.con), (376, Z46.con)] [] [] [] [] []
theorem Z127.eq (x0 : List TEntry) (x1 : ByteArray) : V.evBody Z127.E Z127.con Tryz.f283 ((x0, x1) : List TEntry × ByteArray) = Z127 x0 x1 := by kernel_rfl
theorem Z127.ok : V.Valid Tryz.prog 283 Z127.con :=
  V.fo (V.tab_cons Z122.ok (V.tab_cons Z36.ok (V.tab_cons Z46.ok V.tab_nil))) Tryz.func283 (by kernel_rfl) (fun x y h => (show V.evBody Z127.E Z127.con Tryz.f283 x = _ from Z127.eq x.1 x.2).trans (V.cfl (by kernel_rfl) h))
noncomputable abbrev Z53.con : V.Con := ⟨(.cons (.sl V.eEntry) (.cons .str .nil)), (.cons (.int .i64) .nil), fun (x : List TEntry × ByteArray) => Z53 x.1 x.2, [], [(false, 1), (false, 1)], [(false, 1)], [false], []⟩
noncomputable abbrev Z53.E : V.Env := V.mkE V.tys [(342, Z136.con)] [(6, [1, 5, 8, 9, 10], [])] [] [] [] []
noncomputable abbrev Z53.kt (x0 : List TEntry) (x1 : ByteArray) : V.Kt Int := V.ktOf Z53.E Z53.con Tryz.f377 ((x0, x1) : List TEntry × ByteArray)
noncomputable abbrev Z53.s6 (x0 : List TEntry) (x1 : ByteArray) (v6_1 : Int) (v6_3 : Int) (v6_4 : Int) : V.St := ⟨[(1, .v false [.val (.str x1)]), (5, .v false [.val (.int .i64 v6_1)]), (8, .v false [.val (.sl V.eEntry x0)]), (9, .v false [.val (.int .i64 v6_3)]), (10, .v false [.val (.int .i64 v6_4)])], []⟩
theorem Z53.r6 (x0 : List TEntry) (x1 : ByteArray) (R : V.St → Option Int) (v6_1 : Int) (v6_3 : Int) (v6_4 : Int) : V.loopF Z53.E Tryz.f377.ntmps [1, 1, 0, 1, 0] [] (V.codeOf Tryz.f377) (Z53.kt x0 x1) R (Z53.s6 x0 x1 v6_1 v6_3 v6_4) = Z53.g6 x0 x1 (fun v6_1 v6_3 v6_4 => R (Z53.s6 x0 x1 v6_1 v6_3 v6_4)) v6_1 v6_3 v6_4 := by kernel_rfl
theorem Z53.e6 (x0 : List TEntry) (x1 : ByteArray) : ∀ (n : Nat) (v6_1 : Int) (v6_3 : Int) (v6_4 : Int), V.loopN (V.loopF Z53.E Tryz.f377.ntmps [1, 1, 0, 1, 0] [] (V.codeOf Tryz.f377) (Z53.kt x0 x1)) n (Z53.s6 x0 x1 v6_1 v6_3 v6_4) = Z53.l6 x0 x1 n v6_1 v6_3 v6_4 := by
  intro n
  induction n with
  | zero => intros; rw [V.loopN_z]; rfl
  | succ n ih =>
    intro v6_1 v6_3 v6_4
    rw [V.loopN_s, Z53.r6]
    simp only [ih]
    first | exact (Z53.u6 ..).symm | rfl
theorem Z53.v (x0 : List TEntry) (x1 : ByteArray) : V.evBody Z53.E Z53.con Tryz.f377 ((x0, x1) : List TEntry × ByteArray) = Z53.b x0 x1 (fun v6_1 v6_3 v6_4 => V.loopN (V.loopF Z53.E Tryz.f377.ntmps [1, 1, 0, 1, 0] [] (V.codeOf Tryz.f377) (Z53.kt x0 x1)) V.KK (Z53.s6 x0 x1 v6_1 v6_3 v6_4)) := by kernel_rfl
theorem Z53.eq (x0 : List TEntry) (x1 : ByteArray) : V.evBody Z53.E Z53.con Tryz.f377 ((x0, x1) : List TEntry × ByteArray) = Z53 x0 x1 := by
  rw [Z53.v]
  simp only [Z53.e6]
  rfl
theorem Z53.ok : V.Valid Tryz.prog 377 Z53.con :=
  V.fo (V.tab_cons Z136.ok V.tab_nil) Tryz.func377 (by kernel_rfl) (fun x y h => (show V.evBody Z53.E Z53.con Tryz.f377 x = _ from Z53.eq x.1 x.2).trans (V.cfl (by kernel_rfl) h))
noncomputable abbrev Z10.con : V.Con := ⟨(.cons (.sl V.eEntry) (.cons .str .nil)), V.eRGapBool, fun (x : List TEntry × ByteArray) => Z10 x.1 x.2, [], [(false, 1), (false, 1)], [(true, 13), (false, 1)], [false, false, false, false, true, false, false, false, true, false, true, false, true, false], []⟩
noncomputable abbrev Z10.E : V.Env := V.mkE V.tys [(220, Z20.con), (280, Z14.con), (281, Z122.con), (282, Z123.con), (283, Z127.con), (377, Z53.con)] [(5, [0, 1, 4, 20], []), (15, [0, 4, 6], [(64000000000016400388, (.cons .str .nil), true), (64000000000016400394, (.cons (.int .i64) .nil), true)])] [] [] [] []
noncomputable abbrev Z10.kt (x0 : List TEntry) (x1 : ByteArray) : V.Kt TRGapBool := V.ktOf Z10.E Z10.con Tryz.f284 ((x0, x1) : List TEntry × ByteArray)
noncomputable abbrev Z10.s15 (x0 : List TEntry) (y2 : Int) (v15_11 : ByteArray) (v15_12 : Int) (v15_13 : Int) (v15_17 : Int) (v15_19 : List ByteArray) (v15_20 : List Int) : V.St := ⟨[(0, .v false [.val (.sl V.eEntry x0)]), (4, .v false [.ptr 64000 0]), (6, .v false [.ptr 256256 0])], [(64000, .box [.val (.int .i64 (0 : Int)), .val (.str (⟨#[]⟩ : ByteArray)), .val (.int .i64 (0 : Int)), .val (.int .i64 (0 : Int)), .nil0, .val (.str (⟨#[]⟩ : ByteArray)), .val (.int .i64 (0 : Int)), .val (.int .i64 (0 : Int)), .nil0, .val (.int .i64 (0 : Int)), .nil0, .val (.int .i64 (0 : Int)), .nil0]), (256256, .box [.val (.int .i64 y2), .val (.str v15_11), .val (.int .i64 v15_12), .val (.int .i64 v15_13), .ref 64000000000016400388, .val (.str (⟨#[]⟩ : ByteArray)), .val (.int .i64 (0 : Int)), .val (.int .i64 (0 : Int)), .nil0, .val (.int .i64 v15_17), .ref 64000000000016400394, .val (.int .i64 (0 : Int)), .nil0]), (64000000000016400388, .row (.cons .str .nil) true v15_19), (64000000000016400394, .row (.cons (.int .i64) .nil) true v15_20)]⟩
noncomputable abbrev Z10.s5 (x0 : List TEntry) (x1 : ByteArray) (v5_2 : Bool) : V.St := ⟨[(0, .v false [.val (.sl V.eEntry x0)]), (1, .v false [.val (.str x1)]), (4, .v false [.ptr 64000 0]), (20, .v false [.val (.bool v5_2)])], [(64000, .box [.val (.int .i64 (0 : Int)), .val (.str (⟨#[]⟩ : ByteArray)), .val (.int .i64 (0 : Int)), .val (.int .i64 (0 : Int)), .nil0, .val (.str (⟨#[]⟩ : ByteArray)), .val (.int .i64 (0 : Int)), .val (.int .i64 (0 : Int)), .nil0, .val (.int .i64 (0 : Int)), .nil0, .val (.int .i64 (0 : Int)), .nil0])]⟩
theorem Z10.r15 (x0 : List TEntry) (x1 : ByteArray) (y2 : Int) (v15_11 : ByteArray) (v15_12 : Int) (v15_13 : Int) (v15_17 : Int) (v15_19 : List ByteArray) (v15_20 : List Int) : V.joinF Z10.E Tryz.f284.ntmps [1, 1, 1] [] (V.codeOf Tryz.f284) (Z10.kt x0 x1) (Z10.s15 x0 y2 v15_11 v15_12 v15_13 v15_17 v15_19 v15_20) = Z10.g15 x0 y2 v15_11 v15_12 v15_13 v15_17 v15_19 v15_20 := by kernel_rfl
theorem Z10.e15 (x0 : List TEntry) (x1 : ByteArray) (y2 : Int) (v15_11 : ByteArray) (v15_12 : Int) (v15_13 : Int) (v15_17 : Int) (v15_19 : List ByteArray) (v15_20 : List Int) : V.jn (V.joinF Z10.E Tryz.f284.ntmps [1, 1, 1] [] (V.codeOf Tryz.f284) (Z10.kt x0 x1)) (Z10.s15 x0 y2 v15_11 v15_12 v15_13 v15_17 v15_19 v15_20) = Z10.l15 x0 y2 v15_11 v15_12 v15_13 v15_17 v15_19 v15_20 := by
  rw [V.jn_eq, Z10.r15]
  rfl
theorem Z10.r5 (x0 : List TEntry) (x1 : ByteArray) (v5_2 : Bool) : V.joinF Z10.E Tryz.f284.ntmps [1, 0] [] (V.codeOf Tryz.f284) (Z10.kt x0 x1) (Z10.s5 x0 x1 v5_2) = Z10.g5 x0 x1 (fun y2 v15_11 v15_12 v15_13 v15_17 v15_19 v15_20 => V.jn (V.joinF Z10.E Tryz.f284.ntmps [1, 1, 1] [] (V.codeOf Tryz.f284) (Z10.kt x0 x1)) (Z10.s15 x0 y2 v15_11 v15_12 v15_13 v15_17 v15_19 v15_20)) v5_2 := by kernel_rfl
theorem Z10.e5 (x0 : List TEntry) (x1 : ByteArray) (v5_2 : Bool) : V.jn (V.joinF Z10.E Tryz.f284.ntmps [1, 0] [] (V.codeOf Tryz.f284) (Z10.kt x0 x1)) (Z10.s5 x0 x1 v5_2) = Z10.l5 x0 x1 v5_2 := by
  rw [V.jn_eq, Z10.r5]
  simp only [Z10.e15]
  rfl
theorem Z10.v (x0 : List TEntry) (x1 : ByteArray) : V.evBody Z10.E Z10.con Tryz.f284 ((x0, x1) : List TEntry × ByteArray) = Z10.b x0 x1 (fun v5_2 => V.jn (V.joinF Z10.E Tryz.f284.ntmps [1, 0] [] (V.codeOf Tryz.f284) (Z10.kt x0 x1)) (Z10.s5 x0 x1 v5_2)) := by kernel_rfl
theorem Z10.eq (x0 : List TEntry) (x1 : ByteArray) : V.evBody Z10.E Z10.con Tryz.f284 ((x0, x1) : List TEntry × ByteArray) = Z10 x0 x1 := by
  rw [Z10.v]
  simp only [Z10.e5]
  rfl
theorem Z10.ok : V.Valid Tryz.prog 284 Z10.con :=
  V.fo (V.tab_cons Z20.ok (V.tab_cons Z14.ok (V.tab_cons Z122.ok (V.tab_cons Z123.ok (V.tab_cons Z127.ok (V.tab_cons Z53.ok V.tab_nil)))))) Tryz.func284 (by kernel_rfl) (fun x y h => (show V.evBody Z10.E Z10.con Tryz.f284 x = _ from Z10.eq x.1 x.2).trans (V.cfl (by kernel_rfl) h))
noncomputable abbrev Z79.con : V.Con := ⟨(.cons (.sl V.eSigned) (.cons (.sl V.eEntry) (.cons .str .nil))), V.eAnswer, fun (x : List TSigned × List TEntry × ByteArray) => Z79 (x.1, x.2.1) x.2.2, [], [(true, 2), (false, 1)], [(true, 21)], [true, false, false, false, false, true, false, true, false, false, false, false, true, false, false, false, true, false, true, false, true], []⟩
noncomputable abbrev Z79.E : V.Env := V.mkE V.tys [(98, Z137.con), (171, Z54.con), (280, Z14.con), (281, Z122.con), (282, Z123.con), (283, Z127.con), (284, Z10.con)] [(7, [1, 2, 4], [])] [] [] [] []
noncomputable abbrev Z79.kt (x0 : TZone) (x1 : ByteArray) : V.Kt TAnswer := V.ktOf Z79.E Z79.con Tryz.f133 ((x0.1, x0.2, x1) : List TSigned × List TEntry × ByteArray)
noncomputable abbrev Z79.s7 (x0 : TZone) (x1 : ByteArray) : V.St := ⟨[(1, .v false [.val (.str x1)]), (2, .v false [.ptr 64000 0]), (4, .v false [.ptr 64064 0])], [(64000, .box [.val (.sl V.eSigned x0.1), .val (.sl V.eEntry x0.2)]), (64064, .box [.nil0, .val (.bool false), .val (.str (⟨#[]⟩ : ByteArray)), .val (.int .i64 (0 : Int)), .val (.int .i64 (0 : Int)), .nil0, .val (.int .i64 (0 : Int)), .nil0, .val (.int .i64 (0 : Int)), .val (.str (⟨#[]⟩ : ByteArray)), .val (.int .i64 (0 : Int)), .val (.int .i64 (0 : Int)), .nil0, .val (.str (⟨#[]⟩ : ByteArray)), .val (.int .i64 (0 : Int)), .val (.int .i64 (0 : Int)), .nil0, .val (.int .i64 (0 : Int)), .nil0, .val (.int .i64 (0 : Int)), .nil0])]⟩
theorem Z79.r7 (x0 : TZone) (x1 : ByteArray) : V.joinF Z79.E Tryz.f133.ntmps [1] [] (V.codeOf Tryz.f133) (Z79.kt x0 x1) (Z79.s7 x0 x1) = Z79.g7 x0 x1 := by kernel_rfl
theorem Z79.e7 (x0 : TZone) (x1 : ByteArray) : V.jn (V.joinF Z79.E Tryz.f133.ntmps [1] [] (V.codeOf Tryz.f133) (Z79.kt x0 x1)) (Z79.s7 x0 x1) = Z79.l7 x0 x1 := by
  rw [V.jn_eq, Z79.r7]
  rfl
theorem Z79.v (x0 : TZone) (x1 : ByteArray) : V.evBody Z79.E Z79.con Tryz.f133 ((x0.1, x0.2, x1) : List TSigned × List TEntry × ByteArray) = Z79.b x0 x1 (V.jn (V.joinF Z79.E Tryz.f133.ntmps [1] [] (V.codeOf Tryz.f133) (Z79.kt x0 x1)) (Z79.s7 x0 x1)) := by kernel_rfl
theorem Z79.eq (x0 : TZone) (x1 : ByteArray) : V.evBody Z79.E Z79.con Tryz.f133 ((x0.1, x0.2, x1) : List TSigned × List TEntry × ByteArray) = Z79 x0 x1 := by
  rw [Z79.v]
  simp only [Z79.e7]
  rfl
theorem Z79.ok : V.Valid Tryz.prog 133 Z79.con :=
  V.fo (V.tab_cons Z137.ok (V.tab_cons Z54.ok (V.tab_cons Z14.ok (V.tab_cons Z122.ok (V.tab_cons Z123.ok (V.tab_cons Z127.ok (V.tab_cons Z10.ok V.tab_nil))))))) Tryz.func133 (by kernel_rfl) (fun x y h => (show V.evBody Z79.E Z79.con Tryz.f133 x = _ from Z79.eq (x.1, x.2.1) x.2.2).trans (V.cfl (by kernel_rfl) h))
noncomputable abbrev Z76.con : V.Con := ⟨(.cons (.sl (.cons (.sl V.eSigned) (.cons (.sl V.eEntry) .nil))) (.cons (.int .i64) (.cons (.int .i64) (.cons .str .nil)))), V.eAnswer, fun (x : List TZone × Int × Int × ByteArray) => Z76 (x.1, x.2.1) x.2.2.1 x.2.2.2, [], [(true, 2), (false, 1), (false, 1)], [(true, 21)], [true, false, false, false, false, true, false, true, false, false, false, false, true, false, false, false, true, false, true, false, true], []⟩
noncomputable abbrev Z76.E : V.Env := V.mkE V.tys [(133, Z79.con), (148, Z169.con)] [(9, [2, 3, 6, 7], [])] [] [] [] []
noncomputable abbrev Z76.kt (x0 : TServer) (x1 : Int) (x2 : ByteArray) : V.Kt TAnswer := V.ktOf Z76.E Z76.con Tryz.f18 ((x0.1, x0.2, x1, x2) : List TZone × Int × Int × ByteArray)
noncomputable abbrev Z76.s9 (x0 : TServer) (x2 : ByteArray) (y1 : Int) : V.St := ⟨[(2, .v false [.val (.str x2)]), (3, .v false [.ptr 64000 0]), (6, .v false [.ptr 64064 0]), (7, .v false [.val (.int .i64 y1)])], [(64000, .box [.val (.sl (.cons (.sl V.eSigned) (.cons (.sl V.eEntry) .nil)) x0.1), .val (.int .i64 x0.2)]), (64064, .box [.nil0, .val (.bool false), .val (.str (⟨#[]⟩ : ByteArray)), .val (.int .i64 (0 : Int)), .val (.int .i64 (0 : Int)), .nil0, .val (.int .i64 (0 : Int)), .nil0, .val (.int .i64 (0 : Int)), .val (.str (⟨#[]⟩ : ByteArray)), .val (.int .i64 (0 : Int)), .val (.int .i64 (0 : Int)), .nil0, .val (.str (⟨#[]⟩ : ByteArray)), .val (.int .i64 (0 : Int)), .val (.int .i64 (0 : Int)), .nil0, .val (.int .i64 (0 : Int)), .nil0, .val (.int .i64 (0 : Int)), .nil0])]⟩
theorem Z76.r9 (x0 : TServer) (x1 : Int) (x2 : ByteArray) (y1 : Int) : V.joinF Z76.E Tryz.f18.ntmps [1, 1] [] (V.codeOf Tryz.f18) (Z76.kt x0 x1 x2) (Z76.s9 x0 x2 y1) = Z76.g9 x0 x2 y1 := by kernel_rfl
theorem Z76.e9 (x0 : TServer) (x1 : Int) (x2 : ByteArray) (y1 : Int) : V.jn (V.joinF Z76.E Tryz.f18.ntmps [1, 1] [] (V.codeOf Tryz.f18) (Z76.kt x0 x1 x2)) (Z76.s9 x0 x2 y1) = Z76.l9 x0 x2 y1 := by
  rw [V.jn_eq, Z76.r9]
  rfl
theorem Z76.v (x0 : TServer) (x1 : Int) (x2 : ByteArray) : V.evBody Z76.E Z76.con Tryz.f18 ((x0.1, x0.2, x1, x2) : List TZone × Int × Int × ByteArray) = Z76.b x0 x1 x2 (fun y1 => V.jn (V.joinF Z76.E Tryz.f18.ntmps [1, 1] [] (V.codeOf Tryz.f18) (Z76.kt x0 x1 x2)) (Z76.s9 x0 x2 y1)) := by kernel_rfl
theorem Z76.eq (x0 : TServer) (x1 : Int) (x2 : ByteArray) : V.evBody Z76.E Z76.con Tryz.f18 ((x0.1, x0.2, x1, x2) : List TZone × Int × Int × ByteArray) = Z76 x0 x1 x2 := by
  rw [Z76.v]
  simp only [Z76.e9]
  rfl
theorem Z76.ok : V.Valid Tryz.prog 18 Z76.con :=
  V.fo (V.tab_cons Z79.ok (V.tab_cons Z169.ok V.tab_nil)) Tryz.func18 (by kernel_rfl) (fun x y h => (show V.evBody Z76.E Z76.con Tryz.f18 x = _ from Z76.eq (x.1, x.2.1) x.2.2.1 x.2.2.2).trans (V.cfl (by kernel_rfl) h))
noncomputable abbrev Z38.con : V.Con := ⟨(.cons (.sl (.cons (.int .i64) .nil)) (.cons (.sl (.cons (.int .i64) .nil)) .nil)), (.cons .bool .nil), fun (x : List Int × List Int) => Z38 x.1 x.2, [], [(false, 1), (false, 1)], [(false, 1)], [false], []⟩
noncomputable abbrev Z38.E : V.Env := V.mkE V.tys [] [(8, [0, 1, 5], [])] [(6, 8)] [] [] []
noncomputable abbrev Z38.kt (x0 : List Int) (x1 : List Int) : V.Kt Bool := V.ktOf Z38.E Z38.con Tryz.f89 ((x0, x1) : List Int × List Int)
noncomputable abbrev Z38.s8 (x0 : List Int) (x1 : List Int) (v8_2 : Int) : V.St := ⟨[(0, .v false [.val (.sl (.cons (.int .i64) .nil) x0)]), (1, .v false [.val (.sl (.cons (.int .i64) .nil) x1)]), (5, .v false [.val (.int .i64 v8_2)])], []⟩
theorem Z38.r8 (x0 : List Int) (x1 : List Int) (R : V.St → Option Bool) (v8_2 : Int) : V.loopF Z38.E Tryz.f89.ntmps [1, 1, 0, 1, 0] [] (V.codeOf Tryz.f89) (Z38.kt x0 x1) R (Z38.s8 x0 x1 v8_2) = Z38.g8 x0 x1 (fun v8_2 => R (Z38.s8 x0 x1 v8_2)) v8_2 := by kernel_rfl
theorem Z38.e8 (x0 : List Int) (x1 : List Int) : ∀ (n : Nat) (v8_2 : Int), V.loopN (V.loopF Z38.E Tryz.f89.ntmps [1, 1, 0, 1, 0] [] (V.codeOf Tryz.f89) (Z38.kt x0 x1)) n (Z38.s8 x0 x1 v8_2) = Z38.l8 x0 x1 n v8_2 := by
  intro n
  induction n with
  | zero => intros; rw [V.loopN_z]; rfl
  | succ n ih =>
    intro v8_2
    rw [V.loopN_s, Z38.r8]
    simp only [ih]
    first | exact (Z38.u8 ..).symm | rfl
theorem Z38.v (x0 : List Int) (x1 : List Int) : V.evBody Z38.E Z38.con Tryz.f89 ((x0, x1) : List Int × List Int) = Z38.b x0 x1 (fun v8_2 => V.loopN (V.loopF Z38.E Tryz.f89.ntmps [1, 1, 0, 1, 0] [] (V.codeOf Tryz.f89) (Z38.kt x0 x1)) V.KK (Z38.s8 x0 x1 v8_2)) := by kernel_rfl
theorem Z38.eq (x0 : List Int) (x1 : List Int) : V.evBody Z38.E Z38.con Tryz.f89 ((x0, x1) : List Int × List Int) = Z38 x0 x1 := by
  rw [Z38.v]
  simp only [Z38.e8]
  rfl
theorem Z38.ok : V.Valid Tryz.prog 89 Z38.con :=
  V.fo V.tab_nil Tryz.func89 (by kernel_rfl) (fun x y h => (show V.evBody Z38.E Z38.con Tryz.f89 x = _ from Z38.eq x.1 x.2).trans (V.cfl (by kernel_rfl) h))
noncomputable abbrev Z146.con : V.Con := ⟨(.cons (.sl (.cons (.int .i64) .nil)) (.cons (.int .i64) (.cons (.sl (.cons (.int .i64) .nil)) (.cons (.int .i64) .nil)))), (.cons .bool .nil), fun (x : List Int × Int × List Int × Int) => Z146 (x.1, x.2.1) x.2.2, [], [(true, 2), (true, 2)], [(false, 1)], [false], []⟩
noncomputable abbrev Z146.E : V.Env := V.mkE V.tys [(89, Z38.con)] [] [] [] [] []
theorem Z146.eq (x0 : TKeys) (x1 : TKeys) : V.evBody Z146.E Z146.con Tryz.f416 ((x0.1, x0.2, x1.1, x1.2) : List Int × Int × List Int × Int) = Z146 x0 x1 := by kernel_rfl
theorem Z146.ok : V.Valid Tryz.prog 416 Z146.con :=
  V.fo (V.tab_cons Z38.ok V.tab_nil) Tryz.func416 (by kernel_rfl) (fun x y h => (show V.evBody Z146.E Z146.con Tryz.f416 x = _ from Z146.eq (x.1, x.2.1) x.2.2).trans (V.cfl (by kernel_rfl) h))
noncomputable abbrev Z103.con : V.Con := ⟨V.A4, (.cons .bool .nil), fun (x : V.D4) => Z103 (V.p4_0 x) (V.p4_1 x), [], [(true, 16), (true, 16)], [(false, 1)], [false], []⟩
noncomputable abbrev Z103.E : V.Env := V.mkE V.tys [(416, Z146.con)] [] [] [] [] []
noncomputable abbrev Z103.kt (x0 : THead) (x1 : THead) : V.Kt Bool := V.ktOf Z103.E Z103.con Tryz.f359 (V.fl4 x0 x1)
noncomputable abbrev Z103.s (x0 : THead) (x1 : THead) : V.St := ⟨[(0, .v true (V.lsHead x0)), (1, .v true (V.lsHead x1))], []⟩
theorem Z103.v0 (x0 : THead) (x1 : THead) : V.evBody Z103.E Z103.con Tryz.f359 (V.fl4 x0 x1) = V.evC Z103.E Tryz.f359.ntmps (V.codeOf Tryz.f359) (Z103.kt x0 x1) (Z103.s x0 x1) := by kernel_rfl
theorem Z103.v (x0 : THead) (x1 : THead) : V.evC Z103.E Tryz.f359.ntmps (V.codeOf Tryz.f359) (Z103.kt x0 x1) (Z103.s x0 x1) = Z103 x0 x1 := by kernel_rfl
theorem Z103.eq (x0 : THead) (x1 : THead) : V.evBody Z103.E Z103.con Tryz.f359 (V.fl4 x0 x1) = Z103 x0 x1 := (Z103.v0 x0 x1).trans (Z103.v x0 x1)
theorem Z103.ok : V.Valid Tryz.prog 359 Z103.con :=
  V.fo (V.tab_cons Z146.ok V.tab_nil) Tryz.func359 (by kernel_rfl) (fun x y h => (show V.evBody Z103.E Z103.con Tryz.f359 x = _ from Z103.eq (V.p4_0 x) (V.p4_1 x)).trans (V.cfl (by kernel_rfl) h))
noncomputable abbrev Z153.con : V.Con := ⟨(.cons (.int .i64) (.cons (.int .i64) (.cons (.int .i64) (.cons (.int .i64) .nil)))), (.cons .bool .nil), fun (x : Int × Int × Int × Int) => Z153 (x.1, x.2.1) x.2.2, [], [(true, 2), (true, 2)], [(false, 1)], [false], []⟩
noncomputable abbrev Z153.E : V.Env := V.mkE V.tys [] [] [] [] [] []
theorem Z153.eq (x0 : TSig) (x1 : TSig) : V.evBody Z153.E Z153.con Tryz.f417 ((x0.1, x0.2, x1.1, x1.2) : Int × Int × Int × Int) = Z153 x0 x1 := by kernel_rfl
theorem Z153.ok : V.Valid Tryz.prog 417 Z153.con :=
  V.fo V.tab_nil Tryz.func417 (by kernel_rfl) (fun x y h => (show V.evBody Z153.E Z153.con Tryz.f417 x = _ from Z153.eq (x.1, x.2.1) x.2.2).trans (V.cfl (by kernel_rfl) h))
noncomputable abbrev Z56.con : V.Con := ⟨(.cons (.sl (.cons (.int .i64) (.cons (.int .i64) .nil))) (.cons (.sl (.cons (.int .i64) (.cons (.int .i64) .nil))) .nil)), (.cons .bool .nil), fun (x : List TSig × List TSig) => Z56 x.1 x.2, [], [(false, 1), (false, 1)], [(false, 1)], [false], []⟩
noncomputable abbrev Z56.E : V.Env := V.mkE V.tys [(417, Z153.con)] [(8, [0, 1, 5], [])] [(6, 8)] [] [] []
noncomputable abbrev Z56.kt (x0 : List TSig) (x1 : List TSig) : V.Kt Bool := V.ktOf Z56.E Z56.con Tryz.f360 ((x0, x1) : List TSig × List TSig)
noncomputable abbrev Z56.s8 (x0 : List TSig) (x1 : List TSig) (v8_2 : Int) : V.St := ⟨[(0, .v false [.val (.sl (.cons (.int .i64) (.cons (.int .i64) .nil)) x0)]), (1, .v false [.val (.sl (.cons (.int .i64) (.cons (.int .i64) .nil)) x1)]), (5, .v false [.val (.int .i64 v8_2)])], []⟩
theorem Z56.r8 (x0 : List TSig) (x1 : List TSig) (R : V.St → Option Bool) (v8_2 : Int) : V.loopF Z56.E Tryz.f360.ntmps [1, 1, 0, 1, 0] [] (V.codeOf Tryz.f360) (Z56.kt x0 x1) R (Z56.s8 x0 x1 v8_2) = Z56.g8 x0 x1 (fun v8_2 => R (Z56.s8 x0 x1 v8_2)) v8_2 := by kernel_rfl
theorem Z56.e8 (x0 : List TSig) (x1 : List TSig) : ∀ (n : Nat) (v8_2 : Int), V.loopN (V.loopF Z56.E Tryz.f360.ntmps [1, 1, 0, 1, 0] [] (V.codeOf Tryz.f360) (Z56.kt x0 x1)) n (Z56.s8 x0 x1 v8_2) = Z56.l8 x0 x1 n v8_2 := by
  intro n
  induction n with
  | zero => intros; rw [V.loopN_z]; rfl
  | succ n ih =>
    intro v8_2
    rw [V.loopN_s, Z56.r8]
    simp only [ih]
    first | exact (Z56.u8 ..).symm | rfl
theorem Z56.v (x0 : List TSig) (x1 : List TSig) : V.evBody Z56.E Z56.con Tryz.f360 ((x0, x1) : List TSig × List TSig) = Z56.b x0 x1 (fun v8_2 => V.loopN (V.loopF Z56.E Tryz.f360.ntmps [1, 1, 0, 1, 0] [] (V.codeOf Tryz.f360) (Z56.kt x0 x1)) V.KK (Z56.s8 x0 x1 v8_2)) := by kernel_rfl
theorem Z56.eq (x0 : List TSig) (x1 : List TSig) : V.evBody Z56.E Z56.con Tryz.f360 ((x0, x1) : List TSig × List TSig) = Z56 x0 x1 := by
  rw [Z56.v]
  simp only [Z56.e8]
  rfl
theorem Z56.ok : V.Valid Tryz.prog 360 Z56.con :=
  V.fo (V.tab_cons Z153.ok V.tab_nil) Tryz.func360 (by kernel_rfl) (fun x y h => (show V.evBody Z56.E Z56.con Tryz.f360 x = _ from Z56.eq x.1 x.2).trans (V.cfl (by kernel_rfl) h))
noncomputable abbrev Z91.con : V.Con := ⟨V.A7, (.cons .bool .nil), fun (x : V.D7) => Z91 (V.p7_0 x) (V.p7_1 x), [], [(true, 17), (true, 17)], [(false, 1)], [false], []⟩
noncomputable abbrev Z91.E : V.Env := V.mkE V.tys [(359, Z103.con), (360, Z56.con)] [] [] [] [] []
noncomputable abbrev Z91.kt (x0 : TSigned) (x1 : TSigned) : V.Kt Bool := V.ktOf Z91.E Z91.con Tryz.f246 (V.fl7 x0 x1)
noncomputable abbrev Z91.s (x0 : TSigned) (x1 : TSigned) : V.St := ⟨[(0, .v true (V.lsSigned x0)), (1, .v true (V.lsSigned x1))], []⟩
theorem Z91.v0 (x0 : TSigned) (x1 : TSigned) : V.evBody Z91.E Z91.con Tryz.f246 (V.fl7 x0 x1) = V.evC Z91.E Tryz.f246.ntmps (V.codeOf Tryz.f246) (Z91.kt x0 x1) (Z91.s x0 x1) := by kernel_rfl
theorem Z91.v (x0 : TSigned) (x1 : TSigned) : V.evC Z91.E Tryz.f246.ntmps (V.codeOf Tryz.f246) (Z91.kt x0 x1) (Z91.s x0 x1) = Z91 x0 x1 := by kernel_rfl
theorem Z91.eq (x0 : TSigned) (x1 : TSigned) : V.evBody Z91.E Z91.con Tryz.f246 (V.fl7 x0 x1) = Z91 x0 x1 := (Z91.v0 x0 x1).trans (Z91.v x0 x1)
theorem Z91.ok : V.Valid Tryz.prog 246 Z91.con :=
  V.fo (V.tab_cons Z103.ok (V.tab_cons Z56.ok V.tab_nil)) Tryz.func246 (by kernel_rfl) (fun x y h => (show V.evBody Z91.E Z91.con Tryz.f246 x = _ from Z91.eq (V.p7_0 x) (V.p7_1 x)).trans (V.cfl (by kernel_rfl) h))
noncomputable abbrev Z39.con : V.Con := ⟨(.cons (.sl V.eSigned) (.cons (.sl V.eSigned) .nil)), (.cons .bool .nil), fun (x : List TSigned × List TSigned) => Z39 x.1 x.2, [], [(false, 1), (false, 1)], [(false, 1)], [false], []⟩
noncomputable abbrev Z39.E : V.Env := V.mkE V.tys [(246, Z91.con)] [(8, [0, 1, 5], [])] [(6, 8)] [] [] []
noncomputable abbrev Z39.kt (x0 : List TSigned) (x1 : List TSigned) : V.Kt Bool := V.ktOf Z39.E Z39.con Tryz.f149 ((x0, x1) : List TSigned × List TSigned)
noncomputable abbrev Z39.s8 (x0 : List TSigned) (x1 : List TSigned) (v8_2 : Int) : V.St := ⟨[(0, .v false [.val (.sl V.eSigned x0)]), (1, .v false [.val (.sl V.eSigned x1)]), (5, .v false [.val (.int .i64 v8_2)])], []⟩
theorem Z39.r8 (x0 : List TSigned) (x1 : List TSigned) (R : V.St → Option Bool) (v8_2 : Int) : V.loopF Z39.E Tryz.f149.ntmps [1, 1, 0, 1, 0] [] (V.codeOf Tryz.f149) (Z39.kt x0 x1) R (Z39.s8 x0 x1 v8_2) = Z39.g8 x0 x1 (fun v8_2 => R (Z39.s8 x0 x1 v8_2)) v8_2 := by kernel_rfl
theorem Z39.e8 (x0 : List TSigned) (x1 : List TSigned) : ∀ (n : Nat) (v8_2 : Int), V.loopN (V.loopF Z39.E Tryz.f149.ntmps [1, 1, 0, 1, 0] [] (V.codeOf Tryz.f149) (Z39.kt x0 x1)) n (Z39.s8 x0 x1 v8_2) = Z39.l8 x0 x1 n v8_2 := by
  intro n
  induction n with
  | zero => intros; rw [V.loopN_z]; rfl
  | succ n ih =>
    intro v8_2
    rw [V.loopN_s, Z39.r8]
    simp only [ih]
    first | exact (Z39.u8 ..).symm | rfl
theorem Z39.v (x0 : List TSigned) (x1 : List TSigned) : V.evBody Z39.E Z39.con Tryz.f149 ((x0, x1) : List TSigned × List TSigned) = Z39.b x0 x1 (fun v8_2 => V.loopN (V.loopF Z39.E Tryz.f149.ntmps [1, 1, 0, 1, 0] [] (V.codeOf Tryz.f149) (Z39.kt x0 x1)) V.KK (Z39.s8 x0 x1 v8_2)) := by kernel_rfl
theorem Z39.eq (x0 : List TSigned) (x1 : List TSigned) : V.evBody Z39.E Z39.con Tryz.f149 ((x0, x1) : List TSigned × List TSigned) = Z39 x0 x1 := by
  rw [Z39.v]
  simp only [Z39.e8]
  rfl
theorem Z39.ok : V.Valid Tryz.prog 149 Z39.con :=
  V.fo (V.tab_cons Z91.ok V.tab_nil) Tryz.func149 (by kernel_rfl) (fun x y h => (show V.evBody Z39.E Z39.con Tryz.f149 x = _ from Z39.eq x.1 x.2).trans (V.cfl (by kernel_rfl) h))
noncomputable abbrev Z49.con : V.Con := ⟨(.cons (.sl (.cons .str .nil)) (.cons (.sl (.cons .str .nil)) .nil)), (.cons .bool .nil), fun (x : List ByteArray × List ByteArray) => Z49 x.1 x.2, [], [(false, 1), (false, 1)], [(false, 1)], [false], []⟩
noncomputable abbrev Z49.E : V.Env := V.mkE V.tys [] [(8, [0, 1, 5], [])] [(6, 8)] [] [] []
noncomputable abbrev Z49.kt (x0 : List ByteArray) (x1 : List ByteArray) : V.Kt Bool := V.ktOf Z49.E Z49.con Tryz.f299 ((x0, x1) : List ByteArray × List ByteArray)
noncomputable abbrev Z49.s8 (x0 : List ByteArray) (x1 : List ByteArray) (v8_2 : Int) : V.St := ⟨[(0, .v false [.val (.sl (.cons .str .nil) x0)]), (1, .v false [.val (.sl (.cons .str .nil) x1)]), (5, .v false [.val (.int .i64 v8_2)])], []⟩
theorem Z49.r8 (x0 : List ByteArray) (x1 : List ByteArray) (R : V.St → Option Bool) (v8_2 : Int) : V.loopF Z49.E Tryz.f299.ntmps [1, 1, 0, 1, 0] [] (V.codeOf Tryz.f299) (Z49.kt x0 x1) R (Z49.s8 x0 x1 v8_2) = Z49.g8 x0 x1 (fun v8_2 => R (Z49.s8 x0 x1 v8_2)) v8_2 := by kernel_rfl
theorem Z49.e8 (x0 : List ByteArray) (x1 : List ByteArray) : ∀ (n : Nat) (v8_2 : Int), V.loopN (V.loopF Z49.E Tryz.f299.ntmps [1, 1, 0, 1, 0] [] (V.codeOf Tryz.f299) (Z49.kt x0 x1)) n (Z49.s8 x0 x1 v8_2) = Z49.l8 x0 x1 n v8_2 := by
  intro n
  induction n with
  | zero => intros; rw [V.loopN_z]; rfl
  | succ n ih =>
    intro v8_2
    rw [V.loopN_s, Z49.r8]
    simp only [ih]
    first | exact (Z49.u8 ..).symm | rfl
theorem Z49.v (x0 : List ByteArray) (x1 : List ByteArray) : V.evBody Z49.E Z49.con Tryz.f299 ((x0, x1) : List ByteArray × List ByteArray) = Z49.b x0 x1 (fun v8_2 => V.loopN (V.loopF Z49.E Tryz.f299.ntmps [1, 1, 0, 1, 0] [] (V.codeOf Tryz.f299) (Z49.kt x0 x1)) V.KK (Z49.s8 x0 x1 v8_2)) := by kernel_rfl
theorem Z49.eq (x0 : List ByteArray) (x1 : List ByteArray) : V.evBody Z49.E Z49.con Tryz.f299 ((x0, x1) : List ByteArray × List ByteArray) = Z49 x0 x1 := by
  rw [Z49.v]
  simp only [Z49.e8]
  rfl
theorem Z49.ok : V.Valid Tryz.prog 299 Z49.con :=
  V.fo V.tab_nil Tryz.func299 (by kernel_rfl) (fun x y h => (show V.evBody Z49.E Z49.con Tryz.f299 x = _ from Z49.eq x.1 x.2).trans (V.cfl (by kernel_rfl) h))
noncomputable abbrev Z116.con : V.Con := ⟨(.cons .str (.cons (.int .i64) (.cons (.int .i64) (.cons (.sl (.cons .str .nil)) (.cons .str (.cons (.int .i64) (.cons (.int .i64) (.cons (.sl (.cons .str .nil)) .nil)))))))), (.cons .bool .nil), fun (x : ByteArray × Int × Int × List ByteArray × ByteArray × Int × Int × List ByteArray) => Z116 (x.1, x.2.1, x.2.2.1, x.2.2.2.1) x.2.2.2.2, [], [(true, 4), (true, 4)], [(false, 1)], [false], []⟩
noncomputable abbrev Z116.E : V.Env := V.mkE V.tys [(299, Z49.con)] [] [] [] [] []
theorem Z116.eq (x0 : TEntry) (x1 : TEntry) : V.evBody Z116.E Z116.con Tryz.f150 ((x0.1, x0.2.1, x0.2.2.1, x0.2.2.2, x1.1, x1.2.1, x1.2.2.1, x1.2.2.2) : ByteArray × Int × Int × List ByteArray × ByteArray × Int × Int × List ByteArray) = Z116 x0 x1 := by kernel_rfl
theorem Z116.ok : V.Valid Tryz.prog 150 Z116.con :=
  V.fo (V.tab_cons Z49.ok V.tab_nil) Tryz.func150 (by kernel_rfl) (fun x y h => (show V.evBody Z116.E Z116.con Tryz.f150 x = _ from Z116.eq (x.1, x.2.1, x.2.2.1, x.2.2.2.1) x.2.2.2.2).trans (V.cfl (by kernel_rfl) h))
noncomputable abbrev Z129.con : V.Con := ⟨(.cons (.int .i64) (.cons (.sl (.cons (.int .i64) .nil)) (.cons (.int .i64) (.cons (.sl (.cons (.int .i64) .nil)) .nil)))), (.cons .bool .nil), fun (x : Int × List Int × Int × List Int) => Z129 (x.1, x.2.1) x.2.2, [], [(true, 2), (true, 2)], [(false, 1)], [false], []⟩
noncomputable abbrev Z129.E : V.Env := V.mkE V.tys [(89, Z38.con)] [] [] [] [] []
theorem Z129.eq (x0 : TProof) (x1 : TProof) : V.evBody Z129.E Z129.con Tryz.f151 ((x0.1, x0.2, x1.1, x1.2) : Int × List Int × Int × List Int) = Z129 x0 x1 := by kernel_rfl
theorem Z129.ok : V.Valid Tryz.prog 151 Z129.con :=
  V.fo (V.tab_cons Z38.ok V.tab_nil) Tryz.func151 (by kernel_rfl) (fun x y h => (show V.evBody Z129.E Z129.con Tryz.f151 x = _ from Z129.eq (x.1, x.2.1) x.2.2).trans (V.cfl (by kernel_rfl) h))
noncomputable abbrev Z102.con : V.Con := ⟨V.A8, (.cons .bool .nil), fun (x : V.D8) => Z102 (V.p8_0 x) (V.p8_1 x), [], [(true, 13), (true, 13)], [(false, 1)], [false], []⟩
noncomputable abbrev Z102.E : V.Env := V.mkE V.tys [(150, Z116.con), (151, Z129.con)] [] [] [] [] []
noncomputable abbrev Z102.kt (x0 : TGap) (x1 : TGap) : V.Kt Bool := V.ktOf Z102.E Z102.con Tryz.f152 (V.fl8 x0 x1)
noncomputable abbrev Z102.s (x0 : TGap) (x1 : TGap) : V.St := ⟨[(0, .v true (V.lsGap x0)), (1, .v true (V.lsGap x1))], []⟩
theorem Z102.v0 (x0 : TGap) (x1 : TGap) : V.evBody Z102.E Z102.con Tryz.f152 (V.fl8 x0 x1) = V.evC Z102.E Tryz.f152.ntmps (V.codeOf Tryz.f152) (Z102.kt x0 x1) (Z102.s x0 x1) := by kernel_rfl
theorem Z102.v (x0 : TGap) (x1 : TGap) : V.evC Z102.E Tryz.f152.ntmps (V.codeOf Tryz.f152) (Z102.kt x0 x1) (Z102.s x0 x1) = Z102 x0 x1 := by kernel_rfl
theorem Z102.eq (x0 : TGap) (x1 : TGap) : V.evBody Z102.E Z102.con Tryz.f152 (V.fl8 x0 x1) = Z102 x0 x1 := (Z102.v0 x0 x1).trans (Z102.v x0 x1)
theorem Z102.ok : V.Valid Tryz.prog 152 Z102.con :=
  V.fo (V.tab_cons Z116.ok (V.tab_cons Z129.ok V.tab_nil)) Tryz.func152 (by kernel_rfl) (fun x y h => (show V.evBody Z102.E Z102.con Tryz.f152 x = _ from Z102.eq (V.p8_0 x) (V.p8_1 x)).trans (V.cfl (by kernel_rfl) h))
noncomputable abbrev Z88.con : V.Con := ⟨V.A9, (.cons .bool .nil), fun (x : V.D9) => Z88 (V.p9_0 x) (V.p9_1 x), [], [(true, 21), (true, 21)], [(false, 1)], [false], []⟩
noncomputable abbrev Z88.E : V.Env := V.mkE V.tys [(149, Z39.con), (150, Z116.con), (151, Z129.con), (152, Z102.con)] [] [] [] [] []
noncomputable abbrev Z88.kt (x0 : TAnswer) (x1 : TAnswer) : V.Kt Bool := V.ktOf Z88.E Z88.con Tryz.f19 (V.fl9 x0 x1)
noncomputable abbrev Z88.s (x0 : TAnswer) (x1 : TAnswer) : V.St := ⟨[(0, .v true (V.lsAnswer x0)), (1, .v true (V.lsAnswer x1))], []⟩
theorem Z88.v0 (x0 : TAnswer) (x1 : TAnswer) : V.evBody Z88.E Z88.con Tryz.f19 (V.fl9 x0 x1) = V.evC Z88.E Tryz.f19.ntmps (V.codeOf Tryz.f19) (Z88.kt x0 x1) (Z88.s x0 x1) := by kernel_rfl
theorem Z88.v (x0 : TAnswer) (x1 : TAnswer) : V.evC Z88.E Tryz.f19.ntmps (V.codeOf Tryz.f19) (Z88.kt x0 x1) (Z88.s x0 x1) = Z88 x0 x1 := by kernel_rfl
theorem Z88.eq (x0 : TAnswer) (x1 : TAnswer) : V.evBody Z88.E Z88.con Tryz.f19 (V.fl9 x0 x1) = Z88 x0 x1 := (Z88.v0 x0 x1).trans (Z88.v x0 x1)
theorem Z88.ok : V.Valid Tryz.prog 19 Z88.con :=
  V.fo (V.tab_cons Z39.ok (V.tab_cons Z116.ok (V.tab_cons Z129.ok (V.tab_cons Z102.ok V.tab_nil)))) Tryz.func19 (by kernel_rfl) (fun x y h => (show V.evBody Z88.E Z88.con Tryz.f19 x = _ from Z88.eq (V.p9_0 x) (V.p9_1 x)).trans (V.cfl (by kernel_rfl) h))
noncomputable abbrev Z55.con : V.Con := ⟨(.cons (.sl V.eEntry) (.cons (.sl V.eEntry) .nil)), (.cons .bool .nil), fun (x : List TEntry × List TEntry) => Z55 x.1 x.2, [], [(false, 1), (false, 1)], [(false, 1)], [false], []⟩
noncomputable abbrev Z55.E : V.Env := V.mkE V.tys [(150, Z116.con)] [(8, [0, 1, 5], [])] [(6, 8)] [] [] []
noncomputable abbrev Z55.kt (x0 : List TEntry) (x1 : List TEntry) : V.Kt Bool := V.ktOf Z55.E Z55.con Tryz.f116 ((x0, x1) : List TEntry × List TEntry)
noncomputable abbrev Z55.s8 (x0 : List TEntry) (x1 : List TEntry) (v8_2 : Int) : V.St := ⟨[(0, .v false [.val (.sl V.eEntry x0)]), (1, .v false [.val (.sl V.eEntry x1)]), (5, .v false [.val (.int .i64 v8_2)])], []⟩
theorem Z55.r8 (x0 : List TEntry) (x1 : List TEntry) (R : V.St → Option Bool) (v8_2 : Int) : V.loopF Z55.E Tryz.f116.ntmps [1, 1, 0, 1, 0] [] (V.codeOf Tryz.f116) (Z55.kt x0 x1) R (Z55.s8 x0 x1 v8_2) = Z55.g8 x0 x1 (fun v8_2 => R (Z55.s8 x0 x1 v8_2)) v8_2 := by kernel_rfl
theorem Z55.e8 (x0 : List TEntry) (x1 : List TEntry) : ∀ (n : Nat) (v8_2 : Int), V.loopN (V.loopF Z55.E Tryz.f116.ntmps [1, 1, 0, 1, 0] [] (V.codeOf Tryz.f116) (Z55.kt x0 x1)) n (Z55.s8 x0 x1 v8_2) = Z55.l8 x0 x1 n v8_2 := by
  intro n
  induction n with
  | zero => intros; rw [V.loopN_z]; rfl
  | succ n ih =>
    intro v8_2
    rw [V.loopN_s, Z55.r8]
    simp only [ih]
    first | exact (Z55.u8 ..).symm | rfl
theorem Z55.v (x0 : List TEntry) (x1 : List TEntry) : V.evBody Z55.E Z55.con Tryz.f116 ((x0, x1) : List TEntry × List TEntry) = Z55.b x0 x1 (fun v8_2 => V.loopN (V.loopF Z55.E Tryz.f116.ntmps [1, 1, 0, 1, 0] [] (V.codeOf Tryz.f116) (Z55.kt x0 x1)) V.KK (Z55.s8 x0 x1 v8_2)) := by kernel_rfl
theorem Z55.eq (x0 : List TEntry) (x1 : List TEntry) : V.evBody Z55.E Z55.con Tryz.f116 ((x0, x1) : List TEntry × List TEntry) = Z55 x0 x1 := by
  rw [Z55.v]
  simp only [Z55.e8]
  rfl
theorem Z55.ok : V.Valid Tryz.prog 116 Z55.con :=
  V.fo (V.tab_cons Z116.ok V.tab_nil) Tryz.func116 (by kernel_rfl) (fun x y h => (show V.evBody Z55.E Z55.con Tryz.f116 x = _ from Z55.eq x.1 x.2).trans (V.cfl (by kernel_rfl) h))
noncomputable abbrev Z154.con : V.Con := ⟨(.cons (.sl V.eSigned) (.cons (.sl V.eEntry) (.cons (.sl V.eSigned) (.cons (.sl V.eEntry) .nil)))), (.cons .bool .nil), fun (x : List TSigned × List TEntry × List TSigned × List TEntry) => Z154 (x.1, x.2.1) x.2.2, [], [(true, 2), (true, 2)], [(false, 1)], [false], []⟩
noncomputable abbrev Z154.E : V.Env := V.mkE V.tys [(116, Z55.con), (149, Z39.con)] [] [] [] [] []
theorem Z154.eq (x0 : TZone) (x1 : TZone) : V.evBody Z154.E Z154.con Tryz.f115 ((x0.1, x0.2, x1.1, x1.2) : List TSigned × List TEntry × List TSigned × List TEntry) = Z154 x0 x1 := by kernel_rfl
theorem Z154.ok : V.Valid Tryz.prog 115 Z154.con :=
  V.fo (V.tab_cons Z55.ok (V.tab_cons Z39.ok V.tab_nil)) Tryz.func115 (by kernel_rfl) (fun x y h => (show V.evBody Z154.E Z154.con Tryz.f115 x = _ from Z154.eq (x.1, x.2.1) x.2.2).trans (V.cfl (by kernel_rfl) h))
noncomputable abbrev Z57.con : V.Con := ⟨(.cons (.sl (.cons (.sl V.eSigned) (.cons (.sl V.eEntry) .nil))) (.cons (.sl (.cons (.sl V.eSigned) (.cons (.sl V.eEntry) .nil))) .nil)), (.cons .bool .nil), fun (x : List TZone × List TZone) => Z57 x.1 x.2, [], [(false, 1), (false, 1)], [(false, 1)], [false], []⟩
noncomputable abbrev Z57.E : V.Env := V.mkE V.tys [(115, Z154.con)] [(8, [0, 1, 5], [])] [(6, 8)] [] [] []
noncomputable abbrev Z57.kt (x0 : List TZone) (x1 : List TZone) : V.Kt Bool := V.ktOf Z57.E Z57.con Tryz.f153 ((x0, x1) : List TZone × List TZone)
noncomputable abbrev Z57.s8 (x0 : List TZone) (x1 : List TZone) (v8_2 : Int) : V.St := ⟨[(0, .v false [.val (.sl (.cons (.sl V.eSigned) (.cons (.sl V.eEntry) .nil)) x0)]), (1, .v false [.val (.sl (.cons (.sl V.eSigned) (.cons (.sl V.eEntry) .nil)) x1)]), (5, .v false [.val (.int .i64 v8_2)])], []⟩
theorem Z57.r8 (x0 : List TZone) (x1 : List TZone) (R : V.St → Option Bool) (v8_2 : Int) : V.loopF Z57.E Tryz.f153.ntmps [1, 1, 0, 1, 0] [] (V.codeOf Tryz.f153) (Z57.kt x0 x1) R (Z57.s8 x0 x1 v8_2) = Z57.g8 x0 x1 (fun v8_2 => R (Z57.s8 x0 x1 v8_2)) v8_2 := by kernel_rfl
theorem Z57.e8 (x0 : List TZone) (x1 : List TZone) : ∀ (n : Nat) (v8_2 : Int), V.loopN (V.loopF Z57.E Tryz.f153.ntmps [1, 1, 0, 1, 0] [] (V.codeOf Tryz.f153) (Z57.kt x0 x1)) n (Z57.s8 x0 x1 v8_2) = Z57.l8 x0 x1 n v8_2 := by
  intro n
  induction n with
  | zero => intros; rw [V.loopN_z]; rfl
  | succ n ih =>
    intro v8_2
    rw [V.loopN_s, Z57.r8]
    simp only [ih]
    first | exact (Z57.u8 ..).symm | rfl
theorem Z57.v (x0 : List TZone) (x1 : List TZone) : V.evBody Z57.E Z57.con Tryz.f153 ((x0, x1) : List TZone × List TZone) = Z57.b x0 x1 (fun v8_2 => V.loopN (V.loopF Z57.E Tryz.f153.ntmps [1, 1, 0, 1, 0] [] (V.codeOf Tryz.f153) (Z57.kt x0 x1)) V.KK (Z57.s8 x0 x1 v8_2)) := by kernel_rfl
theorem Z57.eq (x0 : List TZone) (x1 : List TZone) : V.evBody Z57.E Z57.con Tryz.f153 ((x0, x1) : List TZone × List TZone) = Z57 x0 x1 := by
  rw [Z57.v]
  simp only [Z57.e8]
  rfl
theorem Z57.ok : V.Valid Tryz.prog 153 Z57.con :=
  V.fo (V.tab_cons Z154.ok V.tab_nil) Tryz.func153 (by kernel_rfl) (fun x y h => (show V.evBody Z57.E Z57.con Tryz.f153 x = _ from Z57.eq x.1 x.2).trans (V.cfl (by kernel_rfl) h))
noncomputable abbrev Z174.con : V.Con := ⟨(.cons (.sl (.cons (.sl V.eSigned) (.cons (.sl V.eEntry) .nil))) (.cons (.int .i64) (.cons (.sl (.cons (.sl V.eSigned) (.cons (.sl V.eEntry) .nil))) (.cons (.int .i64) .nil)))), (.cons .bool .nil), fun (x : List TZone × Int × List TZone × Int) => Z174 (x.1, x.2.1) x.2.2, [], [(true, 2), (true, 2)], [(false, 1)], [false], []⟩
noncomputable abbrev Z174.E : V.Env := V.mkE V.tys [(153, Z57.con)] [] [] [] [] []
theorem Z174.eq (x0 : TServer) (x1 : TServer) : V.evBody Z174.E Z174.con Tryz.f20 ((x0.1, x0.2, x1.1, x1.2) : List TZone × Int × List TZone × Int) = Z174 x0 x1 := by kernel_rfl
theorem Z174.ok : V.Valid Tryz.prog 20 Z174.con :=
  V.fo (V.tab_cons Z57.ok V.tab_nil) Tryz.func20 (by kernel_rfl) (fun x y h => (show V.evBody Z174.E Z174.con Tryz.f20 x = _ from Z174.eq (x.1, x.2.1) x.2.2).trans (V.cfl (by kernel_rfl) h))
noncomputable abbrev Z19.con : V.Con := ⟨(.cons (.sl (.cons (.int .i64) .nil)) (.cons (.int .i64) .nil)), (.cons (.sl (.cons (.int .i64) .nil)) (.cons (.int .i64) .nil)), fun (x : List Int × Int) => Z19 x.1 x.2, [(0, false)], [(false, 1), (false, 1)], [(false, 1)], [false], []⟩
noncomputable abbrev Z19.E : V.Env := V.mkE V.tys [] [(4, [0, 1, 5], [])] [] [] [] []
noncomputable abbrev Z19.kt (x0 : List Int) (x1 : Int) : V.Kt TKeys := V.ktOf Z19.E Z19.con Tryz.f92 ((x0, x1) : List Int × Int)
noncomputable abbrev Z19.s4 (v4_0 : Int) (v4_1 : Int) (v4_2 : List Int) : V.St := ⟨[(0, .v false [.ref 0]), (1, .v false [.val (.int .i64 v4_0)]), (5, .v false [.val (.int .i64 v4_1)])], [(0, .row (.cons (.int .i64) .nil) true v4_2)]⟩
theorem Z19.r4 (x0 : List Int) (x1 : Int) (R : V.St → Option TKeys) (v4_0 : Int) (v4_1 : Int) (v4_2 : List Int) : V.loopF Z19.E Tryz.f92.ntmps [1, 0, 1, 0] [] (V.codeOf Tryz.f92) (Z19.kt x0 x1) R (Z19.s4 v4_0 v4_1 v4_2) = Z19.g4 (fun v4_0 v4_1 v4_2 => R (Z19.s4 v4_0 v4_1 v4_2)) v4_0 v4_1 v4_2 := by kernel_rfl
theorem Z19.e4 (x0 : List Int) (x1 : Int) : ∀ (n : Nat) (v4_0 : Int) (v4_1 : Int) (v4_2 : List Int), V.loopN (V.loopF Z19.E Tryz.f92.ntmps [1, 0, 1, 0] [] (V.codeOf Tryz.f92) (Z19.kt x0 x1)) n (Z19.s4 v4_0 v4_1 v4_2) = Z19.l4 n v4_0 v4_1 v4_2 := by
  intro n
  induction n with
  | zero => intros; rw [V.loopN_z]; rfl
  | succ n ih =>
    intro v4_0 v4_1 v4_2
    rw [V.loopN_s, Z19.r4]
    simp only [ih]
    first | exact (Z19.u4 ..).symm | rfl
theorem Z19.v (x0 : List Int) (x1 : Int) : V.evBody Z19.E Z19.con Tryz.f92 ((x0, x1) : List Int × Int) = Z19.b x0 x1 (fun v4_0 v4_1 v4_2 => V.loopN (V.loopF Z19.E Tryz.f92.ntmps [1, 0, 1, 0] [] (V.codeOf Tryz.f92) (Z19.kt x0 x1)) V.KK (Z19.s4 v4_0 v4_1 v4_2)) := by kernel_rfl
theorem Z19.eq (x0 : List Int) (x1 : Int) : V.evBody Z19.E Z19.con Tryz.f92 ((x0, x1) : List Int × Int) = Z19 x0 x1 := by
  rw [Z19.v]
  simp only [Z19.e4]
  rfl
theorem Z19.ok : V.Valid Tryz.prog 92 Z19.con :=
  V.fo V.tab_nil Tryz.func92 (by kernel_rfl) (fun x y h => (show V.evBody Z19.E Z19.con Tryz.f92 x = _ from Z19.eq x.1 x.2).trans (V.cfl (by kernel_rfl) h))
noncomputable abbrev Z21.con : V.Con := ⟨(.cons (.sl (.cons (.int .i64) (.cons (.int .i64) .nil))) (.cons (.int .i64) .nil)), (.cons (.sl (.cons (.int .i64) (.cons (.int .i64) .nil))) (.cons (.int .i64) .nil)), fun (x : List TSig × Int) => Z21 x.1 x.2, [(0, false)], [(false, 1), (false, 1)], [(false, 1)], [false], []⟩
noncomputable abbrev Z21.E : V.Env := V.mkE V.tys [] [(4, [0, 1, 5], [])] [] [] [] []
noncomputable abbrev Z21.kt (x0 : List TSig) (x1 : Int) : V.Kt (List TSig × Int) := V.ktOf Z21.E Z21.con Tryz.f300 ((x0, x1) : List TSig × Int)
noncomputable abbrev Z21.s4 (v4_0 : Int) (v4_1 : Int) (v4_2 : List TSig) : V.St := ⟨[(0, .v false [.ref 0]), (1, .v false [.val (.int .i64 v4_0)]), (5, .v false [.val (.int .i64 v4_1)])], [(0, .row (.cons (.int .i64) (.cons (.int .i64) .nil)) true v4_2)]⟩
theorem Z21.r4 (x0 : List TSig) (x1 : Int) (R : V.St → Option (List TSig × Int)) (v4_0 : Int) (v4_1 : Int) (v4_2 : List TSig) : V.loopF Z21.E Tryz.f300.ntmps [1, 0, 1, 0] [] (V.codeOf Tryz.f300) (Z21.kt x0 x1) R (Z21.s4 v4_0 v4_1 v4_2) = Z21.g4 (fun v4_0 v4_1 v4_2 => R (Z21.s4 v4_0 v4_1 v4_2)) v4_0 v4_1 v4_2 := by kernel_rfl
theorem Z21.e4 (x0 : List TSig) (x1 : Int) : ∀ (n : Nat) (v4_0 : Int) (v4_1 : Int) (v4_2 : List TSig), V.loopN (V.loopF Z21.E Tryz.f300.ntmps [1, 0, 1, 0] [] (V.codeOf Tryz.f300) (Z21.kt x0 x1)) n (Z21.s4 v4_0 v4_1 v4_2) = Z21.l4 n v4_0 v4_1 v4_2 := by
  intro n
  induction n with
  | zero => intros; rw [V.loopN_z]; rfl
  | succ n ih =>
    intro v4_0 v4_1 v4_2
    rw [V.loopN_s, Z21.r4]
    simp only [ih]
    first | exact (Z21.u4 ..).symm | rfl
theorem Z21.v (x0 : List TSig) (x1 : Int) : V.evBody Z21.E Z21.con Tryz.f300 ((x0, x1) : List TSig × Int) = Z21.b x0 x1 (fun v4_0 v4_1 v4_2 => V.loopN (V.loopF Z21.E Tryz.f300.ntmps [1, 0, 1, 0] [] (V.codeOf Tryz.f300) (Z21.kt x0 x1)) V.KK (Z21.s4 v4_0 v4_1 v4_2)) := by kernel_rfl
theorem Z21.eq (x0 : List TSig) (x1 : Int) : V.evBody Z21.E Z21.con Tryz.f300 ((x0, x1) : List TSig × Int) = Z21 x0 x1 := by
  rw [Z21.v]
  simp only [Z21.e4]
  rfl
theorem Z21.ok : V.Valid Tryz.prog 300 Z21.con :=
  V.fo V.tab_nil Tryz.func300 (by kernel_rfl) (fun x y h => (show V.evBody Z21.E Z21.con Tryz.f300 x = _ from Z21.eq x.1 x.2).trans (V.cfl (by kernel_rfl) h))
noncomputable abbrev Z0.con : V.Con := ⟨(.cons (.sl V.eSigned) (.cons (.int .i64) .nil)), (.cons (.sl V.eSigned) (.cons (.int .i64) .nil)), fun (x : List TSigned × Int) => Z0 x.1 x.2, [(0, false)], [(false, 1), (false, 1)], [(false, 1)], [false], []⟩
noncomputable abbrev Z0.E : V.Env := V.mkE V.tys [(92, Z19.con), (300, Z21.con)] [(4, [0, 1, 5], [])] [] [] [] []
noncomputable abbrev Z0.kt (x0 : List TSigned) (x1 : Int) : V.Kt (List TSigned × Int) := V.ktOf Z0.E Z0.con Tryz.f155 ((x0, x1) : List TSigned × Int)
noncomputable abbrev Z0.s4 (v4_0 : Int) (v4_1 : Int) (v4_2 : List TSigned) : V.St := ⟨[(0, .v false [.ref 0]), (1, .v false [.val (.int .i64 v4_0)]), (5, .v false [.val (.int .i64 v4_1)])], [(0, .row V.eSigned true v4_2)]⟩
theorem Z0.r4 (x0 : List TSigned) (x1 : Int) (R : V.St → Option (List TSigned × Int)) (v4_0 : Int) (v4_1 : Int) (v4_2 : List TSigned) : V.loopF Z0.E Tryz.f155.ntmps [1, 0, 1, 0] [] (V.codeOf Tryz.f155) (Z0.kt x0 x1) R (Z0.s4 v4_0 v4_1 v4_2) = Z0.g4 (fun v4_0 v4_1 v4_2 => R (Z0.s4 v4_0 v4_1 v4_2)) v4_0 v4_1 v4_2 := by kernel_rfl
theorem Z0.e4 (x0 : List TSigned) (x1 : Int) : ∀ (n : Nat) (v4_0 : Int) (v4_1 : Int) (v4_2 : List TSigned), V.loopN (V.loopF Z0.E Tryz.f155.ntmps [1, 0, 1, 0] [] (V.codeOf Tryz.f155) (Z0.kt x0 x1)) n (Z0.s4 v4_0 v4_1 v4_2) = Z0.l4 n v4_0 v4_1 v4_2 := by
  intro n
  induction n with
  | zero => intros; rw [V.loopN_z]; rfl
  | succ n ih =>
    intro v4_0 v4_1 v4_2
    rw [V.loopN_s, Z0.r4]
    simp only [ih]
    first | exact (Z0.u4 ..).symm | rfl
theorem Z0.v (x0 : List TSigned) (x1 : Int) : V.evBody Z0.E Z0.con Tryz.f155 ((x0, x1) : List TSigned × Int) = Z0.b x0 x1 (fun v4_0 v4_1 v4_2 => V.loopN (V.loopF Z0.E Tryz.f155.ntmps [1, 0, 1, 0] [] (V.codeOf Tryz.f155) (Z0.kt x0 x1)) V.KK (Z0.s4 v4_0 v4_1 v4_2)) := by kernel_rfl
theorem Z0.eq (x0 : List TSigned) (x1 : Int) : V.evBody Z0.E Z0.con Tryz.f155 ((x0, x1) : List TSigned × Int) = Z0 x0 x1 := by
  rw [Z0.v]
  simp only [Z0.e4]
  rfl
theorem Z0.ok : V.Valid Tryz.prog 155 Z0.con :=
  V.fo (V.tab_cons Z19.ok (V.tab_cons Z21.ok V.tab_nil)) Tryz.func155 (by kernel_rfl) (fun x y h => (show V.evBody Z0.E Z0.con Tryz.f155 x = _ from Z0.eq x.1 x.2).trans (V.cfl (by kernel_rfl) h))
noncomputable abbrev Z16.con : V.Con := ⟨(.cons (.int .i64) .nil), (.cons .str .nil), fun (x : Int) => Z16 x, [], [(false, 1)], [(false, 1)], [false], []⟩
noncomputable abbrev Z16.E : V.Env := V.mkE V.tys [] [(8, [0, 3], [])] [] [] [] []
noncomputable abbrev Z16.kt (x0 : Int) : V.Kt ByteArray := V.ktOf Z16.E Z16.con Tryz.f163 ((x0) : Int)
noncomputable abbrev Z16.s8 (v8_0 : Int) (v8_1 : ByteArray) : V.St := ⟨[(0, .v false [.val (.int .i64 v8_0)]), (3, .v false [.val (.str v8_1)])], []⟩
theorem Z16.r8 (x0 : Int) (R : V.St → Option ByteArray) (v8_0 : Int) (v8_1 : ByteArray) : V.loopF Z16.E Tryz.f163.ntmps [1, 1, 1, 0, 0] [] (V.codeOf Tryz.f163) (Z16.kt x0) R (Z16.s8 v8_0 v8_1) = Z16.g8 (fun v8_0 v8_1 => R (Z16.s8 v8_0 v8_1)) v8_0 v8_1 := by kernel_rfl
theorem Z16.e8 (x0 : Int) : ∀ (n : Nat) (v8_0 : Int) (v8_1 : ByteArray), V.loopN (V.loopF Z16.E Tryz.f163.ntmps [1, 1, 1, 0, 0] [] (V.codeOf Tryz.f163) (Z16.kt x0)) n (Z16.s8 v8_0 v8_1) = Z16.l8 n v8_0 v8_1 := by
  intro n
  induction n with
  | zero => intros; rw [V.loopN_z]; rfl
  | succ n ih =>
    intro v8_0 v8_1
    rw [V.loopN_s, Z16.r8]
    simp only [ih]
    first | exact (Z16.u8 ..).symm | rfl
theorem Z16.v (x0 : Int) : V.evBody Z16.E Z16.con Tryz.f163 ((x0) : Int) = Z16.b x0 (fun v8_0 v8_1 => V.loopN (V.loopF Z16.E Tryz.f163.ntmps [1, 1, 1, 0, 0] [] (V.codeOf Tryz.f163) (Z16.kt x0)) V.KK (Z16.s8 v8_0 v8_1)) := by kernel_rfl
theorem Z16.eq (x0 : Int) : V.evBody Z16.E Z16.con Tryz.f163 ((x0) : Int) = Z16 x0 := by
  rw [Z16.v]
  simp only [Z16.e8]
  rfl
theorem Z16.ok : V.Valid Tryz.prog 163 Z16.con :=
  V.fo V.tab_nil Tryz.func163 (by kernel_rfl) (fun x y h => (show V.evBody Z16.E Z16.con Tryz.f163 x = _ from Z16.eq x).trans (V.cfl (by kernel_rfl) h))
noncomputable abbrev Z22.con : V.Con := ⟨(.cons (.sl (.cons .str .nil)) (.cons (.int .i64) .nil)), (.cons (.sl (.cons .str .nil)) (.cons (.int .i64) .nil)), fun (x : List ByteArray × Int) => Z22 x.1 x.2, [(0, false)], [(false, 1), (false, 1)], [(false, 1)], [false], []⟩
noncomputable abbrev Z22.E : V.Env := V.mkE V.tys [(163, Z16.con)] [(4, [0, 1, 5], [])] [] [] [] []
noncomputable abbrev Z22.kt (x0 : List ByteArray) (x1 : Int) : V.Kt (List ByteArray × Int) := V.ktOf Z22.E Z22.con Tryz.f164 ((x0, x1) : List ByteArray × Int)
noncomputable abbrev Z22.s4 (v4_0 : Int) (v4_1 : Int) (v4_2 : List ByteArray) : V.St := ⟨[(0, .v false [.ref 0]), (1, .v false [.val (.int .i64 v4_0)]), (5, .v false [.val (.int .i64 v4_1)])], [(0, .row (.cons .str .nil) true v4_2)]⟩
theorem Z22.r4 (x0 : List ByteArray) (x1 : Int) (R : V.St → Option (List ByteArray × Int)) (v4_0 : Int) (v4_1 : Int) (v4_2 : List ByteArray) : V.loopF Z22.E Tryz.f164.ntmps [1, 0, 1, 0] [] (V.codeOf Tryz.f164) (Z22.kt x0 x1) R (Z22.s4 v4_0 v4_1 v4_2) = Z22.g4 (fun v4_0 v4_1 v4_2 => R (Z22.s4 v4_0 v4_1 v4_2)) v4_0 v4_1 v4_2 := by kernel_rfl
theorem Z22.e4 (x0 : List ByteArray) (x1 : Int) : ∀ (n : Nat) (v4_0 : Int) (v4_1 : Int) (v4_2 : List ByteArray), V.loopN (V.loopF Z22.E Tryz.f164.ntmps [1, 0, 1, 0] [] (V.codeOf Tryz.f164) (Z22.kt x0 x1)) n (Z22.s4 v4_0 v4_1 v4_2) = Z22.l4 n v4_0 v4_1 v4_2 := by
  intro n
  induction n with
  | zero => intros; rw [V.loopN_z]; rfl
  | succ n ih =>
    intro v4_0 v4_1 v4_2
    rw [V.loopN_s, Z22.r4]
    simp only [ih]
    first | exact (Z22.u4 ..).symm | rfl
theorem Z22.v (x0 : List ByteArray) (x1 : Int) : V.evBody Z22.E Z22.con Tryz.f164 ((x0, x1) : List ByteArray × Int) = Z22.b x0 x1 (fun v4_0 v4_1 v4_2 => V.loopN (V.loopF Z22.E Tryz.f164.ntmps [1, 0, 1, 0] [] (V.codeOf Tryz.f164) (Z22.kt x0 x1)) V.KK (Z22.s4 v4_0 v4_1 v4_2)) := by kernel_rfl
theorem Z22.eq (x0 : List ByteArray) (x1 : Int) : V.evBody Z22.E Z22.con Tryz.f164 ((x0, x1) : List ByteArray × Int) = Z22 x0 x1 := by
  rw [Z22.v]
  simp only [Z22.e4]
  rfl
theorem Z22.ok : V.Valid Tryz.prog 164 Z22.con :=
  V.fo (V.tab_cons Z16.ok V.tab_nil) Tryz.func164 (by kernel_rfl) (fun x y h => (show V.evBody Z22.E Z22.con Tryz.f164 x = _ from Z22.eq x.1 x.2).trans (V.cfl (by kernel_rfl) h))
noncomputable abbrev Z13.con : V.Con := ⟨(.cons (.sl V.eEntry) (.cons (.int .i64) .nil)), (.cons (.sl V.eEntry) (.cons (.int .i64) .nil)), fun (x : List TEntry × Int) => Z13 x.1 x.2, [(0, false)], [(false, 1), (false, 1)], [(false, 1)], [false], []⟩
noncomputable abbrev Z13.E : V.Env := V.mkE V.tys [(163, Z16.con), (164, Z22.con)] [(4, [0, 1, 5], [])] [] [] [] []
noncomputable abbrev Z13.kt (x0 : List TEntry) (x1 : Int) : V.Kt (List TEntry × Int) := V.ktOf Z13.E Z13.con Tryz.f118 ((x0, x1) : List TEntry × Int)
noncomputable abbrev Z13.s4 (v4_0 : Int) (v4_1 : Int) (v4_2 : List TEntry) : V.St := ⟨[(0, .v false [.ref 0]), (1, .v false [.val (.int .i64 v4_0)]), (5, .v false [.val (.int .i64 v4_1)])], [(0, .row V.eEntry true v4_2)]⟩
theorem Z13.r4 (x0 : List TEntry) (x1 : Int) (R : V.St → Option (List TEntry × Int)) (v4_0 : Int) (v4_1 : Int) (v4_2 : List TEntry) : V.loopF Z13.E Tryz.f118.ntmps [1, 0, 1, 0] [] (V.codeOf Tryz.f118) (Z13.kt x0 x1) R (Z13.s4 v4_0 v4_1 v4_2) = Z13.g4 (fun v4_0 v4_1 v4_2 => R (Z13.s4 v4_0 v4_1 v4_2)) v4_0 v4_1 v4_2 := by kernel_rfl
theorem Z13.e4 (x0 : List TEntry) (x1 : Int) : ∀ (n : Nat) (v4_0 : Int) (v4_1 : Int) (v4_2 : List TEntry), V.loopN (V.loopF Z13.E Tryz.f118.ntmps [1, 0, 1, 0] [] (V.codeOf Tryz.f118) (Z13.kt x0 x1)) n (Z13.s4 v4_0 v4_1 v4_2) = Z13.l4 n v4_0 v4_1 v4_2 := by
  intro n
  induction n with
  | zero => intros; rw [V.loopN_z]; rfl
  | succ n ih =>
    intro v4_0 v4_1 v4_2
    rw [V.loopN_s, Z13.r4]
    simp only [ih]
    first | exact (Z13.u4 ..).symm | rfl
theorem Z13.v (x0 : List TEntry) (x1 : Int) : V.evBody Z13.E Z13.con Tryz.f118 ((x0, x1) : List TEntry × Int) = Z13.b x0 x1 (fun v4_0 v4_1 v4_2 => V.loopN (V.loopF Z13.E Tryz.f118.ntmps [1, 0, 1, 0] [] (V.codeOf Tryz.f118) (Z13.kt x0 x1)) V.KK (Z13.s4 v4_0 v4_1 v4_2)) := by kernel_rfl
theorem Z13.eq (x0 : List TEntry) (x1 : Int) : V.evBody Z13.E Z13.con Tryz.f118 ((x0, x1) : List TEntry × Int) = Z13 x0 x1 := by
  rw [Z13.v]
  simp only [Z13.e4]
  rfl
theorem Z13.ok : V.Valid Tryz.prog 118 Z13.con :=
  V.fo (V.tab_cons Z16.ok (V.tab_cons Z22.ok V.tab_nil)) Tryz.func118 (by kernel_rfl) (fun x y h => (show V.evBody Z13.E Z13.con Tryz.f118 x = _ from Z13.eq x.1 x.2).trans (V.cfl (by kernel_rfl) h))
noncomputable abbrev Z23.con : V.Con := ⟨(.cons (.sl (.cons (.sl V.eSigned) (.cons (.sl V.eEntry) .nil))) (.cons (.int .i64) .nil)), (.cons (.sl (.cons (.sl V.eSigned) (.cons (.sl V.eEntry) .nil))) (.cons (.int .i64) .nil)), fun (x : List TZone × Int) => Z23 x.1 x.2, [(0, false)], [(false, 1), (false, 1)], [(false, 1)], [false], []⟩
noncomputable abbrev Z23.E : V.Env := V.mkE V.tys [(118, Z13.con), (155, Z0.con)] [(4, [0, 1, 5], [])] [] [] [] []
noncomputable abbrev Z23.kt (x0 : List TZone) (x1 : Int) : V.Kt TServer := V.ktOf Z23.E Z23.con Tryz.f154 ((x0, x1) : List TZone × Int)
noncomputable abbrev Z23.s4 (v4_0 : Int) (v4_1 : Int) (v4_2 : List TZone) : V.St := ⟨[(0, .v false [.ref 0]), (1, .v false [.val (.int .i64 v4_0)]), (5, .v false [.val (.int .i64 v4_1)])], [(0, .row (.cons (.sl V.eSigned) (.cons (.sl V.eEntry) .nil)) true v4_2)]⟩
theorem Z23.r4 (x0 : List TZone) (x1 : Int) (R : V.St → Option TServer) (v4_0 : Int) (v4_1 : Int) (v4_2 : List TZone) : V.loopF Z23.E Tryz.f154.ntmps [1, 0, 1, 0] [] (V.codeOf Tryz.f154) (Z23.kt x0 x1) R (Z23.s4 v4_0 v4_1 v4_2) = Z23.g4 (fun v4_0 v4_1 v4_2 => R (Z23.s4 v4_0 v4_1 v4_2)) v4_0 v4_1 v4_2 := by kernel_rfl
theorem Z23.e4 (x0 : List TZone) (x1 : Int) : ∀ (n : Nat) (v4_0 : Int) (v4_1 : Int) (v4_2 : List TZone), V.loopN (V.loopF Z23.E Tryz.f154.ntmps [1, 0, 1, 0] [] (V.codeOf Tryz.f154) (Z23.kt x0 x1)) n (Z23.s4 v4_0 v4_1 v4_2) = Z23.l4 n v4_0 v4_1 v4_2 := by
  intro n
  induction n with
  | zero => intros; rw [V.loopN_z]; rfl
  | succ n ih =>
    intro v4_0 v4_1 v4_2
    rw [V.loopN_s, Z23.r4]
    simp only [ih]
    first | exact (Z23.u4 ..).symm | rfl
theorem Z23.v (x0 : List TZone) (x1 : Int) : V.evBody Z23.E Z23.con Tryz.f154 ((x0, x1) : List TZone × Int) = Z23.b x0 x1 (fun v4_0 v4_1 v4_2 => V.loopN (V.loopF Z23.E Tryz.f154.ntmps [1, 0, 1, 0] [] (V.codeOf Tryz.f154) (Z23.kt x0 x1)) V.KK (Z23.s4 v4_0 v4_1 v4_2)) := by kernel_rfl
theorem Z23.eq (x0 : List TZone) (x1 : Int) : V.evBody Z23.E Z23.con Tryz.f154 ((x0, x1) : List TZone × Int) = Z23 x0 x1 := by
  rw [Z23.v]
  simp only [Z23.e4]
  rfl
theorem Z23.ok : V.Valid Tryz.prog 154 Z23.con :=
  V.fo (V.tab_cons Z13.ok (V.tab_cons Z0.ok V.tab_nil)) Tryz.func154 (by kernel_rfl) (fun x y h => (show V.evBody Z23.E Z23.con Tryz.f154 x = _ from Z23.eq x.1 x.2).trans (V.cfl (by kernel_rfl) h))
noncomputable abbrev Z175.con : V.Con := ⟨(.cons (.sl (.cons (.sl V.eSigned) (.cons (.sl V.eEntry) .nil))) (.cons (.int .i64) (.cons (.int .i64) .nil))), (.cons (.sl (.cons (.sl V.eSigned) (.cons (.sl V.eEntry) .nil))) (.cons (.int .i64) .nil)), fun (x : List TZone × Int × Int) => Z175 (x.1, x.2.1) x.2.2, [(0, false)], [(true, 2), (false, 1)], [(false, 1)], [false], []⟩
noncomputable abbrev Z175.E : V.Env := V.mkE V.tys [(154, Z23.con)] [] [] [] [] []
theorem Z175.eq (x0 : TServer) (x1 : Int) : V.evBody Z175.E Z175.con Tryz.f21 ((x0.1, x0.2, x1) : List TZone × Int × Int) = Z175 x0 x1 := by kernel_rfl
theorem Z175.ok : V.Valid Tryz.prog 21 Z175.con :=
  V.fo (V.tab_cons Z23.ok V.tab_nil) Tryz.func21 (by kernel_rfl) (fun x y h => (show V.evBody Z175.E Z175.con Tryz.f21 x = _ from Z175.eq (x.1, x.2.1) x.2.2).trans (V.cfl (by kernel_rfl) h))
noncomputable abbrev Z132.con : V.Con := ⟨(.cons .str (.cons (.int .i64) (.cons (.int .i64) (.cons (.sl (.cons .str .nil)) (.cons (.int .i64) .nil))))), (.cons (.sl (.cons .str .nil)) (.cons (.int .i64) .nil)), fun (x : ByteArray × Int × Int × List ByteArray × Int) => Z132 (x.1, x.2.1, x.2.2.1, x.2.2.2.1) x.2.2.2.2, [(3, false)], [(true, 4), (false, 1)], [(false, 1)], [false], []⟩
noncomputable abbrev Z132.E : V.Env := V.mkE V.tys [(164, Z22.con)] [] [] [] [] []
theorem Z132.eq (x0 : TEntry) (x1 : Int) : V.evBody Z132.E Z132.con Tryz.f156 ((x0.1, x0.2.1, x0.2.2.1, x0.2.2.2, x1) : ByteArray × Int × Int × List ByteArray × Int) = Z132 x0 x1 := by kernel_rfl
theorem Z132.ok : V.Valid Tryz.prog 156 Z132.con :=
  V.fo (V.tab_cons Z22.ok V.tab_nil) Tryz.func156 (by kernel_rfl) (fun x y h => (show V.evBody Z132.E Z132.con Tryz.f156 x = _ from Z132.eq (x.1, x.2.1, x.2.2.1, x.2.2.2.1) x.2.2.2.2).trans (V.cfl (by kernel_rfl) h))
noncomputable abbrev Z133.con : V.Con := ⟨(.cons (.int .i64) (.cons (.sl (.cons (.int .i64) .nil)) (.cons (.int .i64) .nil))), (.cons (.sl (.cons (.int .i64) .nil)) (.cons (.int .i64) .nil)), fun (x : Int × List Int × Int) => Z133 (x.1, x.2.1) x.2.2, [(1, false)], [(true, 2), (false, 1)], [(false, 1)], [false], []⟩
noncomputable abbrev Z133.E : V.Env := V.mkE V.tys [(92, Z19.con)] [] [] [] [] []
theorem Z133.eq (x0 : TProof) (x1 : Int) : V.evBody Z133.E Z133.con Tryz.f157 ((x0.1, x0.2, x1) : Int × List Int × Int) = Z133 x0 x1 := by kernel_rfl
theorem Z133.ok : V.Valid Tryz.prog 157 Z133.con :=
  V.fo (V.tab_cons Z19.ok V.tab_nil) Tryz.func157 (by kernel_rfl) (fun x y h => (show V.evBody Z133.E Z133.con Tryz.f157 x = _ from Z133.eq (x.1, x.2.1) x.2.2).trans (V.cfl (by kernel_rfl) h))
noncomputable abbrev Z106.con : V.Con := ⟨V.A10, (.cons (.sl (.cons .str .nil)) (.cons (.sl (.cons .str .nil)) (.cons (.sl (.cons (.int .i64) .nil)) (.cons (.sl (.cons (.int .i64) .nil)) (.cons (.int .i64) .nil))))), fun (x : V.D10) => Z106 (V.p10_0 x) (V.p10_1 x), [(4, false), (8, false), (10, false), (12, false)], [(true, 13), (false, 1)], [(false, 1)], [false], []⟩
noncomputable abbrev Z106.E : V.Env := V.mkE V.tys [(156, Z132.con), (157, Z133.con)] [] [] [] [] []
noncomputable abbrev Z106.kt (x0 : TGap) (x1 : Int) : V.Kt (List ByteArray × List ByteArray × List Int × List Int × Int) := V.ktOf Z106.E Z106.con Tryz.f158 (V.fl10 x0 x1)
noncomputable abbrev Z106.s (x0 : TGap) (x1 : Int) : V.St := ⟨[(0, .v true [.val (.int .i64 x0.1), .val (.str x0.2.1), .val (.int .i64 x0.2.2.1), .val (.int .i64 x0.2.2.2.1), .ref 4, .val (.str x0.2.2.2.2.2.1), .val (.int .i64 x0.2.2.2.2.2.2.1), .val (.int .i64 x0.2.2.2.2.2.2.2.1), .ref 8, .val (.int .i64 x0.2.2.2.2.2.2.2.2.2.1), .ref 10, .val (.int .i64 x0.2.2.2.2.2.2.2.2.2.2.2.1), .ref 12]), (1, .v false [.val (.int .i64 x1)])], [(4, .row (.cons .str .nil) true x0.2.2.2.2.1), (8, .row (.cons .str .nil) true x0.2.2.2.2.2.2.2.2.1), (10, .row (.cons (.int .i64) .nil) true x0.2.2.2.2.2.2.2.2.2.2.1), (12, .row (.cons (.int .i64) .nil) true x0.2.2.2.2.2.2.2.2.2.2.2.2)]⟩
theorem Z106.v0 (x0 : TGap) (x1 : Int) : V.evBody Z106.E Z106.con Tryz.f158 (V.fl10 x0 x1) = V.evC Z106.E Tryz.f158.ntmps (V.codeOf Tryz.f158) (Z106.kt x0 x1) (Z106.s x0 x1) := by kernel_rfl
theorem Z106.v (x0 : TGap) (x1 : Int) : V.evC Z106.E Tryz.f158.ntmps (V.codeOf Tryz.f158) (Z106.kt x0 x1) (Z106.s x0 x1) = Z106 x0 x1 := by kernel_rfl
theorem Z106.eq (x0 : TGap) (x1 : Int) : V.evBody Z106.E Z106.con Tryz.f158 (V.fl10 x0 x1) = Z106 x0 x1 := (Z106.v0 x0 x1).trans (Z106.v x0 x1)
theorem Z106.ok : V.Valid Tryz.prog 158 Z106.con :=
  V.fo (V.tab_cons Z132.ok (V.tab_cons Z133.ok V.tab_nil)) Tryz.func158 (by kernel_rfl) (fun x y h => (show V.evBody Z106.E Z106.con Tryz.f158 x = _ from Z106.eq (V.p10_0 x) (V.p10_1 x)).trans (V.cfl (by kernel_rfl) h))
noncomputable abbrev Z105.con : V.Con := ⟨V.A11, (.cons (.sl V.eSigned) (.cons (.sl (.cons .str .nil)) (.cons (.sl (.cons (.int .i64) .nil)) (.cons (.sl (.cons .str .nil)) (.cons (.sl (.cons .str .nil)) (.cons (.sl (.cons (.int .i64) .nil)) (.cons (.sl (.cons (.int .i64) .nil)) (.cons (.int .i64) .nil)))))))), fun (x : V.D11) => Z105 (V.p11_0 x) (V.p11_1 x), [(0, false), (5, false), (7, false), (12, false), (16, false), (18, false), (20, false)], [(true, 21), (false, 1)], [(false, 1)], [false], []⟩
noncomputable abbrev Z105.E : V.Env := V.mkE V.tys [(155, Z0.con), (156, Z132.con), (157, Z133.con), (158, Z106.con)] [] [] [] [] []
noncomputable abbrev Z105.kt (x0 : TAnswer) (x1 : Int) : V.Kt (List TSigned × List ByteArray × List Int × List ByteArray × List ByteArray × List Int × List Int × Int) := V.ktOf Z105.E Z105.con Tryz.f22 (V.fl11 x0 x1)
noncomputable abbrev Z105.s (x0 : TAnswer) (x1 : Int) : V.St := ⟨[(0, .v true [.ref 0, .val (.bool x0.2.1), .val (.str x0.2.2.1), .val (.int .i64 x0.2.2.2.1), .val (.int .i64 x0.2.2.2.2.1), .ref 5, .val (.int .i64 x0.2.2.2.2.2.2.1), .ref 7, .val (.int .i64 x0.2.2.2.2.2.2.2.2.1), .val (.str x0.2.2.2.2.2.2.2.2.2.1), .val (.int .i64 x0.2.2.2.2.2.2.2.2.2.2.1), .val (.int .i64 x0.2.2.2.2.2.2.2.2.2.2.2.1), .ref 12, .val (.str x0.2.2.2.2.2.2.2.2.2.2.2.2.2.1), .val (.int .i64 x0.2.2.2.2.2.2.2.2.2.2.2.2.2.2.1), .val (.int .i64 x0.2.2.2.2.2.2.2.2.2.2.2.2.2.2.2.1), .ref 16, .val (.int .i64 x0.2.2.2.2.2.2.2.2.2.2.2.2.2.2.2.2.2.1), .ref 18, .val (.int .i64 x0.2.2.2.2.2.2.2.2.2.2.2.2.2.2.2.2.2.2.2.1), .ref 20]), (1, .v false [.val (.int .i64 x1)])], [(0, .row V.eSigned true x0.1), (5, .row (.cons .str .nil) true x0.2.2.2.2.2.1), (7, .row (.cons (.int .i64) .nil) true x0.2.2.2.2.2.2.2.1), (12, .row (.cons .str .nil) true x0.2.2.2.2.2.2.2.2.2.2.2.2.1), (16, .row (.cons .str .nil) true x0.2.2.2.2.2.2.2.2.2.2.2.2.2.2.2.2.1), (18, .row (.cons (.int .i64) .nil) true x0.2.2.2.2.2.2.2.2.2.2.2.2.2.2.2.2.2.2.1), (20, .row (.cons (.int .i64) .nil) true x0.2.2.2.2.2.2.2.2.2.2.2.2.2.2.2.2.2.2.2.2)]⟩
theorem Z105.v0 (x0 : TAnswer) (x1 : Int) : V.evBody Z105.E Z105.con Tryz.f22 (V.fl11 x0 x1) = V.evC Z105.E Tryz.f22.ntmps (V.codeOf Tryz.f22) (Z105.kt x0 x1) (Z105.s x0 x1) := by kernel_rfl
theorem Z105.v (x0 : TAnswer) (x1 : Int) : V.evC Z105.E Tryz.f22.ntmps (V.codeOf Tryz.f22) (Z105.kt x0 x1) (Z105.s x0 x1) = Z105 x0 x1 := by kernel_rfl
theorem Z105.eq (x0 : TAnswer) (x1 : Int) : V.evBody Z105.E Z105.con Tryz.f22 (V.fl11 x0 x1) = Z105 x0 x1 := (Z105.v0 x0 x1).trans (Z105.v x0 x1)
theorem Z105.ok : V.Valid Tryz.prog 22 Z105.con :=
  V.fo (V.tab_cons Z0.ok (V.tab_cons Z132.ok (V.tab_cons Z133.ok (V.tab_cons Z106.ok V.tab_nil)))) Tryz.func22 (by kernel_rfl) (fun x y h => (show V.evBody Z105.E Z105.con Tryz.f22 x = _ from Z105.eq (V.p11_0 x) (V.p11_1 x)).trans (V.cfl (by kernel_rfl) h))
noncomputable abbrev Z18.con : V.Con := ⟨(.cons (.sl (.cons (.int .i64) .nil)) (.cons (.int .i64) .nil)), (.cons (.int .i64) .nil), fun (x : List Int × Int) => Z18 x.1 x.2, [], [(false, 1), (false, 1)], [(false, 1)], [false], []⟩
noncomputable abbrev Z18.E : V.Env := V.mkE V.tys [] [(4, [0, 1, 5], [])] [] [] [] []
noncomputable abbrev Z18.kt (x0 : List Int) (x1 : Int) : V.Kt Int := V.ktOf Z18.E Z18.con Tryz.f93 ((x0, x1) : List Int × Int)
noncomputable abbrev Z18.s4 (x0 : List Int) (v4_1 : Int) (v4_2 : Int) : V.St := ⟨[(0, .v false [.val (.sl (.cons (.int .i64) .nil) x0)]), (1, .v false [.val (.int .i64 v4_1)]), (5, .v false [.val (.int .i64 v4_2)])], []⟩
theorem Z18.r4 (x0 : List Int) (x1 : Int) (R : V.St → Option Int) (v4_1 : Int) (v4_2 : Int) : V.loopF Z18.E Tryz.f93.ntmps [1, 0, 1, 0] [] (V.codeOf Tryz.f93) (Z18.kt x0 x1) R (Z18.s4 x0 v4_1 v4_2) = Z18.g4 x0 (fun v4_1 v4_2 => R (Z18.s4 x0 v4_1 v4_2)) v4_1 v4_2 := by kernel_rfl
theorem Z18.e4 (x0 : List Int) (x1 : Int) : ∀ (n : Nat) (v4_1 : Int) (v4_2 : Int), V.loopN (V.loopF Z18.E Tryz.f93.ntmps [1, 0, 1, 0] [] (V.codeOf Tryz.f93) (Z18.kt x0 x1)) n (Z18.s4 x0 v4_1 v4_2) = Z18.l4 x0 n v4_1 v4_2 := by
  intro n
  induction n with
  | zero => intros; rw [V.loopN_z]; rfl
  | succ n ih =>
    intro v4_1 v4_2
    rw [V.loopN_s, Z18.r4]
    simp only [ih]
    first | exact (Z18.u4 ..).symm | rfl
theorem Z18.v (x0 : List Int) (x1 : Int) : V.evBody Z18.E Z18.con Tryz.f93 ((x0, x1) : List Int × Int) = Z18.b x0 x1 (fun v4_1 v4_2 => V.loopN (V.loopF Z18.E Tryz.f93.ntmps [1, 0, 1, 0] [] (V.codeOf Tryz.f93) (Z18.kt x0 x1)) V.KK (Z18.s4 x0 v4_1 v4_2)) := by kernel_rfl
theorem Z18.eq (x0 : List Int) (x1 : Int) : V.evBody Z18.E Z18.con Tryz.f93 ((x0, x1) : List Int × Int) = Z18 x0 x1 := by
  rw [Z18.v]
  simp only [Z18.e4]
  rfl
theorem Z18.ok : V.Valid Tryz.prog 93 Z18.con :=
  V.fo V.tab_nil Tryz.func93 (by kernel_rfl) (fun x y h => (show V.evBody Z18.E Z18.con Tryz.f93 x = _ from Z18.eq x.1 x.2).trans (V.cfl (by kernel_rfl) h))
noncomputable abbrev Z40.con : V.Con := ⟨(.cons (.sl (.cons (.int .i64) (.cons (.int .i64) .nil))) (.cons (.int .i64) .nil)), (.cons (.int .i64) .nil), fun (x : List TSig × Int) => Z40 x.1 x.2, [], [(false, 1), (false, 1)], [(false, 1)], [false], []⟩
noncomputable abbrev Z40.E : V.Env := V.mkE V.tys [] [(4, [0, 1, 5], [])] [] [] [] []
noncomputable abbrev Z40.kt (x0 : List TSig) (x1 : Int) : V.Kt Int := V.ktOf Z40.E Z40.con Tryz.f301 ((x0, x1) : List TSig × Int)
noncomputable abbrev Z40.s4 (x0 : List TSig) (v4_1 : Int) (v4_2 : Int) : V.St := ⟨[(0, .v false [.val (.sl (.cons (.int .i64) (.cons (.int .i64) .nil)) x0)]), (1, .v false [.val (.int .i64 v4_1)]), (5, .v false [.val (.int .i64 v4_2)])], []⟩
theorem Z40.r4 (x0 : List TSig) (x1 : Int) (R : V.St → Option Int) (v4_1 : Int) (v4_2 : Int) : V.loopF Z40.E Tryz.f301.ntmps [1, 0, 1, 0] [] (V.codeOf Tryz.f301) (Z40.kt x0 x1) R (Z40.s4 x0 v4_1 v4_2) = Z40.g4 x0 (fun v4_1 v4_2 => R (Z40.s4 x0 v4_1 v4_2)) v4_1 v4_2 := by kernel_rfl
theorem Z40.e4 (x0 : List TSig) (x1 : Int) : ∀ (n : Nat) (v4_1 : Int) (v4_2 : Int), V.loopN (V.loopF Z40.E Tryz.f301.ntmps [1, 0, 1, 0] [] (V.codeOf Tryz.f301) (Z40.kt x0 x1)) n (Z40.s4 x0 v4_1 v4_2) = Z40.l4 x0 n v4_1 v4_2 := by
  intro n
  induction n with
  | zero => intros; rw [V.loopN_z]; rfl
  | succ n ih =>
    intro v4_1 v4_2
    rw [V.loopN_s, Z40.r4]
    simp only [ih]
    first | exact (Z40.u4 ..).symm | rfl
theorem Z40.v (x0 : List TSig) (x1 : Int) : V.evBody Z40.E Z40.con Tryz.f301 ((x0, x1) : List TSig × Int) = Z40.b x0 x1 (fun v4_1 v4_2 => V.loopN (V.loopF Z40.E Tryz.f301.ntmps [1, 0, 1, 0] [] (V.codeOf Tryz.f301) (Z40.kt x0 x1)) V.KK (Z40.s4 x0 v4_1 v4_2)) := by kernel_rfl
theorem Z40.eq (x0 : List TSig) (x1 : Int) : V.evBody Z40.E Z40.con Tryz.f301 ((x0, x1) : List TSig × Int) = Z40 x0 x1 := by
  rw [Z40.v]
  simp only [Z40.e4]
  rfl
theorem Z40.ok : V.Valid Tryz.prog 301 Z40.con :=
  V.fo V.tab_nil Tryz.func301 (by kernel_rfl) (fun x y h => (show V.evBody Z40.E Z40.con Tryz.f301 x = _ from Z40.eq x.1 x.2).trans (V.cfl (by kernel_rfl) h))
noncomputable abbrev Z41.con : V.Con := ⟨(.cons (.sl V.eSigned) (.cons (.int .i64) .nil)), (.cons (.int .i64) .nil), fun (x : List TSigned × Int) => Z41 x.1 x.2, [], [(false, 1), (false, 1)], [(false, 1)], [false], []⟩
noncomputable abbrev Z41.E : V.Env := V.mkE V.tys [(93, Z18.con), (301, Z40.con)] [(4, [0, 1, 5], [])] [] [] [] []
noncomputable abbrev Z41.kt (x0 : List TSigned) (x1 : Int) : V.Kt Int := V.ktOf Z41.E Z41.con Tryz.f159 ((x0, x1) : List TSigned × Int)
noncomputable abbrev Z41.s4 (x0 : List TSigned) (v4_1 : Int) (v4_2 : Int) : V.St := ⟨[(0, .v false [.val (.sl V.eSigned x0)]), (1, .v false [.val (.int .i64 v4_1)]), (5, .v false [.val (.int .i64 v4_2)])], []⟩
theorem Z41.r4 (x0 : List TSigned) (x1 : Int) (R : V.St → Option Int) (v4_1 : Int) (v4_2 : Int) : V.loopF Z41.E Tryz.f159.ntmps [1, 0, 1, 0] [] (V.codeOf Tryz.f159) (Z41.kt x0 x1) R (Z41.s4 x0 v4_1 v4_2) = Z41.g4 x0 (fun v4_1 v4_2 => R (Z41.s4 x0 v4_1 v4_2)) v4_1 v4_2 := by kernel_rfl
theorem Z41.e4 (x0 : List TSigned) (x1 : Int) : ∀ (n : Nat) (v4_1 : Int) (v4_2 : Int), V.loopN (V.loopF Z41.E Tryz.f159.ntmps [1, 0, 1, 0] [] (V.codeOf Tryz.f159) (Z41.kt x0 x1)) n (Z41.s4 x0 v4_1 v4_2) = Z41.l4 x0 n v4_1 v4_2 := by
  intro n
  induction n with
  | zero => intros; rw [V.loopN_z]; rfl
  | succ n ih =>
    intro v4_1 v4_2
    rw [V.loopN_s, Z41.r4]
    simp only [ih]
    first | exact (Z41.u4 ..).symm | rfl
theorem Z41.v (x0 : List TSigned) (x1 : Int) : V.evBody Z41.E Z41.con Tryz.f159 ((x0, x1) : List TSigned × Int) = Z41.b x0 x1 (fun v4_1 v4_2 => V.loopN (V.loopF Z41.E Tryz.f159.ntmps [1, 0, 1, 0] [] (V.codeOf Tryz.f159) (Z41.kt x0 x1)) V.KK (Z41.s4 x0 v4_1 v4_2)) := by kernel_rfl
theorem Z41.eq (x0 : List TSigned) (x1 : Int) : V.evBody Z41.E Z41.con Tryz.f159 ((x0, x1) : List TSigned × Int) = Z41 x0 x1 := by
  rw [Z41.v]
  simp only [Z41.e4]
  rfl
theorem Z41.ok : V.Valid Tryz.prog 159 Z41.con :=
  V.fo (V.tab_cons Z18.ok (V.tab_cons Z40.ok V.tab_nil)) Tryz.func159 (by kernel_rfl) (fun x y h => (show V.evBody Z41.E Z41.con Tryz.f159 x = _ from Z41.eq x.1 x.2).trans (V.cfl (by kernel_rfl) h))
noncomputable abbrev Z42.con : V.Con := ⟨(.cons (.sl (.cons .str .nil)) (.cons (.int .i64) .nil)), (.cons (.int .i64) .nil), fun (x : List ByteArray × Int) => Z42 x.1 x.2, [], [(false, 1), (false, 1)], [(false, 1)], [false], []⟩
noncomputable abbrev Z42.E : V.Env := V.mkE V.tys [(163, Z16.con)] [(4, [0, 1, 5], [])] [(4, 6)] [] [] []
noncomputable abbrev Z42.kt (x0 : List ByteArray) (x1 : Int) : V.Kt Int := V.ktOf Z42.E Z42.con Tryz.f165 ((x0, x1) : List ByteArray × Int)
noncomputable abbrev Z42.s4 (x0 : List ByteArray) (v4_1 : Int) (v4_2 : Int) : V.St := ⟨[(0, .v false [.val (.sl (.cons .str .nil) x0)]), (1, .v false [.val (.int .i64 v4_1)]), (5, .v false [.val (.int .i64 v4_2)])], []⟩
theorem Z42.r4 (x0 : List ByteArray) (x1 : Int) (R : V.St → Option Int) (v4_1 : Int) (v4_2 : Int) : V.loopF Z42.E Tryz.f165.ntmps [1, 0, 1, 0] [] (V.codeOf Tryz.f165) (Z42.kt x0 x1) R (Z42.s4 x0 v4_1 v4_2) = Z42.g4 x0 (fun v4_1 v4_2 => R (Z42.s4 x0 v4_1 v4_2)) v4_1 v4_2 := by kernel_rfl
theorem Z42.e4 (x0 : List ByteArray) (x1 : Int) : ∀ (n : Nat) (v4_1 : Int) (v4_2 : Int), V.loopN (V.loopF Z42.E Tryz.f165.ntmps [1, 0, 1, 0] [] (V.codeOf Tryz.f165) (Z42.kt x0 x1)) n (Z42.s4 x0 v4_1 v4_2) = Z42.l4 x0 n v4_1 v4_2 := by
  intro n
  induction n with
  | zero => intros; rw [V.loopN_z]; rfl
  | succ n ih =>
    intro v4_1 v4_2
    rw [V.loopN_s, Z42.r4]
    simp only [ih]
    first | exact (Z42.u4 ..).symm | rfl
theorem Z42.v (x0 : List ByteArray) (x1 : Int) : V.evBody Z42.E Z42.con Tryz.f165 ((x0, x1) : List ByteArray × Int) = Z42.b x0 x1 (fun v4_1 v4_2 => V.loopN (V.loopF Z42.E Tryz.f165.ntmps [1, 0, 1, 0] [] (V.codeOf Tryz.f165) (Z42.kt x0 x1)) V.KK (Z42.s4 x0 v4_1 v4_2)) := by kernel_rfl
theorem Z42.eq (x0 : List ByteArray) (x1 : Int) : V.evBody Z42.E Z42.con Tryz.f165 ((x0, x1) : List ByteArray × Int) = Z42 x0 x1 := by
  rw [Z42.v]
  simp only [Z42.e4]
  rfl
theorem Z42.ok : V.Valid Tryz.prog 165 Z42.con :=
  V.fo (V.tab_cons Z16.ok V.tab_nil) Tryz.func165 (by kernel_rfl) (fun x y h => (show V.evBody Z42.E Z42.con Tryz.f165 x = _ from Z42.eq x.1 x.2).trans (V.cfl (by kernel_rfl) h))
noncomputable abbrev Z130.con : V.Con := ⟨(.cons .str (.cons (.int .i64) (.cons (.int .i64) (.cons (.sl (.cons .str .nil)) (.cons (.int .i64) .nil))))), (.cons (.int .i64) .nil), fun (x : ByteArray × Int × Int × List ByteArray × Int) => Z130 (x.1, x.2.1, x.2.2.1, x.2.2.2.1) x.2.2.2.2, [], [(true, 4), (false, 1)], [(false, 1)], [false], []⟩
noncomputable abbrev Z130.E : V.Env := V.mkE V.tys [(165, Z42.con)] [] [] [] [] []
theorem Z130.eq (x0 : TEntry) (x1 : Int) : V.evBody Z130.E Z130.con Tryz.f160 ((x0.1, x0.2.1, x0.2.2.1, x0.2.2.2, x1) : ByteArray × Int × Int × List ByteArray × Int) = Z130 x0 x1 := by kernel_rfl
theorem Z130.ok : V.Valid Tryz.prog 160 Z130.con :=
  V.fo (V.tab_cons Z42.ok V.tab_nil) Tryz.func160 (by kernel_rfl) (fun x y h => (show V.evBody Z130.E Z130.con Tryz.f160 x = _ from Z130.eq (x.1, x.2.1, x.2.2.1, x.2.2.2.1) x.2.2.2.2).trans (V.cfl (by kernel_rfl) h))
noncomputable abbrev Z131.con : V.Con := ⟨(.cons (.int .i64) (.cons (.sl (.cons (.int .i64) .nil)) (.cons (.int .i64) .nil))), (.cons (.int .i64) .nil), fun (x : Int × List Int × Int) => Z131 (x.1, x.2.1) x.2.2, [], [(true, 2), (false, 1)], [(false, 1)], [false], []⟩
noncomputable abbrev Z131.E : V.Env := V.mkE V.tys [(93, Z18.con)] [] [] [] [] []
theorem Z131.eq (x0 : TProof) (x1 : Int) : V.evBody Z131.E Z131.con Tryz.f161 ((x0.1, x0.2, x1) : Int × List Int × Int) = Z131 x0 x1 := by kernel_rfl
theorem Z131.ok : V.Valid Tryz.prog 161 Z131.con :=
  V.fo (V.tab_cons Z18.ok V.tab_nil) Tryz.func161 (by kernel_rfl) (fun x y h => (show V.evBody Z131.E Z131.con Tryz.f161 x = _ from Z131.eq (x.1, x.2.1) x.2.2).trans (V.cfl (by kernel_rfl) h))
noncomputable abbrev Z104.con : V.Con := ⟨V.A10, (.cons (.int .i64) .nil), fun (x : V.D10) => Z104 (V.p10_0 x) (V.p10_1 x), [], [(true, 13), (false, 1)], [(false, 1)], [false], []⟩
noncomputable abbrev Z104.E : V.Env := V.mkE V.tys [(160, Z130.con), (161, Z131.con)] [] [] [] [] []
noncomputable abbrev Z104.kt (x0 : TGap) (x1 : Int) : V.Kt Int := V.ktOf Z104.E Z104.con Tryz.f162 (V.fl10 x0 x1)
noncomputable abbrev Z104.s (x0 : TGap) (x1 : Int) : V.St := ⟨[(0, .v true (V.lsGap x0)), (1, .v false [.val (.int .i64 x1)])], []⟩
theorem Z104.v0 (x0 : TGap) (x1 : Int) : V.evBody Z104.E Z104.con Tryz.f162 (V.fl10 x0 x1) = V.evC Z104.E Tryz.f162.ntmps (V.codeOf Tryz.f162) (Z104.kt x0 x1) (Z104.s x0 x1) := by kernel_rfl
theorem Z104.v (x0 : TGap) (x1 : Int) : V.evC Z104.E Tryz.f162.ntmps (V.codeOf Tryz.f162) (Z104.kt x0 x1) (Z104.s x0 x1) = Z104 x0 x1 := by kernel_rfl
theorem Z104.eq (x0 : TGap) (x1 : Int) : V.evBody Z104.E Z104.con Tryz.f162 (V.fl10 x0 x1) = Z104 x0 x1 := (Z104.v0 x0 x1).trans (Z104.v x0 x1)
theorem Z104.ok : V.Valid Tryz.prog 162 Z104.con :=
  V.fo (V.tab_cons Z130.ok (V.tab_cons Z131.ok V.tab_nil)) Tryz.func162 (by kernel_rfl) (fun x y h => (show V.evBody Z104.E Z104.con Tryz.f162 x = _ from Z104.eq (V.p10_0 x) (V.p10_1 x)).trans (V.cfl (by kernel_rfl) h))
noncomputable abbrev Z92.con : V.Con := ⟨V.A11, (.cons (.int .i64) .nil), fun (x : V.D11) => Z92 (V.p11_0 x) (V.p11_1 x), [], [(true, 21), (false, 1)], [(false, 1)], [false], []⟩
noncomputable abbrev Z92.E : V.Env := V.mkE V.tys [(159, Z41.con), (160, Z130.con), (161, Z131.con), (162, Z104.con)] [] [] [] [] []
noncomputable abbrev Z92.kt (x0 : TAnswer) (x1 : Int) : V.Kt Int := V.ktOf Z92.E Z92.con Tryz.f23 (V.fl11 x0 x1)
noncomputable abbrev Z92.s (x0 : TAnswer) (x1 : Int) : V.St := ⟨[(0, .v true (V.lsAnswer x0)), (1, .v false [.val (.int .i64 x1)])], []⟩
theorem Z92.v0 (x0 : TAnswer) (x1 : Int) : V.evBody Z92.E Z92.con Tryz.f23 (V.fl11 x0 x1) = V.evC Z92.E Tryz.f23.ntmps (V.codeOf Tryz.f23) (Z92.kt x0 x1) (Z92.s x0 x1) := by kernel_rfl
theorem Z92.v (x0 : TAnswer) (x1 : Int) : V.evC Z92.E Tryz.f23.ntmps (V.codeOf Tryz.f23) (Z92.kt x0 x1) (Z92.s x0 x1) = Z92 x0 x1 := by kernel_rfl
theorem Z92.eq (x0 : TAnswer) (x1 : Int) : V.evBody Z92.E Z92.con Tryz.f23 (V.fl11 x0 x1) = Z92 x0 x1 := (Z92.v0 x0 x1).trans (Z92.v x0 x1)
theorem Z92.ok : V.Valid Tryz.prog 23 Z92.con :=
  V.fo (V.tab_cons Z41.ok (V.tab_cons Z130.ok (V.tab_cons Z131.ok (V.tab_cons Z104.ok V.tab_nil)))) Tryz.func23 (by kernel_rfl) (fun x y h => (show V.evBody Z92.E Z92.con Tryz.f23 x = _ from Z92.eq (V.p11_0 x) (V.p11_1 x)).trans (V.cfl (by kernel_rfl) h))
noncomputable abbrev Z81.con : V.Con := ⟨(.cons (.sl (.cons (.sl V.eSigned) (.cons (.sl V.eEntry) .nil))) (.cons (.int .i64) (.cons (.int .i64) (.cons .str .nil)))), (.cons .bool .nil), fun (x : List TZone × Int × Int × ByteArray) => Z81 (x.1, x.2.1) x.2.2.1 x.2.2.2, [], [(true, 2), (false, 1), (false, 1)], [(false, 1)], [false], []⟩
noncomputable abbrev Z81.E : V.Env := V.mkE V.tys [(15, Z177.con), (16, Z78.con), (17, Z139.con), (18, Z76.con), (19, Z88.con), (20, Z174.con), (21, Z175.con), (22, Z105.con), (23, Z92.con)] [(37, [1, 2, 3, 8, 10], [])] [(12, 3)] [] [] []
noncomputable abbrev Z81.kt (x0 : TServer) (x1 : Int) (x2 : ByteArray) : V.Kt Bool := V.ktOf Z81.E Z81.con Tryz.f3 ((x0.1, x0.2, x1, x2) : List TZone × Int × Int × ByteArray)
noncomputable abbrev Z81.s37 (x0 : TServer) (x1 : Int) (x2 : ByteArray) (y3 : TAnswer) (y5 : TAnswer) : V.St := ⟨[(1, .v false [.val (.int .i64 x1)]), (2, .v false [.val (.str x2)]), (3, .v false [.ptr 64000 0]), (8, .v false [.ptr 512320 0]), (10, .v false [.ptr 640256 0])], [(64000, .box [.val (.sl (.cons (.sl V.eSigned) (.cons (.sl V.eEntry) .nil)) x0.1), .val (.int .i64 x0.2)]), (512320, .box [.ref 64000000000032788480, .val (.bool y3.2.1), .val (.str y3.2.2.1), .val (.int .i64 y3.2.2.2.1), .val (.int .i64 y3.2.2.2.2.1), .ref 64000000000032788485, .val (.int .i64 y3.2.2.2.2.2.2.1), .ref 64000000000032788487, .val (.int .i64 y3.2.2.2.2.2.2.2.2.1), .val (.str y3.2.2.2.2.2.2.2.2.2.1), .val (.int .i64 y3.2.2.2.2.2.2.2.2.2.2.1), .val (.int .i64 y3.2.2.2.2.2.2.2.2.2.2.2.1), .ref 64000000000032788492, .val (.str y3.2.2.2.2.2.2.2.2.2.2.2.2.2.1), .val (.int .i64 y3.2.2.2.2.2.2.2.2.2.2.2.2.2.2.1), .val (.int .i64 y3.2.2.2.2.2.2.2.2.2.2.2.2.2.2.2.1), .ref 64000000000032788496, .val (.int .i64 y3.2.2.2.2.2.2.2.2.2.2.2.2.2.2.2.2.2.1), .ref 64000000000032788498, .val (.int .i64 y3.2.2.2.2.2.2.2.2.2.2.2.2.2.2.2.2.2.2.2.1), .ref 64000000000032788500]), (64000000000032788480, .row V.eSigned true y3.1), (64000000000032788485, .row (.cons .str .nil) true y3.2.2.2.2.2.1), (64000000000032788487, .row (.cons (.int .i64) .nil) true y3.2.2.2.2.2.2.2.1), (64000000000032788492, .row (.cons .str .nil) true y3.2.2.2.2.2.2.2.2.2.2.2.2.1), (64000000000032788496, .row (.cons .str .nil) true y3.2.2.2.2.2.2.2.2.2.2.2.2.2.2.2.2.1), (64000000000032788498, .row (.cons (.int .i64) .nil) true y3.2.2.2.2.2.2.2.2.2.2.2.2.2.2.2.2.2.2.1), (64000000000032788500, .row (.cons (.int .i64) .nil) true y3.2.2.2.2.2.2.2.2.2.2.2.2.2.2.2.2.2.2.2.2), (640256, .box [.ref 64000000000040976384, .val (.bool y5.2.1), .val (.str y5.2.2.1), .val (.int .i64 y5.2.2.2.1), .val (.int .i64 y5.2.2.2.2.1), .ref 64000000000040976389, .val (.int .i64 y5.2.2.2.2.2.2.1), .ref 64000000000040976391, .val (.int .i64 y5.2.2.2.2.2.2.2.2.1), .val (.str y5.2.2.2.2.2.2.2.2.2.1), .val (.int .i64 y5.2.2.2.2.2.2.2.2.2.2.1), .val (.int .i64 y5.2.2.2.2.2.2.2.2.2.2.2.1), .ref 64000000000040976396, .val (.str y5.2.2.2.2.2.2.2.2.2.2.2.2.2.1), .val (.int .i64 y5.2.2.2.2.2.2.2.2.2.2.2.2.2.2.1), .val (.int .i64 y5.2.2.2.2.2.2.2.2.2.2.2.2.2.2.2.1), .ref 64000000000040976400, .val (.int .i64 y5.2.2.2.2.2.2.2.2.2.2.2.2.2.2.2.2.2.1), .ref 64000000000040976402, .val (.int .i64 y5.2.2.2.2.2.2.2.2.2.2.2.2.2.2.2.2.2.2.2.1), .ref 64000000000040976404]), (64000000000040976384, .row V.eSigned true y5.1), (64000000000040976389, .row (.cons .str .nil) true y5.2.2.2.2.2.1), (64000000000040976391, .row (.cons (.int .i64) .nil) true y5.2.2.2.2.2.2.2.1), (64000000000040976396, .row (.cons .str .nil) true y5.2.2.2.2.2.2.2.2.2.2.2.2.1), (64000000000040976400, .row (.cons .str .nil) true y5.2.2.2.2.2.2.2.2.2.2.2.2.2.2.2.2.1), (64000000000040976402, .row (.cons (.int .i64) .nil) true y5.2.2.2.2.2.2.2.2.2.2.2.2.2.2.2.2.2.2.1), (64000000000040976404, .row (.cons (.int .i64) .nil) true y5.2.2.2.2.2.2.2.2.2.2.2.2.2.2.2.2.2.2.2.2)]⟩
theorem Z81.r37 (x0 : TServer) (x1 : Int) (x2 : ByteArray) (y3 : TAnswer) (y5 : TAnswer) : V.joinF Z81.E Tryz.f3.ntmps [1, 1, 1, 1, 1, 1, 1, 1, 1, 1, 1, 1] [] (V.codeOf Tryz.f3) (Z81.kt x0 x1 x2) (Z81.s37 x0 x1 x2 y3 y5) = Z81.g37 x0 x1 x2 y3 y5 := by kernel_rfl
theorem Z81.e37 (x0 : TServer) (x1 : Int) (x2 : ByteArray) (y3 : TAnswer) (y5 : TAnswer) : V.jn (V.joinF Z81.E Tryz.f3.ntmps [1, 1, 1, 1, 1, 1, 1, 1, 1, 1, 1, 1] [] (V.codeOf Tryz.f3) (Z81.kt x0 x1 x2)) (Z81.s37 x0 x1 x2 y3 y5) = Z81.l37 x0 x1 x2 y3 y5 := by
  rw [V.jn_eq, Z81.r37]
  rfl
theorem Z81.v (x0 : TServer) (x1 : Int) (x2 : ByteArray) : V.evBody Z81.E Z81.con Tryz.f3 ((x0.1, x0.2, x1, x2) : List TZone × Int × Int × ByteArray) = Z81.b x0 x1 x2 (fun y3 y5 => V.jn (V.joinF Z81.E Tryz.f3.ntmps [1, 1, 1, 1, 1, 1, 1, 1, 1, 1, 1, 1] [] (V.codeOf Tryz.f3) (Z81.kt x0 x1 x2)) (Z81.s37 x0 x1 x2 y3 y5)) := by kernel_rfl
theorem Z81.eq (x0 : TServer) (x1 : Int) (x2 : ByteArray) : V.evBody Z81.E Z81.con Tryz.f3 ((x0.1, x0.2, x1, x2) : List TZone × Int × Int × ByteArray) = Z81 x0 x1 x2 := by
  rw [Z81.v]
  simp only [Z81.e37]
  rfl
theorem Z81.ok : V.Valid Tryz.prog 3 Z81.con :=
  V.fo (V.tab_cons Z177.ok (V.tab_cons Z78.ok (V.tab_cons Z139.ok (V.tab_cons Z76.ok (V.tab_cons Z88.ok (V.tab_cons Z174.ok (V.tab_cons Z175.ok (V.tab_cons Z105.ok (V.tab_cons Z92.ok V.tab_nil))))))))) Tryz.func3 (by kernel_rfl) (fun x y h => (show V.evBody Z81.E Z81.con Tryz.f3 x = _ from Z81.eq (x.1, x.2.1) x.2.2.1 x.2.2.2).trans (V.cfl (by kernel_rfl) h))
end Go.Proofs.YtmplinobompncaaGreat
