/- That the functions compute it, part 1. -/
import Derived.Test.YtddgjofdkdmmmaaGreatXAskAllWalk0
namespace Go.Proofs.YtddgjofdkdmmmaaGreat
set_option linter.unusedVariables false
set_option maxRecDepth 100000
noncomputable abbrev Z59.con : V.Con := ⟨V.eEntry, (.cons (.sl (.cons (.int .i64) .nil)) .nil), fun (x : ByteArray × Int × Int × List ByteArray) => Z59 x, [], [(true, 4)], [(false, 1)], [true], []⟩
noncomputable abbrev Z59.E : V.Env := V.mkE V.tys [(153, Z143.con)] [(6, [3, 19, 20, 21], [])] [(1, 11)] [] [] []
noncomputable abbrev Z59.kt (x0 : TEntry) : V.Kt (List Int) := V.ktOf Z59.E Z59.con Tryz.f135 ((x0.1, x0.2.1, x0.2.2.1, x0.2.2.2) : ByteArray × Int × Int × List ByteArray)
noncomputable abbrev Z59.s6 (x0 : TEntry) (v6_1 : Int) (v6_2 : Int) (v6_3 : List Int) : V.St := ⟨[(3, .v false [.ref 64000038400192]), (19, .v false [.val (.sl (.cons .str .nil) x0.2.2.2)]), (20, .v false [.val (.int .i64 v6_1)]), (21, .v false [.val (.int .i64 v6_2)])], [(64000038400192, .row (.cons (.int .i64) .nil) true v6_3)]⟩
theorem Z59.r6 (x0 : TEntry) (R : V.St → Option (List Int)) (v6_1 : Int) (v6_2 : Int) (v6_3 : List Int) : V.loopF Z59.E Tryz.f135.ntmps [1, 1, 0, 1, 0] [] (V.codeOf Tryz.f135) (Z59.kt x0) R (Z59.s6 x0 v6_1 v6_2 v6_3) = Z59.g6 x0 (fun v6_1 v6_2 v6_3 => R (Z59.s6 x0 v6_1 v6_2 v6_3)) v6_1 v6_2 v6_3 := by kernel_rfl
theorem Z59.e6 (x0 : TEntry) : ∀ (n : Nat) (v6_1 : Int) (v6_2 : Int) (v6_3 : List Int), V.loopN (V.loopF Z59.E Tryz.f135.ntmps [1, 1, 0, 1, 0] [] (V.codeOf Tryz.f135) (Z59.kt x0)) n (Z59.s6 x0 v6_1 v6_2 v6_3) = Z59.l6 x0 n v6_1 v6_2 v6_3 := by
  intro n
  induction n with
  | zero => intros; rw [V.loopN_z]; rfl
  | succ n ih =>
    intro v6_1 v6_2 v6_3
    rw [V.loopN_s, Z59.r6]
    simp only [ih]
    first | exact (Z59.u6 ..).symm | rfl
theorem Z59.v (x0 : TEntry) : V.evBody Z59.E Z59.con Tryz.f135 ((x0.1, x0.2.1, x0.2.2.1, x0.2.2.2) : ByteArray × Int × Int × List ByteArray) = Z59.b x0 (fun v6_1 v6_2 v6_3 => V.loopN (V.loopF Z59.E Tryz.f135.ntmps [1, 1, 0, 1, 0] [] (V.codeOf Tryz.f135) (Z59.kt x0)) V.KK (Z59.s6 x0 v6_1 v6_2 v6_3)) := by kernel_rfl
theorem Z59.eq (x0 : TEntry) : V.evBody Z59.E Z59.con Tryz.f135 ((x0.1, x0.2.1, x0.2.2.1, x0.2.2.2) : ByteArray × Int × Int × List ByteArray) = Z59 x0 := by
  rw [Z59.v]
  simp only [Z59.e6]
  rfl
theorem Z59.ok : V.Valid Tryz.prog 135 Z59.con :=
  V.fo (V.tab_cons Z143.ok V.tab_nil) Tryz.func135 (by kernel_rfl) (fun x y h => (show V.evBody Z59.E Z59.con Tryz.f135 x = _ from Z59.eq x).trans (V.cfl (by kernel_rfl) h))
noncomputable abbrev Z151.con : V.Con := ⟨V.eEntry, (.cons (.int .i64) .nil), fun (x : ByteArray × Int × Int × List ByteArray) => Z151 x, [], [(true, 4)], [(false, 1)], [false], []⟩
noncomputable abbrev Z151.E : V.Env := V.mkE V.tys [(134, Z15.con), (135, Z59.con)] [] [] [] [] []
theorem Z151.eq (x0 : TEntry) : V.evBody Z151.E Z151.con Tryz.f109 ((x0.1, x0.2.1, x0.2.2.1, x0.2.2.2) : ByteArray × Int × Int × List ByteArray) = Z151 x0 := by kernel_rfl
theorem Z151.ok : V.Valid Tryz.prog 109 Z151.con :=
  V.fo (V.tab_cons Z15.ok (V.tab_cons Z59.ok V.tab_nil)) Tryz.func109 (by kernel_rfl) (fun x y h => (show V.evBody Z151.E Z151.con Tryz.f109 x = _ from Z151.eq x).trans (V.cfl (by kernel_rfl) h))
noncomputable abbrev Z42.con : V.Con := ⟨(.cons (.sl V.eEntry) .nil), (.cons (.sl (.cons (.int .i64) .nil)) .nil), fun (x : List TEntry) => Z42 x, [], [(false, 1)], [(false, 1)], [true], []⟩
noncomputable abbrev Z42.E : V.Env := V.mkE V.tys [(109, Z151.con)] [(6, [3, 7, 8, 9], [(64000038400192, (.cons (.int .i64) .nil), true)])] [] [] [] []
noncomputable abbrev Z42.kt (x0 : List TEntry) : V.Kt (List Int) := V.ktOf Z42.E Z42.con Tryz.f87 ((x0) : List TEntry)
noncomputable abbrev Z42.s6 (x0 : List TEntry) (v6_1 : Int) (v6_2 : Int) (v6_3 : List Int) : V.St := ⟨[(3, .v false [.ref 64000038400192]), (7, .v false [.val (.sl V.eEntry x0)]), (8, .v false [.val (.int .i64 v6_1)]), (9, .v false [.val (.int .i64 v6_2)])], [(64000038400192, .row (.cons (.int .i64) .nil) true v6_3)]⟩
theorem Z42.r6 (x0 : List TEntry) (R : V.St → Option (List Int)) (v6_1 : Int) (v6_2 : Int) (v6_3 : List Int) : V.loopF Z42.E Tryz.f87.ntmps [1, 1, 0, 1, 0] [] (V.codeOf Tryz.f87) (Z42.kt x0) R (Z42.s6 x0 v6_1 v6_2 v6_3) = Z42.g6 x0 (fun v6_1 v6_2 v6_3 => R (Z42.s6 x0 v6_1 v6_2 v6_3)) v6_1 v6_2 v6_3 := by kernel_rfl
theorem Z42.e6 (x0 : List TEntry) : ∀ (n : Nat) (v6_1 : Int) (v6_2 : Int) (v6_3 : List Int), V.loopN (V.loopF Z42.E Tryz.f87.ntmps [1, 1, 0, 1, 0] [] (V.codeOf Tryz.f87) (Z42.kt x0)) n (Z42.s6 x0 v6_1 v6_2 v6_3) = Z42.l6 x0 n v6_1 v6_2 v6_3 := by
  intro n
  induction n with
  | zero => intros; rw [V.loopN_z]; rfl
  | succ n ih =>
    intro v6_1 v6_2 v6_3
    rw [V.loopN_s, Z42.r6]
    simp only [ih]
    first | exact (Z42.u6 ..).symm | rfl
theorem Z42.v (x0 : List TEntry) : V.evBody Z42.E Z42.con Tryz.f87 ((x0) : List TEntry) = Z42.b x0 (fun v6_1 v6_2 v6_3 => V.loopN (V.loopF Z42.E Tryz.f87.ntmps [1, 1, 0, 1, 0] [] (V.codeOf Tryz.f87) (Z42.kt x0)) V.KK (Z42.s6 x0 v6_1 v6_2 v6_3)) := by kernel_rfl
theorem Z42.eq (x0 : List TEntry) : V.evBody Z42.E Z42.con Tryz.f87 ((x0) : List TEntry) = Z42 x0 := by
  rw [Z42.v]
  simp only [Z42.e6]
  rfl
theorem Z42.ok : V.Valid Tryz.prog 87 Z42.con :=
  V.fo (V.tab_cons Z151.ok V.tab_nil) Tryz.func87 (by kernel_rfl) (fun x y h => (show V.evBody Z42.E Z42.con Tryz.f87 x = _ from Z42.eq x).trans (V.cfl (by kernel_rfl) h))
noncomputable abbrev Z129.con : V.Con := ⟨(.cons (.sl (.cons (.int .i64) .nil)) .nil), (.cons (.int .i64) .nil), fun (x : List Int) => Z129 x, [], [(false, 1)], [(false, 1)], [false], []⟩
noncomputable abbrev Z129.E : V.Env := V.mkE V.tys [(134, Z15.con)] [] [] [] [] []
theorem Z129.eq (x0 : List Int) : V.evBody Z129.E Z129.con Tryz.f150 ((x0) : List Int) = Z129 x0 := by kernel_rfl
theorem Z129.ok : V.Valid Tryz.prog 150 Z129.con :=
  V.fo (V.tab_cons Z15.ok V.tab_nil) Tryz.func150 (by kernel_rfl) (fun x y h => (show V.evBody Z129.E Z129.con Tryz.f150 x = _ from Z129.eq x).trans (V.cfl (by kernel_rfl) h))
noncomputable abbrev Z170.con : V.Con := ⟨(.cons (.int .i64) (.cons (.int .i64) .nil)), (.cons (.int .i64) .nil), fun (x : Int × Int) => Z170 x.1 x.2, [], [(false, 1), (false, 1)], [(false, 1)], [false], []⟩
noncomputable abbrev Z170.E : V.Env := V.mkE V.tys [(150, Z129.con)] [] [] [] [] []
theorem Z170.eq (x0 : Int) (x1 : Int) : V.evBody Z170.E Z170.con Tryz.f133 ((x0, x1) : Int × Int) = Z170 x0 x1 := by kernel_rfl
theorem Z170.ok : V.Valid Tryz.prog 133 Z170.con :=
  V.fo (V.tab_cons Z129.ok V.tab_nil) Tryz.func133 (by kernel_rfl) (fun x y h => (show V.evBody Z170.E Z170.con Tryz.f133 x = _ from Z170.eq x.1 x.2).trans (V.cfl (by kernel_rfl) h))
noncomputable abbrev Z31.con : V.Con := ⟨(.cons (.sl (.cons (.int .i64) .nil)) .nil), (.cons (.sl (.cons (.int .i64) .nil)) .nil), fun (x : List Int) => Z31 x, [], [(false, 1)], [(false, 1)], [true], []⟩
noncomputable abbrev Z31.E : V.Env := V.mkE V.tys [(133, Z170.con)] [(6, [0, 3, 4], [(64000038400192, (.cons (.int .i64) .nil), true)])] [(6, 12)] [] [] []
noncomputable abbrev Z31.kt (x0 : List Int) : V.Kt (List Int) := V.ktOf Z31.E Z31.con Tryz.f108 ((x0) : List Int)
noncomputable abbrev Z31.s6 (x0 : List Int) (v6_1 : Int) (v6_2 : List Int) : V.St := ⟨[(0, .v false [.val (.sl (.cons (.int .i64) .nil) x0)]), (3, .v false [.ref 64000038400192]), (4, .v false [.val (.int .i64 v6_1)])], [(64000038400192, .row (.cons (.int .i64) .nil) true v6_2)]⟩
theorem Z31.r6 (x0 : List Int) (R : V.St → Option (List Int)) (v6_1 : Int) (v6_2 : List Int) : V.loopF Z31.E Tryz.f108.ntmps [1, 1, 0, 1, 0] [] (V.codeOf Tryz.f108) (Z31.kt x0) R (Z31.s6 x0 v6_1 v6_2) = Z31.g6 x0 (fun v6_1 v6_2 => R (Z31.s6 x0 v6_1 v6_2)) v6_1 v6_2 := by kernel_rfl
theorem Z31.e6 (x0 : List Int) : ∀ (n : Nat) (v6_1 : Int) (v6_2 : List Int), V.loopN (V.loopF Z31.E Tryz.f108.ntmps [1, 1, 0, 1, 0] [] (V.codeOf Tryz.f108) (Z31.kt x0)) n (Z31.s6 x0 v6_1 v6_2) = Z31.l6 x0 n v6_1 v6_2 := by
  intro n
  induction n with
  | zero => intros; rw [V.loopN_z]; rfl
  | succ n ih =>
    intro v6_1 v6_2
    rw [V.loopN_s, Z31.r6]
    simp only [ih]
    first | exact (Z31.u6 ..).symm | rfl
theorem Z31.v (x0 : List Int) : V.evBody Z31.E Z31.con Tryz.f108 ((x0) : List Int) = Z31.b x0 (fun v6_1 v6_2 => V.loopN (V.loopF Z31.E Tryz.f108.ntmps [1, 1, 0, 1, 0] [] (V.codeOf Tryz.f108) (Z31.kt x0)) V.KK (Z31.s6 x0 v6_1 v6_2)) := by kernel_rfl
theorem Z31.eq (x0 : List Int) : V.evBody Z31.E Z31.con Tryz.f108 ((x0) : List Int) = Z31 x0 := by
  rw [Z31.v]
  simp only [Z31.e6]
  rfl
theorem Z31.ok : V.Valid Tryz.prog 108 Z31.con :=
  V.fo (V.tab_cons Z170.ok V.tab_nil) Tryz.func108 (by kernel_rfl) (fun x y h => (show V.evBody Z31.E Z31.con Tryz.f108 x = _ from Z31.eq x).trans (V.cfl (by kernel_rfl) h))
noncomputable abbrev Z55.con : V.Con := ⟨(.cons (.sl (.cons (.int .i64) .nil)) .nil), (.cons (.int .i64) .nil), fun (x : List Int) => Z55 x, [], [(false, 1)], [(false, 1)], [false], []⟩
noncomputable abbrev Z55.E : V.Env := V.mkE V.tys [(108, Z31.con), (150, Z129.con)] [(6, [0], [(0, (.cons (.int .i64) .nil), false)])] [] [] [] []
noncomputable abbrev Z55.kt (x0 : List Int) : V.Kt Int := V.ktOf Z55.E Z55.con Tryz.f131 ((x0) : List Int)
noncomputable abbrev Z55.s6 (v6_0 : List Int) : V.St := ⟨[(0, .v false [.val (.sl (.cons (.int .i64) .nil) v6_0)])], []⟩
theorem Z55.r6 (x0 : List Int) (R : V.St → Option Int) (v6_0 : List Int) : V.loopF Z55.E Tryz.f131.ntmps [1, 1, 0, 0] [] (V.codeOf Tryz.f131) (Z55.kt x0) R (Z55.s6 v6_0) = Z55.g6 (fun v6_0 => R (Z55.s6 v6_0)) v6_0 := by kernel_rfl
theorem Z55.e6 (x0 : List Int) : ∀ (n : Nat) (v6_0 : List Int), V.loopN (V.loopF Z55.E Tryz.f131.ntmps [1, 1, 0, 0] [] (V.codeOf Tryz.f131) (Z55.kt x0)) n (Z55.s6 v6_0) = Z55.l6 n v6_0 := by
  intro n
  induction n with
  | zero => intros; rw [V.loopN_z]; rfl
  | succ n ih =>
    intro v6_0
    rw [V.loopN_s, Z55.r6]
    simp only [ih]
    first | exact (Z55.u6 ..).symm | rfl
theorem Z55.v (x0 : List Int) : V.evBody Z55.E Z55.con Tryz.f131 ((x0) : List Int) = Z55.b x0 (fun v6_0 => V.loopN (V.loopF Z55.E Tryz.f131.ntmps [1, 1, 0, 0] [] (V.codeOf Tryz.f131) (Z55.kt x0)) V.KK (Z55.s6 v6_0)) := by kernel_rfl
theorem Z55.eq (x0 : List Int) : V.evBody Z55.E Z55.con Tryz.f131 ((x0) : List Int) = Z55 x0 := by
  rw [Z55.v]
  simp only [Z55.e6]
  rfl
theorem Z55.ok : V.Valid Tryz.prog 131 Z55.con :=
  V.fo (V.tab_cons Z31.ok (V.tab_cons Z129.ok V.tab_nil)) Tryz.func131 (by kernel_rfl) (fun x y h => (show V.evBody Z55.E Z55.con Tryz.f131 x = _ from Z55.eq x).trans (V.cfl (by kernel_rfl) h))
noncomputable abbrev Z202.con : V.Con := ⟨(.cons (.int .i64) (.cons (.int .i64) .nil)), (.cons (.int .i64) .nil), fun (x : Int × Int) => Z202 x.1 x.2, [], [(false, 1), (false, 1)], [(false, 1)], [false], []⟩
noncomputable abbrev Z202.E : V.Env := V.mkE V.tys [(150, Z129.con)] [] [] [] [] []
theorem Z202.eq (x0 : Int) (x1 : Int) : V.evBody Z202.E Z202.con Tryz.f130 ((x0, x1) : Int × Int) = Z202 x0 x1 := by kernel_rfl
theorem Z202.ok : V.Valid Tryz.prog 130 Z202.con :=
  V.fo (V.tab_cons Z129.ok V.tab_nil) Tryz.func130 (by kernel_rfl) (fun x y h => (show V.evBody Z202.E Z202.con Tryz.f130 x = _ from Z202.eq x.1 x.2).trans (V.cfl (by kernel_rfl) h))
noncomputable abbrev Z171.con : V.Con := ⟨(.cons (.sl V.eEntry) .nil), (.cons (.int .i64) .nil), fun (x : List TEntry) => Z171 x, [], [(false, 1)], [(false, 1)], [false], []⟩
noncomputable abbrev Z171.E : V.Env := V.mkE V.tys [(87, Z42.con), (130, Z202.con), (131, Z55.con)] [] [] [] [] []
theorem Z171.eq (x0 : List TEntry) : V.evBody Z171.E Z171.con Tryz.f105 ((x0) : List TEntry) = Z171 x0 := by kernel_rfl
theorem Z171.ok : V.Valid Tryz.prog 105 Z171.con :=
  V.fo (V.tab_cons Z42.ok (V.tab_cons Z202.ok (V.tab_cons Z55.ok V.tab_nil))) Tryz.func105 (by kernel_rfl) (fun x y h => (show V.evBody Z171.E Z171.con Tryz.f105 x = _ from Z171.eq x).trans (V.cfl (by kernel_rfl) h))
noncomputable abbrev Z163.con : V.Con := ⟨(.cons (.int .i64) (.cons (.sl V.eEntry) .nil)), (.cons .bool .nil), fun (x : Int × List TEntry) => Z163 x.1 x.2, [], [(false, 1), (false, 1)], [(false, 1)], [false], []⟩
noncomputable abbrev Z163.E : V.Env := V.mkE V.tys [(88, Z23.con), (105, Z171.con)] [] [] [] [] []
theorem Z163.eq (x0 : Int) (x1 : List TEntry) : V.evBody Z163.E Z163.con Tryz.f80 ((x0, x1) : Int × List TEntry) = Z163 x0 x1 := by kernel_rfl
theorem Z163.ok : V.Valid Tryz.prog 80 Z163.con :=
  V.fo (V.tab_cons Z23.ok (V.tab_cons Z171.ok V.tab_nil)) Tryz.func80 (by kernel_rfl) (fun x y h => (show V.evBody Z163.E Z163.con Tryz.f80 x = _ from Z163.eq x.1 x.2).trans (V.cfl (by kernel_rfl) h))
noncomputable abbrev Z138.con : V.Con := ⟨(.cons (.sl V.eSigned) (.cons (.sl V.eEntry) .nil)), (.cons .bool .nil), fun (x : List TSigned × List TEntry) => Z138 x, [], [(true, 2)], [(false, 1)], [false], []⟩
noncomputable abbrev Z138.E : V.Env := V.mkE V.tys [(78, Z139.con), (79, Z164.con), (80, Z163.con)] [] [] [] [] []
theorem Z138.eq (x0 : TZone) : V.evBody Z138.E Z138.con Tryz.f54 ((x0.1, x0.2) : List TSigned × List TEntry) = Z138 x0 := by kernel_rfl
theorem Z138.ok : V.Valid Tryz.prog 54 Z138.con :=
  V.fo (V.tab_cons Z139.ok (V.tab_cons Z164.ok (V.tab_cons Z163.ok V.tab_nil))) Tryz.func54 (by kernel_rfl) (fun x y h => (show V.evBody Z138.E Z138.con Tryz.f54 x = _ from Z138.eq x).trans (V.cfl (by kernel_rfl) h))
noncomputable abbrev Z174.con : V.Con := ⟨(.cons (.sl V.eSigned) (.cons (.sl V.eEntry) .nil)), (.cons (.int .i64) .nil), fun (x : List TSigned × List TEntry) => Z174 x, [], [(true, 2)], [(false, 1)], [false], []⟩
noncomputable abbrev Z174.E : V.Env := V.mkE V.tys [(54, Z138.con), (78, Z139.con)] [] [] [] [] []
theorem Z174.eq (x0 : TZone) : V.evBody Z174.E Z174.con Tryz.f53 ((x0.1, x0.2) : List TSigned × List TEntry) = Z174 x0 := by kernel_rfl
theorem Z174.ok : V.Valid Tryz.prog 53 Z174.con :=
  V.fo (V.tab_cons Z138.ok (V.tab_cons Z139.ok V.tab_nil)) Tryz.func53 (by kernel_rfl) (fun x y h => (show V.evBody Z174.E Z174.con Tryz.f53 x = _ from Z174.eq x).trans (V.cfl (by kernel_rfl) h))
noncomputable abbrev Z200.con : V.Con := ⟨(.cons (.sl V.eSigned) (.cons (.sl V.eEntry) (.cons (.ptr (.cons (.int .i64) .nil)) .nil))), (.cons .bool .nil), fun (x : List TSigned × List TEntry × Int) => Z200 (x.1, x.2.1) x.2.2, [], [(true, 2), (false, 1)], [(false, 1)], [false], []⟩
noncomputable abbrev Z200.E : V.Env := V.mkE V.tys [(53, Z174.con)] [] [(1, 3)] [] [] []
theorem Z200.eq (x0 : TZone) (x1 : Int) : V.evBody Z200.E Z200.con Tryz.f52 ((x0.1, x0.2, x1) : List TSigned × List TEntry × Int) = Z200 x0 x1 := by kernel_rfl
theorem Z200.ok : V.Valid Tryz.prog 52 Z200.con :=
  V.fo (V.tab_cons Z174.ok V.tab_nil) Tryz.func52 (by kernel_rfl) (fun x y h => (show V.evBody Z200.E Z200.con Tryz.f52 x = _ from Z200.eq (x.1, x.2.1) x.2.2).trans (V.cfl (by kernel_rfl) h))
noncomputable abbrev Z82.con : V.Con := ⟨(.cons (.sl (.cons (.sl V.eSigned) (.cons (.sl V.eEntry) .nil))) (.cons (.fn 52 false .nil (.cons (.ptr (.cons (.int .i64) .nil)) .nil)) .nil)), (.cons (.int .i64) .nil), fun (x : List TZone × (Unit) × (Int)) => Z82 x.1 x.2, [], [(false, 1), (false, 1)], [(false, 1)], [false], []⟩
noncomputable abbrev Z82.E : V.Env := V.mkE V.tys [(52, Z200.con)] [(4, [0, 1, 7, 8], [])] [] [] [] []
noncomputable abbrev Z82.kt (x0 : List TZone) (x1 : (Unit) × (Int)) : V.Kt Int := V.ktOf Z82.E Z82.con Tryz.f51 ((x0, x1) : List TZone × (Unit) × (Int))
noncomputable abbrev Z82.s4 (x0 : List TZone) (x1 : (Unit) × (Int)) (v4_2 : Int) (v4_3 : Int) : V.St := ⟨[(0, .v false [.val (.sl (.cons (.sl V.eSigned) (.cons (.sl V.eEntry) .nil)) x0)]), (1, .v false [.val (.fn 52 false .nil (.cons (.ptr (.cons (.int .i64) .nil)) .nil) () x1.2)]), (7, .v false [.val (.int .i64 v4_2)]), (8, .v false [.val (.int .i64 v4_3)])], []⟩
theorem Z82.r4 (x0 : List TZone) (x1 : (Unit) × (Int)) (R : V.St → Option Int) (v4_2 : Int) (v4_3 : Int) : V.loopF Z82.E Tryz.f51.ntmps [1, 0, 1, 0] [] (V.codeOf Tryz.f51) (Z82.kt x0 x1) R (Z82.s4 x0 x1 v4_2 v4_3) = Z82.g4 x0 x1 (fun v4_2 v4_3 => R (Z82.s4 x0 x1 v4_2 v4_3)) v4_2 v4_3 := by kernel_rfl
theorem Z82.e4 (x0 : List TZone) (x1 : (Unit) × (Int)) : ∀ (n : Nat) (v4_2 : Int) (v4_3 : Int), V.loopN (V.loopF Z82.E Tryz.f51.ntmps [1, 0, 1, 0] [] (V.codeOf Tryz.f51) (Z82.kt x0 x1)) n (Z82.s4 x0 x1 v4_2 v4_3) = Z82.l4 x0 x1 n v4_2 v4_3 := by
  intro n
  induction n with
  | zero => intros; rw [V.loopN_z]; rfl
  | succ n ih =>
    intro v4_2 v4_3
    rw [V.loopN_s, Z82.r4]
    simp only [ih]
    first | exact (Z82.u4 ..).symm | rfl
theorem Z82.v (x0 : List TZone) (x1 : (Unit) × (Int)) : V.evBody Z82.E Z82.con Tryz.f51 ((x0, x1) : List TZone × (Unit) × (Int)) = Z82.b x0 x1 (fun v4_2 v4_3 => V.loopN (V.loopF Z82.E Tryz.f51.ntmps [1, 0, 1, 0] [] (V.codeOf Tryz.f51) (Z82.kt x0 x1)) V.KK (Z82.s4 x0 x1 v4_2 v4_3)) := by kernel_rfl
theorem Z82.eq (x0 : List TZone) (x1 : (Unit) × (Int)) : V.evBody Z82.E Z82.con Tryz.f51 ((x0, x1) : List TZone × (Unit) × (Int)) = Z82 x0 x1 := by
  rw [Z82.v]
  simp only [Z82.e4]
  rfl
theorem Z82.ok : V.Valid Tryz.prog 51 Z82.con :=
  V.fo (V.tab_cons Z200.ok V.tab_nil) Tryz.func51 (by kernel_rfl) (fun x y h => (show V.evBody Z82.E Z82.con Tryz.f51 x = _ from Z82.eq x.1 x.2).trans (V.cfl (by kernel_rfl) h))
noncomputable abbrev Z172.con : V.Con := ⟨(.cons (.sl (.cons (.sl V.eSigned) (.cons (.sl V.eEntry) .nil))) (.cons (.int .i64) (.cons (.int .i64) .nil))), (.cons (.int .i64) .nil), fun (x : List TZone × Int × Int) => Z172 (x.1, x.2.1) x.2.2, [], [(true, 2), (false, 1)], [(false, 1)], [false], []⟩
noncomputable abbrev Z172.E : V.Env := V.mkE V.tys [(51, Z82.con)] [] [] [] [] []
theorem Z172.eq (x0 : TServer) (x1 : Int) : V.evBody Z172.E Z172.con Tryz.f31 ((x0.1, x0.2, x1) : List TZone × Int × Int) = Z172 x0 x1 := by kernel_rfl
theorem Z172.ok : V.Valid Tryz.prog 31 Z172.con :=
  V.fo (V.tab_cons Z82.ok V.tab_nil) Tryz.func31 (by kernel_rfl) (fun x y h => (show V.evBody Z172.E Z172.con Tryz.f31 x = _ from Z172.eq (x.1, x.2.1) x.2.2).trans (V.cfl (by kernel_rfl) h))
noncomputable abbrev Z181.con : V.Con := ⟨(.cons (.sl (.cons (.int .i64) .nil)) .nil), (.cons (.sl (.cons (.int .i64) .nil)) .nil), fun (x : List Int) => Z181 x, [], [(false, 1)], [(false, 1)], [true], []⟩
noncomputable abbrev Z181.E : V.Env := V.mkE V.tys [] [] [] [] [] []
theorem Z181.eq (x0 : List Int) : V.evBody Z181.E Z181.con Tryz.f151 ((x0) : List Int) = Z181 x0 := by kernel_rfl
theorem Z181.ok : V.Valid Tryz.prog 151 Z181.con :=
  V.fo V.tab_nil Tryz.func151 (by kernel_rfl) (fun x y h => (show V.evBody Z181.E Z181.con Tryz.f151 x = _ from Z181.eq x).trans (V.cfl (by kernel_rfl) h))
noncomputable abbrev Z145.con : V.Con := ⟨(.cons (.sl (.cons (.int .i64) .nil)) (.cons (.int .i64) .nil)), (.cons (.sl (.cons (.int .i64) .nil)) (.cons (.int .i64) .nil)), fun (x : List Int × Int) => Z145 x, [], [(true, 2)], [(true, 2)], [true, false], []⟩
noncomputable abbrev Z145.E : V.Env := V.mkE V.tys [(151, Z181.con)] [] [(1, 5)] [] [] []
theorem Z145.eq (x0 : TKeys) : V.evBody Z145.E Z145.con Tryz.f132 ((x0.1, x0.2) : List Int × Int) = Z145 x0 := by kernel_rfl
theorem Z145.ok : V.Valid Tryz.prog 132 Z145.con :=
  V.fo (V.tab_cons Z181.ok V.tab_nil) Tryz.func132 (by kernel_rfl) (fun x y h => (show V.evBody Z145.E Z145.con Tryz.f132 x = _ from Z145.eq x).trans (V.cfl (by kernel_rfl) h))
noncomputable abbrev Z107.con : V.Con := ⟨V.A2, V.eHead, fun (x : V.D2) => Z107 (V.p2_0 x), [], [(true, 16)], [(true, 16)], [false, false, false, false, false, false, false, false, true, false, true, false, false, true, false, false], []⟩
noncomputable abbrev Z107.E : V.Env := V.mkE V.tys [(132, Z145.con)] [] [(1, 10)] [] [] []
noncomputable abbrev Z107.kt (x0 : THead) : V.Kt THead := V.ktOf Z107.E Z107.con Tryz.f106 (V.fl2 x0)
noncomputable abbrev Z107.s (x0 : THead) : V.St := ⟨[(0, .v true (V.lsHead x0))], []⟩
theorem Z107.v0 (x0 : THead) : V.evBody Z107.E Z107.con Tryz.f106 (V.fl2 x0) = V.evC Z107.E Tryz.f106.ntmps (V.codeOf Tryz.f106) (Z107.kt x0) (Z107.s x0) := by kernel_rfl
theorem Z107.v (x0 : THead) : V.evC Z107.E Tryz.f106.ntmps (V.codeOf Tryz.f106) (Z107.kt x0) (Z107.s x0) = Z107 x0 := by kernel_rfl
theorem Z107.eq (x0 : THead) : V.evBody Z107.E Z107.con Tryz.f106 (V.fl2 x0) = Z107 x0 := (Z107.v0 x0).trans (Z107.v x0)
theorem Z107.ok : V.Valid Tryz.prog 106 Z107.con :=
  V.fo (V.tab_cons Z145.ok V.tab_nil) Tryz.func106 (by kernel_rfl) (fun x y h => (show V.evBody Z107.E Z107.con Tryz.f106 x = _ from Z107.eq (V.p2_0 x)).trans (V.cfl (by kernel_rfl) h))
noncomputable abbrev Z180.con : V.Con := ⟨(.cons (.sl (.cons (.int .i64) (.cons (.int .i64) .nil))) .nil), (.cons (.sl (.cons (.int .i64) (.cons (.int .i64) .nil))) .nil), fun (x : List TSig) => Z180 x, [], [(false, 1)], [(false, 1)], [true], []⟩
noncomputable abbrev Z180.E : V.Env := V.mkE V.tys [] [] [] [] [] []
theorem Z180.eq (x0 : List TSig) : V.evBody Z180.E Z180.con Tryz.f107 ((x0) : List TSig) = Z180 x0 := by kernel_rfl
theorem Z180.ok : V.Valid Tryz.prog 107 Z180.con :=
  V.fo V.tab_nil Tryz.func107 (by kernel_rfl) (fun x y h => (show V.evBody Z180.E Z180.con Tryz.f107 x = _ from Z180.eq x).trans (V.cfl (by kernel_rfl) h))
noncomputable abbrev Z98.con : V.Con := ⟨V.A3, V.eSigned, fun (x : V.D3) => Z98 (V.p3_0 x), [], [(true, 17)], [(true, 17)], [false, false, false, false, false, false, false, false, true, false, true, false, false, true, false, false, true], []⟩
noncomputable abbrev Z98.E : V.Env := V.mkE V.tys [(106, Z107.con), (107, Z180.con)] [] [(1, 5)] [] [] []
noncomputable abbrev Z98.kt (x0 : TSigned) : V.Kt TSigned := V.ktOf Z98.E Z98.con Tryz.f82 (V.fl3 x0)
noncomputable abbrev Z98.s (x0 : TSigned) : V.St := ⟨[(0, .v true (V.lsSigned x0))], []⟩
theorem Z98.v0 (x0 : TSigned) : V.evBody Z98.E Z98.con Tryz.f82 (V.fl3 x0) = V.evC Z98.E Tryz.f82.ntmps (V.codeOf Tryz.f82) (Z98.kt x0) (Z98.s x0) := by kernel_rfl
theorem Z98.v (x0 : TSigned) : V.evC Z98.E Tryz.f82.ntmps (V.codeOf Tryz.f82) (Z98.kt x0) (Z98.s x0) = Z98 x0 := by kernel_rfl
theorem Z98.eq (x0 : TSigned) : V.evBody Z98.E Z98.con Tryz.f82 (V.fl3 x0) = Z98 x0 := (Z98.v0 x0).trans (Z98.v x0)
theorem Z98.ok : V.Valid Tryz.prog 82 Z98.con :=
  V.fo (V.tab_cons Z107.ok (V.tab_cons Z180.ok V.tab_nil)) Tryz.func82 (by kernel_rfl) (fun x y h => (show V.evBody Z98.E Z98.con Tryz.f82 x = _ from Z98.eq (V.p3_0 x)).trans (V.cfl (by kernel_rfl) h))
noncomputable abbrev Z61.con : V.Con := ⟨(.cons (.sl V.eSigned) .nil), (.cons (.sl V.eSigned) .nil), fun (x : List TSigned) => Z61 x, [], [(false, 1)], [(false, 1)], [true], []⟩
noncomputable abbrev Z61.E : V.Env := V.mkE V.tys [(82, Z98.con)] [(6, [3, 7, 8, 9], [(64000038400192, V.eSigned, true)])] [] [] [] []
noncomputable abbrev Z61.kt (x0 : List TSigned) : V.Kt (List TSigned) := V.ktOf Z61.E Z61.con Tryz.f56 ((x0) : List TSigned)
noncomputable abbrev Z61.s6 (x0 : List TSigned) (v6_1 : Int) (v6_2 : Int) (v6_3 : List TSigned) : V.St := ⟨[(3, .v false [.ref 64000038400192]), (7, .v false [.val (.sl V.eSigned x0)]), (8, .v false [.val (.int .i64 v6_1)]), (9, .v false [.val (.int .i64 v6_2)])], [(64000038400192, .row V.eSigned true v6_3)]⟩
theorem Z61.r6 (x0 : List TSigned) (R : V.St → Option (List TSigned)) (v6_1 : Int) (v6_2 : Int) (v6_3 : List TSigned) : V.loopF Z61.E Tryz.f56.ntmps [1, 1, 0, 1, 0] [] (V.codeOf Tryz.f56) (Z61.kt x0) R (Z61.s6 x0 v6_1 v6_2 v6_3) = Z61.g6 x0 (fun v6_1 v6_2 v6_3 => R (Z61.s6 x0 v6_1 v6_2 v6_3)) v6_1 v6_2 v6_3 := by kernel_rfl
theorem Z61.e6 (x0 : List TSigned) : ∀ (n : Nat) (v6_1 : Int) (v6_2 : Int) (v6_3 : List TSigned), V.loopN (V.loopF Z61.E Tryz.f56.ntmps [1, 1, 0, 1, 0] [] (V.codeOf Tryz.f56) (Z61.kt x0)) n (Z61.s6 x0 v6_1 v6_2 v6_3) = Z61.l6 x0 n v6_1 v6_2 v6_3 := by
  intro n
  induction n with
  | zero => intros; rw [V.loopN_z]; rfl
  | succ n ih =>
    intro v6_1 v6_2 v6_3
    rw [V.loopN_s, Z61.r6]
    simp only [ih]
    first | exact (Z61.u6 ..).symm | rfl
theorem Z61.v (x0 : List TSigned) : V.evBody Z61.E Z61.con Tryz.f56 ((x0) : List TSigned) = Z61.b x0 (fun v6_1 v6_2 v6_3 => V.loopN (V.loopF Z61.E Tryz.f56.ntmps [1, 1, 0, 1, 0] [] (V.codeOf Tryz.f56) (Z61.kt x0)) V.KK (Z61.s6 x0 v6_1 v6_2 v6_3)) := by kernel_rfl
theorem Z61.eq (x0 : List TSigned) : V.evBody Z61.E Z61.con Tryz.f56 ((x0) : List TSigned) = Z61 x0 := by
  rw [Z61.v]
  simp only [Z61.e6]
  rfl
theorem Z61.ok : V.Valid Tryz.prog 56 Z61.con :=
  V.fo (V.tab_cons Z98.ok V.tab_nil) Tryz.func56 (by kernel_rfl) (fun x y h => (show V.evBody Z61.E Z61.con Tryz.f56 x = _ from Z61.eq x).trans (V.cfl (by kernel_rfl) h))
noncomputable abbrev Z198.con : V.Con := ⟨(.cons .str (.cons (.int .i64) (.cons (.int .i64) (.cons (.sl (.cons .str .nil)) (.cons (.ptr (.cons .str .nil)) .nil))))), (.cons .bool .nil), fun (x : ByteArray × Int × Int × List ByteArray × ByteArray) => Z198 (x.1, x.2.1, x.2.2.1, x.2.2.2.1) x.2.2.2.2, [], [(true, 4), (false, 1)], [(false, 1)], [false], []⟩
noncomputable abbrev Z198.E : V.Env := V.mkE V.tys [] [] [] [] [] []
theorem Z198.eq (x0 : TEntry) (x1 : ByteArray) : V.evBody Z198.E Z198.con Tryz.f84 ((x0.1, x0.2.1, x0.2.2.1, x0.2.2.2, x1) : ByteArray × Int × Int × List ByteArray × ByteArray) = Z198 x0 x1 := by kernel_rfl
theorem Z198.ok : V.Valid Tryz.prog 84 Z198.con :=
  V.fo V.tab_nil Tryz.func84 (by kernel_rfl) (fun x y h => (show V.evBody Z198.E Z198.con Tryz.f84 x = _ from Z198.eq (x.1, x.2.1, x.2.2.1, x.2.2.2.1) x.2.2.2.2).trans (V.cfl (by kernel_rfl) h))
noncomputable abbrev Z81.con : V.Con := ⟨(.cons (.sl V.eEntry) (.cons (.fn 84 false .nil (.cons (.ptr (.cons .str .nil)) .nil)) .nil)), (.cons (.int .i64) .nil), fun (x : List TEntry × (Unit) × (ByteArray)) => Z81 x.1 x.2, [], [(false, 1), (false, 1)], [(false, 1)], [false], []⟩
noncomputable abbrev Z81.E : V.Env := V.mkE V.tys [(84, Z198.con)] [(4, [0, 1, 7, 8], [])] [] [] [] []
noncomputable abbrev Z81.kt (x0 : List TEntry) (x1 : (Unit) × (ByteArray)) : V.Kt Int := V.ktOf Z81.E Z81.con Tryz.f83 ((x0, x1) : List TEntry × (Unit) × (ByteArray))
noncomputable abbrev Z81.s4 (x0 : List TEntry) (x1 : (Unit) × (ByteArray)) (v4_2 : Int) (v4_3 : Int) : V.St := ⟨[(0, .v false [.val (.sl V.eEntry x0)]), (1, .v false [.val (.fn 84 false .nil (.cons (.ptr (.cons .str .nil)) .nil) () x1.2)]), (7, .v false [.val (.int .i64 v4_2)]), (8, .v false [.val (.int .i64 v4_3)])], []⟩
theorem Z81.r4 (x0 : List TEntry) (x1 : (Unit) × (ByteArray)) (R : V.St → Option Int) (v4_2 : Int) (v4_3 : Int) : V.loopF Z81.E Tryz.f83.ntmps [1, 0, 1, 0] [] (V.codeOf Tryz.f83) (Z81.kt x0 x1) R (Z81.s4 x0 x1 v4_2 v4_3) = Z81.g4 x0 x1 (fun v4_2 v4_3 => R (Z81.s4 x0 x1 v4_2 v4_3)) v4_2 v4_3 := by kernel_rfl
theorem Z81.e4 (x0 : List TEntry) (x1 : (Unit) × (ByteArray)) : ∀ (n : Nat) (v4_2 : Int) (v4_3 : Int), V.loopN (V.loopF Z81.E Tryz.f83.ntmps [1, 0, 1, 0] [] (V.codeOf Tryz.f83) (Z81.kt x0 x1)) n (Z81.s4 x0 x1 v4_2 v4_3) = Z81.l4 x0 x1 n v4_2 v4_3 := by
  intro n
  induction n with
  | zero => intros; rw [V.loopN_z]; rfl
  | succ n ih =>
    intro v4_2 v4_3
    rw [V.loopN_s, Z81.r4]
    simp only [ih]
    first | exact (Z81.u4 ..).symm | rfl
theorem Z81.v (x0 : List TEntry) (x1 : (Unit) × (ByteArray)) : V.evBody Z81.E Z81.con Tryz.f83 ((x0, x1) : List TEntry × (Unit) × (ByteArray)) = Z81.b x0 x1 (fun v4_2 v4_3 => V.loopN (V.loopF Z81.E Tryz.f83.ntmps [1, 0, 1, 0] [] (V.codeOf Tryz.f83) (Z81.kt x0 x1)) V.KK (Z81.s4 x0 x1 v4_2 v4_3)) := by kernel_rfl
theorem Z81.eq (x0 : List TEntry) (x1 : (Unit) × (ByteArray)) : V.evBody Z81.E Z81.con Tryz.f83 ((x0, x1) : List TEntry × (Unit) × (ByteArray)) = Z81 x0 x1 := by
  rw [Z81.v]
  simp only [Z81.e4]
  rfl
theorem Z81.ok : V.Valid Tryz.prog 83 Z81.con :=
  V.fo (V.tab_cons Z198.ok V.tab_nil) Tryz.func83 (by kernel_rfl) (fun x y h => (show V.evBody Z81.E Z81.con Tryz.f83 x = _ from Z81.eq x.1 x.2).trans (V.cfl (by kernel_rfl) h))
noncomputable abbrev Z127.con : V.Con := ⟨(.cons (.sl V.eEntry) (.cons .str .nil)), (.cons (.int .i64) .nil), fun (x : List TEntry × ByteArray) => Z127 x.1 x.2, [], [(false, 1), (false, 1)], [(false, 1)], [false], []⟩
noncomputable abbrev Z127.E : V.Env := V.mkE V.tys [(83, Z81.con)] [] [] [] [] []
theorem Z127.eq (x0 : List TEntry) (x1 : ByteArray) : V.evBody Z127.E Z127.con Tryz.f57 ((x0, x1) : List TEntry × ByteArray) = Z127 x0 x1 := by kernel_rfl
theorem Z127.ok : V.Valid Tryz.prog 57 Z127.con :=
  V.fo (V.tab_cons Z81.ok V.tab_nil) Tryz.func57 (by kernel_rfl) (fun x y h => (show V.evBody Z127.E Z127.con Tryz.f57 x = _ from Z127.eq x.1 x.2).trans (V.cfl (by kernel_rfl) h))
noncomputable abbrev Z182.con : V.Con := ⟨(.cons (.sl (.cons .str .nil)) .nil), (.cons (.sl (.cons .str .nil)) .nil), fun (x : List ByteArray) => Z182 x, [], [(false, 1)], [(false, 1)], [true], []⟩
noncomputable abbrev Z182.E : V.Env := V.mkE V.tys [] [] [] [] [] []
theorem Z182.eq (x0 : List ByteArray) : V.evBody Z182.E Z182.con Tryz.f85 ((x0) : List ByteArray) = Z182 x0 := by kernel_rfl
theorem Z182.ok : V.Valid Tryz.prog 85 Z182.con :=
  V.fo V.tab_nil Tryz.func85 (by kernel_rfl) (fun x y h => (show V.evBody Z182.E Z182.con Tryz.f85 x = _ from Z182.eq x).trans (V.cfl (by kernel_rfl) h))
noncomputable abbrev Z128.con : V.Con := ⟨V.eEntry, V.eEntry, fun (x : ByteArray × Int × Int × List ByteArray) => Z128 x, [], [(true, 4)], [(true, 4)], [false, false, false, true], []⟩
noncomputable abbrev Z128.E : V.Env := V.mkE V.tys [(85, Z182.con)] [] [] [] [] []
theorem Z128.eq (x0 : TEntry) : V.evBody Z128.E Z128.con Tryz.f58 ((x0.1, x0.2.1, x0.2.2.1, x0.2.2.2) : ByteArray × Int × Int × List ByteArray) = Z128 x0 := by kernel_rfl
theorem Z128.ok : V.Valid Tryz.prog 58 Z128.con :=
  V.fo (V.tab_cons Z182.ok V.tab_nil) Tryz.func58 (by kernel_rfl) (fun x y h => (show V.evBody Z128.E Z128.con Tryz.f58 x = _ from Z128.eq x).trans (V.cfl (by kernel_rfl) h))
noncomputable abbrev Z52.con : V.Con := ⟨(.cons (.sl (.cons (.int .i64) .nil)) (.cons (.int .i64) .nil)), (.cons (.sl (.cons (.int .i64) .nil)) .nil), fun (x : List Int × Int) => Z52 x.1 x.2, [], [(false, 1), (false, 1)], [(false, 1)], [true], []⟩
noncomputable abbrev Z52.E : V.Env := V.mkE V.tys [(81, Z84.con), (108, Z31.con)] [(8, [0, 1, 5], [(0, (.cons (.int .i64) .nil), false), (64000051200320, (.cons (.int .i64) .nil), true)])] [] [] [] []
noncomputable abbrev Z52.kt (x0 : List Int) (x1 : Int) : V.Kt (List Int) := V.ktOf Z52.E Z52.con Tryz.f86 ((x0, x1) : List Int × Int)
noncomputable abbrev Z52.s8 (v8_0 : List Int) (v8_1 : Int) (v8_2 : List Int) : V.St := ⟨[(0, .v false [.val (.sl (.cons (.int .i64) .nil) v8_0)]), (1, .v false [.val (.int .i64 v8_1)]), (5, .v false [.ref 64000051200320])], [(64000051200320, .row (.cons (.int .i64) .nil) true v8_2)]⟩
theorem Z52.r8 (x0 : List Int) (x1 : Int) (R : V.St → Option (List Int)) (v8_0 : List Int) (v8_1 : Int) (v8_2 : List Int) : V.loopF Z52.E Tryz.f86.ntmps [1, 1, 1, 0, 0] [] (V.codeOf Tryz.f86) (Z52.kt x0 x1) R (Z52.s8 v8_0 v8_1 v8_2) = Z52.g8 (fun v8_0 v8_1 v8_2 => R (Z52.s8 v8_0 v8_1 v8_2)) v8_0 v8_1 v8_2 := by kernel_rfl
theorem Z52.e8 (x0 : List Int) (x1 : Int) : ∀ (n : Nat) (v8_0 : List Int) (v8_1 : Int) (v8_2 : List Int), V.loopN (V.loopF Z52.E Tryz.f86.ntmps [1, 1, 1, 0, 0] [] (V.codeOf Tryz.f86) (Z52.kt x0 x1)) n (Z52.s8 v8_0 v8_1 v8_2) = Z52.l8 n v8_0 v8_1 v8_2 := by
  intro n
  induction n with
  | zero => intros; rw [V.loopN_z]; rfl
  | succ n ih =>
    intro v8_0 v8_1 v8_2
    rw [V.loopN_s, Z52.r8]
    simp only [ih]
    first | exact (Z52.u8 ..).symm | rfl
theorem Z52.v (x0 : List Int) (x1 : Int) : V.evBody Z52.E Z52.con Tryz.f86 ((x0, x1) : List Int × Int) = Z52.b x0 x1 (fun v8_0 v8_1 v8_2 => V.loopN (V.loopF Z52.E Tryz.f86.ntmps [1, 1, 1, 0, 0] [] (V.codeOf Tryz.f86) (Z52.kt x0 x1)) V.KK (Z52.s8 v8_0 v8_1 v8_2)) := by kernel_rfl
theorem Z52.eq (x0 : List Int) (x1 : Int) : V.evBody Z52.E Z52.con Tryz.f86 ((x0, x1) : List Int × Int) = Z52 x0 x1 := by
  rw [Z52.v]
  simp only [Z52.e8]
  rfl
theorem Z52.ok : V.Valid Tryz.prog 86 Z52.con :=
  V.fo (V.tab_cons Z84.ok (V.tab_cons Z31.ok V.tab_nil)) Tryz.func86 (by kernel_rfl) (fun x y h => (show V.evBody Z52.E Z52.con Tryz.f86 x = _ from Z52.eq x.1 x.2).trans (V.cfl (by kernel_rfl) h))
noncomputable abbrev Z132.con : V.Con := ⟨(.cons (.sl V.eEntry) (.cons .str .nil)), (.cons (.int .i64) (.cons (.sl (.cons (.int .i64) .nil)) (.cons .bool .nil))), fun (x : List TEntry × ByteArray) => Z132 x.1 x.2, [], [(false, 1), (false, 1)], [(true, 2), (false, 1)], [false, true, false], []⟩
noncomputable abbrev Z132.E : V.Env := V.mkE V.tys [(57, Z127.con), (86, Z52.con), (87, Z42.con)] [] [] [] [] []
theorem Z132.eq (x0 : List TEntry) (x1 : ByteArray) : V.evBody Z132.E Z132.con Tryz.f59 ((x0, x1) : List TEntry × ByteArray) = Z132 x0 x1 := by kernel_rfl
theorem Z132.ok : V.Valid Tryz.prog 59 Z132.con :=
  V.fo (V.tab_cons Z127.ok (V.tab_cons Z52.ok (V.tab_cons Z42.ok V.tab_nil))) Tryz.func59 (by kernel_rfl) (fun x y h => (show V.evBody Z132.E Z132.con Tryz.f59 x = _ from Z132.eq x.1 x.2).trans (V.cfl (by kernel_rfl) h))
noncomputable abbrev Z60.con : V.Con := ⟨(.cons (.sl V.eEntry) (.cons .str .nil)), (.cons (.int .i64) .nil), fun (x : List TEntry × ByteArray) => Z60 x.1 x.2, [], [(false, 1), (false, 1)], [(false, 1)], [false], []⟩
noncomputable abbrev Z60.E : V.Env := V.mkE V.tys [(111, Z137.con)] [(6, [1, 5, 8, 9, 10], [])] [] [] [] []
noncomputable abbrev Z60.kt (x0 : List TEntry) (x1 : ByteArray) : V.Kt Int := V.ktOf Z60.E Z60.con Tryz.f89 ((x0, x1) : List TEntry × ByteArray)
noncomputable abbrev Z60.s6 (x0 : List TEntry) (x1 : ByteArray) (v6_1 : Int) (v6_3 : Int) (v6_4 : Int) : V.St := ⟨[(1, .v false [.val (.str x1)]), (5, .v false [.val (.int .i64 v6_1)]), (8, .v false [.val (.sl V.eEntry x0)]), (9, .v false [.val (.int .i64 v6_3)]), (10, .v false [.val (.int .i64 v6_4)])], []⟩
theorem Z60.r6 (x0 : List TEntry) (x1 : ByteArray) (R : V.St → Option Int) (v6_1 : Int) (v6_3 : Int) (v6_4 : Int) : V.loopF Z60.E Tryz.f89.ntmps [1, 1, 0, 1, 0] [] (V.codeOf Tryz.f89) (Z60.kt x0 x1) R (Z60.s6 x0 x1 v6_1 v6_3 v6_4) = Z60.g6 x0 x1 (fun v6_1 v6_3 v6_4 => R (Z60.s6 x0 x1 v6_1 v6_3 v6_4)) v6_1 v6_3 v6_4 := by kernel_rfl
theorem Z60.e6 (x0 : List TEntry) (x1 : ByteArray) : ∀ (n : Nat) (v6_1 : Int) (v6_3 : Int) (v6_4 : Int), V.loopN (V.loopF Z60.E Tryz.f89.ntmps [1, 1, 0, 1, 0] [] (V.codeOf Tryz.f89) (Z60.kt x0 x1)) n (Z60.s6 x0 x1 v6_1 v6_3 v6_4) = Z60.l6 x0 x1 n v6_1 v6_3 v6_4 := by
  intro n
  induction n with
  | zero => intros; rw [V.loopN_z]; rfl
  | succ n ih =>
    intro v6_1 v6_3 v6_4
    rw [V.loopN_s, Z60.r6]
    simp only [ih]
    first | exact (Z60.u6 ..).symm | rfl
theorem Z60.v (x0 : List TEntry) (x1 : ByteArray) : V.evBody Z60.E Z60.con Tryz.f89 ((x0, x1) : List TEntry × ByteArray) = Z60.b x0 x1 (fun v6_1 v6_3 v6_4 => V.loopN (V.loopF Z60.E Tryz.f89.ntmps [1, 1, 0, 1, 0] [] (V.codeOf Tryz.f89) (Z60.kt x0 x1)) V.KK (Z60.s6 x0 x1 v6_1 v6_3 v6_4)) := by kernel_rfl
theorem Z60.eq (x0 : List TEntry) (x1 : ByteArray) : V.evBody Z60.E Z60.con Tryz.f89 ((x0, x1) : List TEntry × ByteArray) = Z60 x0 x1 := by
  rw [Z60.v]
  simp only [Z60.e6]
  rfl
theorem Z60.ok : V.Valid Tryz.prog 89 Z60.con :=
  V.fo (V.tab_cons Z137.ok V.tab_nil) Tryz.func89 (by kernel_rfl) (fun x y h => (show V.evBody Z60.E Z60.con Tryz.f89 x = _ from Z60.eq x.1 x.2).trans (V.cfl (by kernel_rfl) h))
noncomputable abbrev Z13.con : V.Con := ⟨(.cons (.sl V.eEntry) (.cons .str .nil)), V.eRGapBool, fun (x : List TEntry × ByteArray) => Z13 x.1 x.2, [], [(false, 1), (false, 1)], [(true, 13), (false, 1)], [false, false, false, false, true, false, false, false, true, false, true, false, true, false], []⟩
noncomputable abbrev Z13.E : V.Env := V.mkE V.tys [(55, Z17.con), (57, Z127.con), (58, Z128.con), (59, Z132.con), (88, Z23.con), (89, Z60.con)] [(5, [0, 1, 4, 20], []), (15, [0, 4, 6], [(64000000000016400388, (.cons .str .nil), true), (64000000000016400394, (.cons (.int .i64) .nil), true)])] [] [] [] []
noncomputable abbrev Z13.kt (x0 : List TEntry) (x1 : ByteArray) : V.Kt TRGapBool := V.ktOf Z13.E Z13.con Tryz.f60 ((x0, x1) : List TEntry × ByteArray)
noncomputable abbrev Z13.s15 (x0 : List TEntry) (y2 : Int) (v15_11 : ByteArray) (v15_12 : Int) (v15_13 : Int) (v15_17 : Int) (v15_19 : List ByteArray) (v15_20 : List Int) : V.St := ⟨[(0, .v false [.val (.sl V.eEntry x0)]), (4, .v false [.ptr 64000 0]), (6, .v false [.ptr 256256 0])], [(64000, .box [.val (.int .i64 (0 : Int)), .val (.str (⟨#[]⟩ : ByteArray)), .val (.int .i64 (0 : Int)), .val (.int .i64 (0 : Int)), .nil0, .val (.str (⟨#[]⟩ : ByteArray)), .val (.int .i64 (0 : Int)), .val (.int .i64 (0 : Int)), .nil0, .val (.int .i64 (0 : Int)), .nil0, .val (.int .i64 (0 : Int)), .nil0]), (256256, .box [.val (.int .i64 y2), .val (.str v15_11), .val (.int .i64 v15_12), .val (.int .i64 v15_13), .ref 64000000000016400388, .val (.str (⟨#[]⟩ : ByteArray)), .val (.int .i64 (0 : Int)), .val (.int .i64 (0 : Int)), .nil0, .val (.int .i64 v15_17), .ref 64000000000016400394, .val (.int .i64 (0 : Int)), .nil0]), (64000000000016400388, .row (.cons .str .nil) true v15_19), (64000000000016400394, .row (.cons (.int .i64) .nil) true v15_20)]⟩
noncomputable abbrev Z13.s5 (x0 : List TEntry) (x1 : ByteArray) (v5_2 : Bool) : V.St := ⟨[(0, .v false [.val (.sl V.eEntry x0)]), (1, .v false [.val (.str x1)]), (4, .v false [.ptr 64000 0]), (20, .v false [.val (.bool v5_2)])], [(64000, .box [.val (.int .i64 (0 : Int)), .val (.str (⟨#[]⟩ : ByteArray)), .val (.int .i64 (0 : Int)), .val (.int .i64 (0 : Int)), .nil0, .val (.str (⟨#[]⟩ : ByteArray)), .val (.int .i64 (0 : Int)), .val (.int .i64 (0 : Int)), .nil0, .val (.int .i64 (0 : Int)), .nil0, .val (.int .i64 (0 : Int)), .nil0])]⟩
theorem Z13.r15 (x0 : List TEntry) (x1 : ByteArray) (y2 : Int) (v15_11 : ByteArray) (v15_12 : Int) (v15_13 : Int) (v15_17 : Int) (v15_19 : List ByteArray) (v15_20 : List Int) : V.joinF Z13.E Tryz.f60.ntmps [1, 1, 1] [] (V.codeOf Tryz.f60) (Z13.kt x0 x1) (Z13.s15 x0 y2 v15_11 v15_12 v15_13 v15_17 v15_19 v15_20) = Z13.g15 x0 y2 v15_11 v15_12 v15_13 v15_17 v15_19 v15_20 := by kernel_rfl
theorem Z13.e15 (x0 : List TEntry) (x1 : ByteArray) (y2 : Int) (v15_11 : ByteArray) (v15_12 : Int) (v15_13 : Int) (v15_17 : Int) (v15_19 : List ByteArray) (v15_20 : List Int) : V.jn (V.joinF Z13.E Tryz.f60.ntmps [1, 1, 1] [] (V.codeOf Tryz.f60) (Z13.kt x0 x1)) (Z13.s15 x0 y2 v15_11 v15_12 v15_13 v15_17 v15_19 v15_20) = Z13.l15 x0 y2 v15_11 v15_12 v15_13 v15_17 v15_19 v15_20 := by
  rw [V.jn_eq, Z13.r15]
  rfl
theorem Z13.r5 (x0 : List TEntry) (x1 : ByteArray) (v5_2 : Bool) : V.joinF Z13.E Tryz.f60.ntmps [1, 0] [] (V.codeOf Tryz.f60) (Z13.kt x0 x1) (Z13.s5 x0 x1 v5_2) = Z13.g5 x0 x1 (fun y2 v15_11 v15_12 v15_13 v15_17 v15_19 v15_20 => V.jn (V.joinF Z13.E Tryz.f60.ntmps [1, 1, 1] [] (V.codeOf Tryz.f60) (Z13.kt x0 x1)) (Z13.s15 x0 y2 v15_11 v15_12 v15_13 v15_17 v15_19 v15_20)) v5_2 := by kernel_rfl
theorem Z13.e5 (x0 : List TEntry) (x1 : ByteArray) (v5_2 : Bool) : V.jn (V.joinF Z13.E Tryz.f60.ntmps [1, 0] [] (V.codeOf Tryz.f60) (Z13.kt x0 x1)) (Z13.s5 x0 x1 v5_2) = Z13.l5 x0 x1 v5_2 := by
  rw [V.jn_eq, Z13.r5]
  simp only [Z13.e15]
  rfl
theorem Z13.v (x0 : List TEntry) (x1 : ByteArray) : V.evBody Z13.E Z13.con Tryz.f60 ((x0, x1) : List TEntry × ByteArray) = Z13.b x0 x1 (fun v5_2 => V.jn (V.joinF Z13.E Tryz.f60.ntmps [1, 0] [] (V.codeOf Tryz.f60) (Z13.kt x0 x1)) (Z13.s5 x0 x1 v5_2)) := by kernel_rfl
theorem Z13.eq (x0 : List TEntry) (x1 : ByteArray) : V.evBody Z13.E Z13.con Tryz.f60 ((x0, x1) : List TEntry × ByteArray) = Z13 x0 x1 := by
  rw [Z13.v]
  simp only [Z13.e5]
  rfl
theorem Z13.ok : V.Valid Tryz.prog 60 Z13.con :=
  V.fo (V.tab_cons Z17.ok (V.tab_cons Z127.ok (V.tab_cons Z128.ok (V.tab_cons Z132.ok (V.tab_cons Z23.ok (V.tab_cons Z60.ok V.tab_nil)))))) Tryz.func60 (by kernel_rfl) (fun x y h => (show V.evBody Z13.E Z13.con Tryz.f60 x = _ from Z13.eq x.1 x.2).trans (V.cfl (by kernel_rfl) h))
noncomputable abbrev Z88.con : V.Con := ⟨(.cons (.sl V.eSigned) (.cons (.sl V.eEntry) (.cons .str .nil))), V.eAnswer, fun (x : List TSigned × List TEntry × ByteArray) => Z88 (x.1, x.2.1) x.2.2, [], [(true, 2), (false, 1)], [(true, 21)], [true, false, false, false, false, true, false, true, false, false, false, false, true, false, false, false, true, false, true, false, true], []⟩
noncomputable abbrev Z88.E : V.Env := V.mkE V.tys [(54, Z138.con), (55, Z17.con), (56, Z61.con), (57, Z127.con), (58, Z128.con), (59, Z132.con), (60, Z13.con)] [(7, [1, 2, 4], [])] [] [] [] []
noncomputable abbrev Z88.kt (x0 : TZone) (x1 : ByteArray) : V.Kt TAnswer := V.ktOf Z88.E Z88.con Tryz.f32 ((x0.1, x0.2, x1) : List TSigned × List TEntry × ByteArray)
noncomputable abbrev Z88.s7 (x0 : TZone) (x1 : ByteArray) : V.St := ⟨[(1, .v false [.val (.str x1)]), (2, .v false [.ptr 64000 0]), (4, .v false [.ptr 64064 0])], [(64000, .box [.val (.sl V.eSigned x0.1), .val (.sl V.eEntry x0.2)]), (64064, .box [.nil0, .val (.bool false), .val (.str (⟨#[]⟩ : ByteArray)), .val (.int .i64 (0 : Int)), .val (.int .i64 (0 : Int)), .nil0, .val (.int .i64 (0 : Int)), .nil0, .val (.int .i64 (0 : Int)), .val (.str (⟨#[]⟩ : ByteArray)), .val (.int .i64 (0 : Int)), .val (.int .i64 (0 : Int)), .nil0, .val (.str (⟨#[]⟩ : ByteArray)), .val (.int .i64 (0 : Int)), .val (.int .i64 (0 : Int)), .nil0, .val (.int .i64 (0 : Int)), .nil0, .val (.int .i64 (0 : Int)), .nil0])]⟩
theorem Z88.r7 (x0 : TZone) (x1 : ByteArray) : V.joinF Z88.E Tryz.f32.ntmps [1] [] (V.codeOf Tryz.f32) (Z88.kt x0 x1) (Z88.s7 x0 x1) = Z88.g7 x0 x1 := by kernel_rfl
theorem Z88.e7 (x0 : TZone) (x1 : ByteArray) : V.jn (V.joinF Z88.E Tryz.f32.ntmps [1] [] (V.codeOf Tryz.f32) (Z88.kt x0 x1)) (Z88.s7 x0 x1) = Z88.l7 x0 x1 := by
  rw [V.jn_eq, Z88.r7]
  rfl
theorem Z88.v (x0 : TZone) (x1 : ByteArray) : V.evBody Z88.E Z88.con Tryz.f32 ((x0.1, x0.2, x1) : List TSigned × List TEntry × ByteArray) = Z88.b x0 x1 (V.jn (V.joinF Z88.E Tryz.f32.ntmps [1] [] (V.codeOf Tryz.f32) (Z88.kt x0 x1)) (Z88.s7 x0 x1)) := by kernel_rfl
theorem Z88.eq (x0 : TZone) (x1 : ByteArray) : V.evBody Z88.E Z88.con Tryz.f32 ((x0.1, x0.2, x1) : List TSigned × List TEntry × ByteArray) = Z88 x0 x1 := by
  rw [Z88.v]
  simp only [Z88.e7]
  rfl
theorem Z88.ok : V.Valid Tryz.prog 32 Z88.con :=
  V.fo (V.tab_cons Z138.ok (V.tab_cons Z17.ok (V.tab_cons Z61.ok (V.tab_cons Z127.ok (V.tab_cons Z128.ok (V.tab_cons Z132.ok (V.tab_cons Z13.ok V.tab_nil))))))) Tryz.func32 (by kernel_rfl) (fun x y h => (show V.evBody Z88.E Z88.con Tryz.f32 x = _ from Z88.eq (x.1, x.2.1) x.2.2).trans (V.cfl (by kernel_rfl) h))
noncomputable abbrev Z85.con : V.Con := ⟨(.cons (.sl (.cons (.sl V.eSigned) (.cons (.sl V.eEntry) .nil))) (.cons (.int .i64) (.cons (.int .i64) (.cons .str .nil)))), V.eAnswer, fun (x : List TZone × Int × Int × ByteArray) => Z85 (x.1, x.2.1) x.2.2.1 x.2.2.2, [], [(true, 2), (false, 1), (false, 1)], [(true, 21)], [true, false, false, false, false, true, false, true, false, false, false, false, true, false, false, false, true, false, true, false, true], []⟩
noncomputable abbrev Z85.E : V.Env := V.mkE V.tys [(31, Z172.con), (32, Z88.con)] [(9, [2, 3, 6, 7], [])] [] [] [] []
noncomputable abbrev Z85.kt (x0 : TServer) (x1 : Int) (x2 : ByteArray) : V.Kt TAnswer := V.ktOf Z85.E Z85.con Tryz.f16 ((x0.1, x0.2, x1, x2) : List TZone × Int × Int × ByteArray)
noncomputable abbrev Z85.s9 (x0 : TServer) (x2 : ByteArray) (y1 : Int) : V.St := ⟨[(2, .v false [.val (.str x2)]), (3, .v false [.ptr 64000 0]), (6, .v false [.ptr 64064 0]), (7, .v false [.val (.int .i64 y1)])], [(64000, .box [.val (.sl (.cons (.sl V.eSigned) (.cons (.sl V.eEntry) .nil)) x0.1), .val (.int .i64 x0.2)]), (64064, .box [.nil0, .val (.bool false), .val (.str (⟨#[]⟩ : ByteArray)), .val (.int .i64 (0 : Int)), .val (.int .i64 (0 : Int)), .nil0, .val (.int .i64 (0 : Int)), .nil0, .val (.int .i64 (0 : Int)), .val (.str (⟨#[]⟩ : ByteArray)), .val (.int .i64 (0 : Int)), .val (.int .i64 (0 : Int)), .nil0, .val (.str (⟨#[]⟩ : ByteArray)), .val (.int .i64 (0 : Int)), .val (.int .i64 (0 : Int)), .nil0, .val (.int .i64 (0 : Int)), .nil0, .val (.int .i64 (0 : Int)), .nil0])]⟩
theorem Z85.r9 (x0 : TServer) (x1 : Int) (x2 : ByteArray) (y1 : Int) : V.joinF Z85.E Tryz.f16.ntmps [1, 1] [] (V.codeOf Tryz.f16) (Z85.kt x0 x1 x2) (Z85.s9 x0 x2 y1) = Z85.g9 x0 x2 y1 := by kernel_rfl
theorem Z85.e9 (x0 : TServer) (x1 : Int) (x2 : ByteArray) (y1 : Int) : V.jn (V.joinF Z85.E Tryz.f16.ntmps [1, 1] [] (V.codeOf Tryz.f16) (Z85.kt x0 x1 x2)) (Z85.s9 x0 x2 y1) = Z85.l9 x0 x2 y1 := by
  rw [V.jn_eq, Z85.r9]
  rfl
theorem Z85.v (x0 : TServer) (x1 : Int) (x2 : ByteArray) : V.evBody Z85.E Z85.con Tryz.f16 ((x0.1, x0.2, x1, x2) : List TZone × Int × Int × ByteArray) = Z85.b x0 x1 x2 (fun y1 => V.jn (V.joinF Z85.E Tryz.f16.ntmps [1, 1] [] (V.codeOf Tryz.f16) (Z85.kt x0 x1 x2)) (Z85.s9 x0 x2 y1)) := by kernel_rfl
theorem Z85.eq (x0 : TServer) (x1 : Int) (x2 : ByteArray) : V.evBody Z85.E Z85.con Tryz.f16 ((x0.1, x0.2, x1, x2) : List TZone × Int × Int × ByteArray) = Z85 x0 x1 x2 := by
  rw [Z85.v]
  simp only [Z85.e9]
  rfl
theorem Z85.ok : V.Valid Tryz.prog 16 Z85.con :=
  V.fo (V.tab_cons Z172.ok (V.tab_cons Z88.ok V.tab_nil)) Tryz.func16 (by kernel_rfl) (fun x y h => (show V.evBody Z85.E Z85.con Tryz.f16 x = _ from Z85.eq (x.1, x.2.1) x.2.2.1 x.2.2.2).trans (V.cfl (by kernel_rfl) h))
noncomputable abbrev Z40.con : V.Con := ⟨(.cons (.sl (.cons (.sl (.cons (.sl V.eSigned) (.cons (.sl V.eEntry) .nil))) (.cons (.int .i64) .nil))) (.cons (.int .i64) (.cons .str .nil))), (.cons (.sl V.eAnswer) .nil), fun (x : List TServer × Int × ByteArray) => Z40 x.1 x.2.1 x.2.2, [], [(false, 1), (false, 1), (false, 1)], [(false, 1)], [true], []⟩
noncomputable abbrev Z40.E : V.Env := V.mkE V.tys [(16, Z85.con)] [(6, [1, 2, 7, 15, 16, 17], [(64000038400448, V.eAnswer, true)])] [] [] [] []
noncomputable abbrev Z40.kt (x0 : List TServer) (x1 : Int) (x2 : ByteArray) : V.Kt (List TAnswer) := V.ktOf Z40.E Z40.con Tryz.f7 ((x0, x1, x2) : List TServer × Int × ByteArray)
noncomputable abbrev Z40.s6 (x1 : Int) (x2 : ByteArray) (v6_2 : List TServer) (v6_3 : Int) (v6_4 : Int) (v6_5 : List TAnswer) : V.St := ⟨[(1, .v false [.val (.int .i64 x1)]), (2, .v false [.val (.str x2)]), (7, .v false [.ref 64000038400448]), (15, .v false [.val (.sl (.cons (.sl (.cons (.sl V.eSigned) (.cons (.sl V.eEntry) .nil))) (.cons (.int .i64) .nil)) v6_2)]), (16, .v false [.val (.int .i64 v6_3)]), (17, .v false [.val (.int .i64 v6_4)])], [(64000038400448, .row V.eAnswer true v6_5)]⟩
theorem Z40.r6 (x0 : List TServer) (x1 : Int) (x2 : ByteArray) (R : V.St → Option (List TAnswer)) (v6_2 : List TServer) (v6_3 : Int) (v6_4 : Int) (v6_5 : List TAnswer) : V.loopF Z40.E Tryz.f7.ntmps [1, 1, 0, 1, 0] [] (V.codeOf Tryz.f7) (Z40.kt x0 x1 x2) R (Z40.s6 x1 x2 v6_2 v6_3 v6_4 v6_5) = Z40.g6 x1 x2 (fun v6_2 v6_3 v6_4 v6_5 => R (Z40.s6 x1 x2 v6_2 v6_3 v6_4 v6_5)) v6_2 v6_3 v6_4 v6_5 := by kernel_rfl
theorem Z40.e6 (x0 : List TServer) (x1 : Int) (x2 : ByteArray) : ∀ (n : Nat) (v6_2 : List TServer) (v6_3 : Int) (v6_4 : Int) (v6_5 : List TAnswer), V.loopN (V.loopF Z40.E Tryz.f7.ntmps [1, 1, 0, 1, 0] [] (V.codeOf Tryz.f7) (Z40.kt x0 x1 x2)) n (Z40.s6 x1 x2 v6_2 v6_3 v6_4 v6_5) = Z40.l6 x1 x2 n v6_2 v6_3 v6_4 v6_5 := by
  intro n
  induction n with
  | zero => intros; rw [V.loopN_z]; rfl
  | succ n ih =>
    intro v6_2 v6_3 v6_4 v6_5
    rw [V.loopN_s, Z40.r6]
    simp only [ih]
    first | exact (Z40.u6 ..).symm | rfl
theorem Z40.v (x0 : List TServer) (x1 : Int) (x2 : ByteArray) : V.evBody Z40.E Z40.con Tryz.f7 ((x0, x1, x2) : List TServer × Int × ByteArray) = Z40.b x0 x1 x2 (fun v6_2 v6_3 v6_4 v6_5 => V.loopN (V.loopF Z40.E Tryz.f7.ntmps [1, 1, 0, 1, 0] [] (V.codeOf Tryz.f7) (Z40.kt x0 x1 x2)) V.KK (Z40.s6 x1 x2 v6_2 v6_3 v6_4 v6_5)) := by kernel_rfl
theorem Z40.eq (x0 : List TServer) (x1 : Int) (x2 : ByteArray) : V.evBody Z40.E Z40.con Tryz.f7 ((x0, x1, x2) : List TServer × Int × ByteArray) = Z40 x0 x1 x2 := by
  rw [Z40.v]
  simp only [Z40.e6]
  rfl
theorem Z40.ok : V.Valid Tryz.prog 7 Z40.con :=
  V.fo (V.tab_cons Z85.ok V.tab_nil) Tryz.func7 (by kernel_rfl) (fun x y h => (show V.evBody Z40.E Z40.con Tryz.f7 x = _ from Z40.eq x.1 x.2.1 x.2.2).trans (V.cfl (by kernel_rfl) h))
noncomputable abbrev Z44.con : V.Con := ⟨(.cons (.sl (.cons (.int .i64) .nil)) (.cons (.sl (.cons (.int .i64) .nil)) .nil)), (.cons .bool .nil), fun (x : List Int × List Int) => Z44 x.1 x.2, [], [(false, 1), (false, 1)], [(false, 1)], [false], []⟩
noncomputable abbrev Z44.E : V.Env := V.mkE V.tys [] [(8, [0, 1, 5], [])] [(6, 8)] [] [] []
noncomputable abbrev Z44.kt (x0 : List Int) (x1 : List Int) : V.Kt Bool := V.ktOf Z44.E Z44.con Tryz.f63 ((x0, x1) : List Int × List Int)
noncomputable abbrev Z44.s8 (x0 : List Int) (x1 : List Int) (v8_2 : Int) : V.St := ⟨[(0, .v false [.val (.sl (.cons (.int .i64) .nil) x0)]), (1, .v false [.val (.sl (.cons (.int .i64) .nil) x1)]), (5, .v false [.val (.int .i64 v8_2)])], []⟩
theorem Z44.r8 (x0 : List Int) (x1 : List Int) (R : V.St → Option Bool) (v8_2 : Int) : V.loopF Z44.E Tryz.f63.ntmps [1, 1, 0, 1, 0] [] (V.codeOf Tryz.f63) (Z44.kt x0 x1) R (Z44.s8 x0 x1 v8_2) = Z44.g8 x0 x1 (fun v8_2 => R (Z44.s8 x0 x1 v8_2)) v8_2 := by kernel_rfl
theorem Z44.e8 (x0 : List Int) (x1 : List Int) : ∀ (n : Nat) (v8_2 : Int), V.loopN (V.loopF Z44.E Tryz.f63.ntmps [1, 1, 0, 1, 0] [] (V.codeOf Tryz.f63) (Z44.kt x0 x1)) n (Z44.s8 x0 x1 v8_2) = Z44.l8 x0 x1 n v8_2 := by
  intro n
  induction n with
  | zero => intros; rw [V.loopN_z]; rfl
  | succ n ih =>
    intro v8_2
    rw [V.loopN_s, Z44.r8]
    simp only [ih]
    first | exact (Z44.u8 ..).symm | rfl
theorem Z44.v (x0 : List Int) (x1 : List Int) : V.evBody Z44.E Z44.con Tryz.f63 ((x0, x1) : List Int × List Int) = Z44.b x0 x1 (fun v8_2 => V.loopN (V.loopF Z44.E Tryz.f63.ntmps [1, 1, 0, 1, 0] [] (V.codeOf Tryz.f63) (Z44.kt x0 x1)) V.KK (Z44.s8 x0 x1 v8_2)) := by kernel_rfl
theorem Z44.eq (x0 : List Int) (x1 : List Int) : V.evBody Z44.E Z44.con Tryz.f63 ((x0, x1) : List Int × List Int) = Z44 x0 x1 := by
  rw [Z44.v]
  simp only [Z44.e8]
  rfl
theorem Z44.ok : V.Valid Tryz.prog 63 Z44.con :=
  V.fo V.tab_nil Tryz.func63 (by kernel_rfl) (fun x y h => (show V.evBody Z44.E Z44.con Tryz.f63 x = _ from Z44.eq x.1 x.2).trans (V.cfl (by kernel_rfl) h))
noncomputable abbrev Z146.con : V.Con := ⟨(.cons (.sl (.cons (.int .i64) .nil)) (.cons (.int .i64) (.cons (.sl (.cons (.int .i64) .nil)) (.cons (.int .i64) .nil)))), (.cons .bool .nil), fun (x : List Int × Int × List Int × Int) => Z146 (x.1, x.2.1) x.2.2, [], [(true, 2), (true, 2)], [(false, 1)], [false], []⟩
noncomputable abbrev Z146.E : V.Env := V.mkE V.tys [(63, Z44.con)] [] [] [] [] []
theorem Z146.eq (x0 : TKeys) (x1 : TKeys) : V.evBody Z146.E Z146.con Tryz.f112 ((x0.1, x0.2, x1.1, x1.2) : List Int × Int × List Int × Int) = Z146 x0 x1 := by kernel_rfl
theorem Z146.ok : V.Valid Tryz.prog 112 Z146.con :=
  V.fo (V.tab_cons Z44.ok V.tab_nil) Tryz.func112 (by kernel_rfl) (fun x y h => (show V.evBody Z146.E Z146.con Tryz.f112 x = _ from Z146.eq (x.1, x.2.1) x.2.2).trans (V.cfl (by kernel_rfl) h))
noncomputable abbrev Z111.con : V.Con := ⟨V.A4, (.cons .bool .nil), fun (x : V.D4) => Z111 (V.p4_0 x) (V.p4_1 x), [], [(true, 16), (true, 16)], [(false, 1)], [false], []⟩
noncomputable abbrev Z111.E : V.Env := V.mkE V.tys [(112, Z146.con)] [] [] [] [] []
noncomputable abbrev Z111.kt (x0 : THead) (x1 : THead) : V.Kt Bool := V.ktOf Z111.E Z111.con Tryz.f90 (V.fl4 x0 x1)
noncomputable abbrev Z111.s (x0 : THead) (x1 : THead) : V.St := ⟨[(0, .v true (V.lsHead x0)), (1, .v true (V.lsHead x1))], []⟩
theorem Z111.v0 (x0 : THead) (x1 : THead) : V.evBody Z111.E Z111.con Tryz.f90 (V.fl4 x0 x1) = V.evC Z111.E Tryz.f90.ntmps (V.codeOf Tryz.f90) (Z111.kt x0 x1) (Z111.s x0 x1) := by kernel_rfl
theorem Z111.v (x0 : THead) (x1 : THead) : V.evC Z111.E Tryz.f90.ntmps (V.codeOf Tryz.f90) (Z111.kt x0 x1) (Z111.s x0 x1) = Z111 x0 x1 := by kernel_rfl
theorem Z111.eq (x0 : THead) (x1 : THead) : V.evBody Z111.E Z111.con Tryz.f90 (V.fl4 x0 x1) = Z111 x0 x1 := (Z111.v0 x0 x1).trans (Z111.v x0 x1)
theorem Z111.ok : V.Valid Tryz.prog 90 Z111.con :=
  V.fo (V.tab_cons Z146.ok V.tab_nil) Tryz.func90 (by kernel_rfl) (fun x y h => (show V.evBody Z111.E Z111.con Tryz.f90 x = _ from Z111.eq (V.p4_0 x) (V.p4_1 x)).trans (V.cfl (by kernel_rfl) h))
noncomputable abbrev Z154.con : V.Con := ⟨(.cons (.int .i64) (.cons (.int .i64) (.cons (.int .i64) (.cons (.int .i64) .nil)))), (.cons .bool .nil), fun (x : Int × Int × Int × Int) => Z154 (x.1, x.2.1) x.2.2, [], [(true, 2), (true, 2)], [(false, 1)], [false], []⟩
noncomputable abbrev Z154.E : V.Env := V.mkE V.tys [] [] [] [] [] []
theorem Z154.eq (x0 : TSig) (x1 : TSig) : V.evBody Z154.E Z154.con Tryz.f113 ((x0.1, x0.2, x1.1, x1.2) : Int × Int × Int × Int) = Z154 x0 x1 := by kernel_rfl
theorem Z154.ok : V.Valid Tryz.prog 113 Z154.con :=
  V.fo V.tab_nil Tryz.func113 (by kernel_rfl) (fun x y h => (show V.evBody Z154.E Z154.con Tryz.f113 x = _ from Z154.eq (x.1, x.2.1) x.2.2).trans (V.cfl (by kernel_rfl) h))
noncomputable abbrev Z64.con : V.Con := ⟨(.cons (.sl (.cons (.int .i64) (.cons (.int .i64) .nil))) (.cons (.sl (.cons (.int .i64) (.cons (.int .i64) .nil))) .nil)), (.cons .bool .nil), fun (x : List TSig × List TSig) => Z64 x.1 x.2, [], [(false, 1), (false, 1)], [(false, 1)], [false], []⟩
noncomputable abbrev Z64.E : V.Env := V.mkE V.tys [(113, Z154.con)] [(8, [0, 1, 5], [])] [(6, 8)] [] [] []
noncomputable abbrev Z64.kt (x0 : List TSig) (x1 : List TSig) : V.Kt Bool := V.ktOf Z64.E Z64.con Tryz.f91 ((x0, x1) : List TSig × List TSig)
noncomputable abbrev Z64.s8 (x0 : List TSig) (x1 : List TSig) (v8_2 : Int) : V.St := ⟨[(0, .v false [.val (.sl (.cons (.int .i64) (.cons (.int .i64) .nil)) x0)]), (1, .v false [.val (.sl (.cons (.int .i64) (.cons (.int .i64) .nil)) x1)]), (5, .v false [.val (.int .i64 v8_2)])], []⟩
theorem Z64.r8 (x0 : List TSig) (x1 : List TSig) (R : V.St → Option Bool) (v8_2 : Int) : V.loopF Z64.E Tryz.f91.ntmps [1, 1, 0, 1, 0] [] (V.codeOf Tryz.f91) (Z64.kt x0 x1) R (Z64.s8 x0 x1 v8_2) = Z64.g8 x0 x1 (fun v8_2 => R (Z64.s8 x0 x1 v8_2)) v8_2 := by kernel_rfl
theorem Z64.e8 (x0 : List TSig) (x1 : List TSig) : ∀ (n : Nat) (v8_2 : Int), V.loopN (V.loopF Z64.E Tryz.f91.ntmps [1, 1, 0, 1, 0] [] (V.codeOf Tryz.f91) (Z64.kt x0 x1)) n (Z64.s8 x0 x1 v8_2) = Z64.l8 x0 x1 n v8_2 := by
  intro n
  induction n with
  | zero => intros; rw [V.loopN_z]; rfl
  | succ n ih =>
    intro v8_2
    rw [V.loopN_s, Z64.r8]
    simp only [ih]
    first | exact (Z64.u8 ..).symm | rfl
theorem Z64.v (x0 : List TSig) (x1 : List TSig) : V.evBody Z64.E Z64.con Tryz.f91 ((x0, x1) : List TSig × List TSig) = Z64.b x0 x1 (fun v8_2 => V.loopN (V.loopF Z64.E Tryz.f91.ntmps [1, 1, 0, 1, 0] [] (V.codeOf Tryz.f91) (Z64.kt x0 x1)) V.KK (Z64.s8 x0 x1 v8_2)) := by kernel_rfl
theorem Z64.eq (x0 : List TSig) (x1 : List TSig) : V.evBody Z64.E Z64.con Tryz.f91 ((x0, x1) : List TSig × List TSig) = Z64 x0 x1 := by
  rw [Z64.v]
  simp only [Z64.e8]
  rfl
theorem Z64.ok : V.Valid Tryz.prog 91 Z64.con :=
  V.fo (V.tab_cons Z154.ok V.tab_nil) Tryz.func91 (by kernel_rfl) (fun x y h => (show V.evBody Z64.E Z64.con Tryz.f91 x = _ from Z64.eq x.1 x.2).trans (V.cfl (by kernel_rfl) h))
noncomputable abbrev Z100.con : V.Con := ⟨V.A7, (.cons .bool .nil), fun (x : V.D7) => Z100 (V.p7_0 x) (V.p7_1 x), [], [(true, 17), (true, 17)], [(false, 1)], [false], []⟩
noncomputable abbrev Z100.E : V.Env := V.mkE V.tys [(90, Z111.con), (91, Z64.con)] [] [] [] [] []
noncomputable abbrev Z100.kt (x0 : TSigned) (x1 : TSigned) : V.Kt Bool := V.ktOf Z100.E Z100.con Tryz.f61 (V.fl7 x0 x1)
noncomputable abbrev Z100.s (x0 : TSigned) (x1 : TSigned) : V.St := ⟨[(0, .v true (V.lsSigned x0)), (1, .v true (V.lsSigned x1))], []⟩
theorem Z100.v0 (x0 : TSigned) (x1 : TSigned) : V.evBody Z100.E Z100.con Tryz.f61 (V.fl7 x0 x1) = V.evC Z100.E Tryz.f61.ntmps (V.codeOf Tryz.f61) (Z100.kt x0 x1) (Z100.s x0 x1) := by kernel_rfl
theorem Z100.v (x0 : TSigned) (x1 : TSigned) : V.evC Z100.E Tryz.f61.ntmps (V.codeOf Tryz.f61) (Z100.kt x0 x1) (Z100.s x0 x1) = Z100 x0 x1 := by kernel_rfl
theorem Z100.eq (x0 : TSigned) (x1 : TSigned) : V.evBody Z100.E Z100.con Tryz.f61 (V.fl7 x0 x1) = Z100 x0 x1 := (Z100.v0 x0 x1).trans (Z100.v x0 x1)
theorem Z100.ok : V.Valid Tryz.prog 61 Z100.con :=
  V.fo (V.tab_cons Z111.ok (V.tab_cons Z64.ok V.tab_nil)) Tryz.func61 (by kernel_rfl) (fun x y h => (show V.evBody Z100.E Z100.con Tryz.f61 x = _ from Z100.eq (V.p7_0 x) (V.p7_1 x)).trans (V.cfl (by kernel_rfl) h))
noncomputable abbrev Z45.con : V.Con := ⟨(.cons (.sl V.eSigned) (.cons (.sl V.eSigned) .nil)), (.cons .bool .nil), fun (x : List TSigned × List TSigned) => Z45 x.1 x.2, [], [(false, 1), (false, 1)], [(false, 1)], [false], []⟩
noncomputable abbrev Z45.E : V.Env := V.mkE V.tys [(61, Z100.con)] [(8, [0, 1, 5], [])] [(6, 8)] [] [] []
noncomputable abbrev Z45.kt (x0 : List TSigned) (x1 : List TSigned) : V.Kt Bool := V.ktOf Z45.E Z45.con Tryz.f33 ((x0, x1) : List TSigned × List TSigned)
noncomputable abbrev Z45.s8 (x0 : List TSigned) (x1 : List TSigned) (v8_2 : Int) : V.St := ⟨[(0, .v false [.val (.sl V.eSigned x0)]), (1, .v false [.val (.sl V.eSigned x1)]), (5, .v false [.val (.int .i64 v8_2)])], []⟩
theorem Z45.r8 (x0 : List TSigned) (x1 : List TSigned) (R : V.St → Option Bool) (v8_2 : Int) : V.loopF Z45.E Tryz.f33.ntmps [1, 1, 0, 1, 0] [] (V.codeOf Tryz.f33) (Z45.kt x0 x1) R (Z45.s8 x0 x1 v8_2) = Z45.g8 x0 x1 (fun v8_2 => R (Z45.s8 x0 x1 v8_2)) v8_2 := by kernel_rfl
theorem Z45.e8 (x0 : List TSigned) (x1 : List TSigned) : ∀ (n : Nat) (v8_2 : Int), V.loopN (V.loopF Z45.E Tryz.f33.ntmps [1, 1, 0, 1, 0] [] (V.codeOf Tryz.f33) (Z45.kt x0 x1)) n (Z45.s8 x0 x1 v8_2) = Z45.l8 x0 x1 n v8_2 := by
  intro n
  induction n with
  | zero => intros; rw [V.loopN_z]; rfl
  | succ n ih =>
    intro v8_2
    rw [V.loopN_s, Z45.r8]
    simp only [ih]
    first | exact (Z45.u8 ..).symm | rfl
theorem Z45.v (x0 : List TSigned) (x1 : List TSigned) : V.evBody Z45.E Z45.con Tryz.f33 ((x0, x1) : List TSigned × List TSigned) = Z45.b x0 x1 (fun v8_2 => V.loopN (V.loopF Z45.E Tryz.f33.ntmps [1, 1, 0, 1, 0] [] (V.codeOf Tryz.f33) (Z45.kt x0 x1)) V.KK (Z45.s8 x0 x1 v8_2)) := by kernel_rfl
theorem Z45.eq (x0 : List TSigned) (x1 : List TSigned) : V.evBody Z45.E Z45.con Tryz.f33 ((x0, x1) : List TSigned × List TSigned) = Z45 x0 x1 := by
  rw [Z45.v]
  simp only [Z45.e8]
  rfl
theorem Z45.ok : V.Valid Tryz.prog 33 Z45.con :=
  V.fo (V.tab_cons Z100.ok V.tab_nil) Tryz.func33 (by kernel_rfl) (fun x y h => (show V.evBody Z45.E Z45.con Tryz.f33 x = _ from Z45.eq x.1 x.2).trans (V.cfl (by kernel_rfl) h))
noncomputable abbrev Z56.con : V.Con := ⟨(.cons (.sl (.cons .str .nil)) (.cons (.sl (.cons .str .nil)) .nil)), (.cons .bool .nil), fun (x : List ByteArray × List ByteArray) => Z56 x.1 x.2, [], [(false, 1), (false, 1)], [(false, 1)], [false], []⟩
noncomputable abbrev Z56.E : V.Env := V.mkE V.tys [] [(8, [0, 1, 5], [])] [(6, 8)] [] [] []
noncomputable abbrev Z56.kt (x0 : List ByteArray) (x1 : List ByteArray) : V.Kt Bool := V.ktOf Z56.E Z56.con Tryz.f62 ((x0, x1) : List ByteArray × List ByteArray)
noncomputable abbrev Z56.s8 (x0 : List ByteArray) (x1 : List ByteArray) (v8_2 : Int) : V.St := ⟨[(0, .v false [.val (.sl (.cons .str .nil) x0)]), (1, .v false [.val (.sl (.cons .str .nil) x1)]), (5, .v false [.val (.int .i64 v8_2)])], []⟩
theorem Z56.r8 (x0 : List ByteArray) (x1 : List ByteArray) (R : V.St → Option Bool) (v8_2 : Int) : V.loopF Z56.E Tryz.f62.ntmps [1, 1, 0, 1, 0] [] (V.codeOf Tryz.f62) (Z56.kt x0 x1) R (Z56.s8 x0 x1 v8_2) = Z56.g8 x0 x1 (fun v8_2 => R (Z56.s8 x0 x1 v8_2)) v8_2 := by kernel_rfl
theorem Z56.e8 (x0 : List ByteArray) (x1 : List ByteArray) : ∀ (n : Nat) (v8_2 : Int), V.loopN (V.loopF Z56.E Tryz.f62.ntmps [1, 1, 0, 1, 0] [] (V.codeOf Tryz.f62) (Z56.kt x0 x1)) n (Z56.s8 x0 x1 v8_2) = Z56.l8 x0 x1 n v8_2 := by
  intro n
  induction n with
  | zero => intros; rw [V.loopN_z]; rfl
  | succ n ih =>
    intro v8_2
    rw [V.loopN_s, Z56.r8]
    simp only [ih]
    first | exact (Z56.u8 ..).symm | rfl
theorem Z56.v (x0 : List ByteArray) (x1 : List ByteArray) : V.evBody Z56.E Z56.con Tryz.f62 ((x0, x1) : List ByteArray × List ByteArray) = Z56.b x0 x1 (fun v8_2 => V.loopN (V.loopF Z56.E Tryz.f62.ntmps [1, 1, 0, 1, 0] [] (V.codeOf Tryz.f62) (Z56.kt x0 x1)) V.KK (Z56.s8 x0 x1 v8_2)) := by kernel_rfl
theorem Z56.eq (x0 : List ByteArray) (x1 : List ByteArray) : V.evBody Z56.E Z56.con Tryz.f62 ((x0, x1) : List ByteArray × List ByteArray) = Z56 x0 x1 := by
  rw [Z56.v]
  simp only [Z56.e8]
  rfl
theorem Z56.ok : V.Valid Tryz.prog 62 Z56.con :=
  V.fo V.tab_nil Tryz.func62 (by kernel_rfl) (fun x y h => (show V.evBody Z56.E Z56.con Tryz.f62 x = _ from Z56.eq x.1 x.2).trans (V.cfl (by kernel_rfl) h))
noncomputable abbrev Z121.con : V.Con := ⟨(.cons .str (.cons (.int .i64) (.cons (.int .i64) (.cons (.sl (.cons .str .nil)) (.cons .str (.cons (.int .i64) (.cons (.int .i64) (.cons (.sl (.cons .str .nil)) .nil)))))))), (.cons .bool .nil), fun (x : ByteArray × Int × Int × List ByteArray × ByteArray × Int × Int × List ByteArray) => Z121 (x.1, x.2.1, x.2.2.1, x.2.2.2.1) x.2.2.2.2, [], [(true, 4), (true, 4)], [(false, 1)], [false], []⟩
noncomputable abbrev Z121.E : V.Env := V.mkE V.tys [(62, Z56.con)] [] [] [] [] []
theorem Z121.eq (x0 : TEntry) (x1 : TEntry) : V.evBody Z121.E Z121.con Tryz.f34 ((x0.1, x0.2.1, x0.2.2.1, x0.2.2.2, x1.1, x1.2.1, x1.2.2.1, x1.2.2.2) : ByteArray × Int × Int × List ByteArray × ByteArray × Int × Int × List ByteArray) = Z121 x0 x1 := by kernel_rfl
theorem Z121.ok : V.Valid Tryz.prog 34 Z121.con :=
  V.fo (V.tab_cons Z56.ok V.tab_nil) Tryz.func34 (by kernel_rfl) (fun x y h => (show V.evBody Z121.E Z121.con Tryz.f34 x = _ from Z121.eq (x.1, x.2.1, x.2.2.1, x.2.2.2.1) x.2.2.2.2).trans (V.cfl (by kernel_rfl) h))
noncomputable abbrev Z134.con : V.Con := ⟨(.cons (.int .i64) (.cons (.sl (.cons (.int .i64) .nil)) (.cons (.int .i64) (.cons (.sl (.cons (.int .i64) .nil)) .nil)))), (.cons .bool .nil), fun (x : Int × List Int × Int × List Int) => Z134 (x.1, x.2.1) x.2.2, [], [(true, 2), (true, 2)], [(false, 1)], [false], []⟩
noncomputable abbrev Z134.E : V.Env := V.mkE V.tys [(63, Z44.con)] [] [] [] [] []
theorem Z134.eq (x0 : TProof) (x1 : TProof) : V.evBody Z134.E Z134.con Tryz.f35 ((x0.1, x0.2, x1.1, x1.2) : Int × List Int × Int × List Int) = Z134 x0 x1 := by kernel_rfl
theorem Z134.ok : V.Valid Tryz.prog 35 Z134.con :=
  V.fo (V.tab_cons Z44.ok V.tab_nil) Tryz.func35 (by kernel_rfl) (fun x y h => (show V.evBody Z134.E Z134.con Tryz.f35 x = _ from Z134.eq (x.1, x.2.1) x.2.2).trans (V.cfl (by kernel_rfl) h))
noncomputable abbrev Z110.con : V.Con := ⟨V.A8, (.cons .bool .nil), fun (x : V.D8) => Z110 (V.p8_0 x) (V.p8_1 x), [], [(true, 13), (true, 13)], [(false, 1)], [false], []⟩
noncomputable abbrev Z110.E : V.Env := V.mkE V.tys [(34, Z121.con), (35, Z134.con)] [] [] [] [] []
noncomputable abbrev Z110.kt (x0 : TGap) (x1 : TGap) : V.Kt Bool := V.ktOf Z110.E Z110.con Tryz.f36 (V.fl8 x0 x1)
noncomputable abbrev Z110.s (x0 : TGap) (x1 : TGap) : V.St := ⟨[(0, .v true (V.lsGap x0)), (1, .v true (V.lsGap x1))], []⟩
theorem Z110.v0 (x0 : TGap) (x1 : TGap) : V.evBody Z110.E Z110.con Tryz.f36 (V.fl8 x0 x1) = V.evC Z110.E Tryz.f36.ntmps (V.codeOf Tryz.f36) (Z110.kt x0 x1) (Z110.s x0 x1) := by kernel_rfl
theorem Z110.v (x0 : TGap) (x1 : TGap) : V.evC Z110.E Tryz.f36.ntmps (V.codeOf Tryz.f36) (Z110.kt x0 x1) (Z110.s x0 x1) = Z110 x0 x1 := by kernel_rfl
theorem Z110.eq (x0 : TGap) (x1 : TGap) : V.evBody Z110.E Z110.con Tryz.f36 (V.fl8 x0 x1) = Z110 x0 x1 := (Z110.v0 x0 x1).trans (Z110.v x0 x1)
theorem Z110.ok : V.Valid Tryz.prog 36 Z110.con :=
  V.fo (V.tab_cons Z121.ok (V.tab_cons Z134.ok V.tab_nil)) Tryz.func36 (by kernel_rfl) (fun x y h => (show V.evBody Z110.E Z110.con Tryz.f36 x = _ from Z110.eq (V.p8_0 x) (V.p8_1 x)).trans (V.cfl (by kernel_rfl) h))
noncomputable abbrev Z99.con : V.Con := ⟨V.A9, (.cons .bool .nil), fun (x : V.D9) => Z99 (V.p9_0 x) (V.p9_1 x), [], [(true, 21), (true, 21)], [(false, 1)], [false], []⟩
noncomputable abbrev Z99.E : V.Env := V.mkE V.tys [(33, Z45.con), (34, Z121.con), (35, Z134.con), (36, Z110.con)] [] [] [] [] []
noncomputable abbrev Z99.kt (x0 : TAnswer) (x1 : TAnswer) : V.Kt Bool := V.ktOf Z99.E Z99.con Tryz.f17 (V.fl9 x0 x1)
noncomputable abbrev Z99.s (x0 : TAnswer) (x1 : TAnswer) : V.St := ⟨[(0, .v true (V.lsAnswer x0)), (1, .v true (V.lsAnswer x1))], []⟩
theorem Z99.v0 (x0 : TAnswer) (x1 : TAnswer) : V.evBody Z99.E Z99.con Tryz.f17 (V.fl9 x0 x1) = V.evC Z99.E Tryz.f17.ntmps (V.codeOf Tryz.f17) (Z99.kt x0 x1) (Z99.s x0 x1) := by kernel_rfl
theorem Z99.v (x0 : TAnswer) (x1 : TAnswer) : V.evC Z99.E Tryz.f17.ntmps (V.codeOf Tryz.f17) (Z99.kt x0 x1) (Z99.s x0 x1) = Z99 x0 x1 := by kernel_rfl
theorem Z99.eq (x0 : TAnswer) (x1 : TAnswer) : V.evBody Z99.E Z99.con Tryz.f17 (V.fl9 x0 x1) = Z99 x0 x1 := (Z99.v0 x0 x1).trans (Z99.v x0 x1)
theorem Z99.ok : V.Valid Tryz.prog 17 Z99.con :=
  V.fo (V.tab_cons Z45.ok (V.tab_cons Z121.ok (V.tab_cons Z134.ok (V.tab_cons Z110.ok V.tab_nil)))) Tryz.func17 (by kernel_rfl) (fun x y h => (show V.evBody Z99.E Z99.con Tryz.f17 x = _ from Z99.eq (V.p9_0 x) (V.p9_1 x)).trans (V.cfl (by kernel_rfl) h))
noncomputable abbrev Z53.con : V.Con := ⟨(.cons (.sl V.eAnswer) (.cons (.sl V.eAnswer) .nil)), (.cons .bool .nil), fun (x : List TAnswer × List TAnswer) => Z53 x.1 x.2, [], [(false, 1), (false, 1)], [(false, 1)], [false], []⟩
noncomputable abbrev Z53.E : V.Env := V.mkE V.tys [(17, Z99.con)] [(8, [0, 1, 5], [])] [(6, 8)] [] [] []
noncomputable abbrev Z53.kt (x0 : List TAnswer) (x1 : List TAnswer) : V.Kt Bool := V.ktOf Z53.E Z53.con Tryz.f8 ((x0, x1) : List TAnswer × List TAnswer)
noncomputable abbrev Z53.s8 (x0 : List TAnswer) (x1 : List TAnswer) (v8_2 : Int) : V.St := ⟨[(0, .v false [.val (.sl V.eAnswer x0)]), (1, .v false [.val (.sl V.eAnswer x1)]), (5, .v false [.val (.int .i64 v8_2)])], []⟩
theorem Z53.r8 (x0 : List TAnswer) (x1 : List TAnswer) (R : V.St → Option Bool) (v8_2 : Int) : V.loopF Z53.E Tryz.f8.ntmps [1, 1, 0, 1, 0] [] (V.codeOf Tryz.f8) (Z53.kt x0 x1) R (Z53.s8 x0 x1 v8_2) = Z53.g8 x0 x1 (fun v8_2 => R (Z53.s8 x0 x1 v8_2)) v8_2 := by kernel_rfl
theorem Z53.e8 (x0 : List TAnswer) (x1 : List TAnswer) : ∀ (n : Nat) (v8_2 : Int), V.loopN (V.loopF Z53.E Tryz.f8.ntmps [1, 1, 0, 1, 0] [] (V.codeOf Tryz.f8) (Z53.kt x0 x1)) n (Z53.s8 x0 x1 v8_2) = Z53.l8 x0 x1 n v8_2 := by
  intro n
  induction n with
  | zero => intros; rw [V.loopN_z]; rfl
  | succ n ih =>
    intro v8_2
    rw [V.loopN_s, Z53.r8]
    simp only [ih]
    first | exact (Z53.u8 ..).symm | rfl
theorem Z53.v (x0 : List TAnswer) (x1 : List TAnswer) : V.evBody Z53.E Z53.con Tryz.f8 ((x0, x1) : List TAnswer × List TAnswer) = Z53.b x0 x1 (fun v8_2 => V.loopN (V.loopF Z53.E Tryz.f8.ntmps [1, 1, 0, 1, 0] [] (V.codeOf Tryz.f8) (Z53.kt x0 x1)) V.KK (Z53.s8 x0 x1 v8_2)) := by kernel_rfl
theorem Z53.eq (x0 : List TAnswer) (x1 : List TAnswer) : V.evBody Z53.E Z53.con Tryz.f8 ((x0, x1) : List TAnswer × List TAnswer) = Z53 x0 x1 := by
  rw [Z53.v]
  simp only [Z53.e8]
  rfl
theorem Z53.ok : V.Valid Tryz.prog 8 Z53.con :=
  V.fo (V.tab_cons Z99.ok V.tab_nil) Tryz.func8 (by kernel_rfl) (fun x y h => (show V.evBody Z53.E Z53.con Tryz.f8 x = _ from Z53.eq x.1 x.2).trans (V.cfl (by kernel_rfl) h))
noncomputable abbrev Z62.con : V.Con := ⟨(.cons (.sl V.eEntry) (.cons (.sl V.eEntry) .nil)), (.cons .bool .nil), fun (x : List TEntry × List TEntry) => Z62 x.1 x.2, [], [(false, 1), (false, 1)], [(false, 1)], [false], []⟩
noncomputable abbrev Z62.E : V.Env := V.mkE V.tys [(34, Z121.con)] [(8, [0, 1, 5], [])] [(6, 8)] [] [] []
noncomputable abbrev Z62.kt (x0 : List TEntry) (x1 : List TEntry) : V.Kt Bool := V.ktOf Z62.E Z62.con Tryz.f92 ((x0, x1) : List TEntry × List TEntry)
noncomputable abbrev Z62.s8 (x0 : List TEntry) (x1 : List TEntry) (v8_2 : Int) : V.St := ⟨[(0, .v false [.val (.sl V.eEntry x0)]), (1, .v false [.val (.sl V.eEntry x1)]), (5, .v false [.val (.int .i64 v8_2)])], []⟩
theorem Z62.r8 (x0 : List TEntry) (x1 : List TEntry) (R : V.St → Option Bool) (v8_2 : Int) : V.loopF Z62.E Tryz.f92.ntmps [1, 1, 0, 1, 0] [] (V.codeOf Tryz.f92) (Z62.kt x0 x1) R (Z62.s8 x0 x1 v8_2) = Z62.g8 x0 x1 (fun v8_2 => R (Z62.s8 x0 x1 v8_2)) v8_2 := by kernel_rfl
theorem Z62.e8 (x0 : List TEntry) (x1 : List TEntry) : ∀ (n : Nat) (v8_2 : Int), V.loopN (V.loopF Z62.E Tryz.f92.ntmps [1, 1, 0, 1, 0] [] (V.codeOf Tryz.f92) (Z62.kt x0 x1)) n (Z62.s8 x0 x1 v8_2) = Z62.l8 x0 x1 n v8_2 := by
  intro n
  induction n with
  | zero => intros; rw [V.loopN_z]; rfl
  | succ n ih =>
    intro v8_2
    rw [V.loopN_s, Z62.r8]
    simp only [ih]
    first | exact (Z62.u8 ..).symm | rfl
theorem Z62.v (x0 : List TEntry) (x1 : List TEntry) : V.evBody Z62.E Z62.con Tryz.f92 ((x0, x1) : List TEntry × List TEntry) = Z62.b x0 x1 (fun v8_2 => V.loopN (V.loopF Z62.E Tryz.f92.ntmps [1, 1, 0, 1, 0] [] (V.codeOf Tryz.f92) (Z62.kt x0 x1)) V.KK (Z62.s8 x0 x1 v8_2)) := by kernel_rfl
theorem Z62.eq (x0 : List TEntry) (x1 : List TEntry) : V.evBody Z62.E Z62.con Tryz.f92 ((x0, x1) : List TEntry × List TEntry) = Z62 x0 x1 := by
  rw [Z62.v]
  simp only [Z62.e8]
  rfl
theorem Z62.ok : V.Valid Tryz.prog 92 Z62.con :=
  V.fo (V.tab_cons Z121.ok V.tab_nil) Tryz.func92 (by kernel_rfl) (fun x y h => (show V.evBody Z62.E Z62.con Tryz.f92 x = _ from Z62.eq x.1 x.2).trans (V.cfl (by kernel_rfl) h))
noncomputable abbrev Z155.con : V.Con := ⟨(.cons (.sl V.eSigned) (.cons (.sl V.eEntry) (.cons (.sl V.eSigned) (.cons (.sl V.eEntry) .nil)))), (.cons .bool .nil), fun (x : List TSigned × List TEntry × List TSigned × List TEntry) => Z155 (x.1, x.2.1) x.2.2, [], [(true, 2), (true, 2)], [(false, 1)], [false], []⟩
noncomputable abbrev Z155.E : V.Env := V.mkE V.tys [(33, Z45.con), (92, Z62.con)] [] [] [] [] []
theorem Z155.eq (x0 : TZone) (x1 : TZone) : V.evBody Z155.E Z155.con Tryz.f64 ((x0.1, x0.2, x1.1, x1.2) : List TSigned × List TEntry × List TSigned × List TEntry) = Z155 x0 x1 := by kernel_rfl
theorem Z155.ok : V.Valid Tryz.prog 64 Z155.con :=
  V.fo (V.tab_cons Z45.ok (V.tab_cons Z62.ok V.tab_nil)) Tryz.func64 (by kernel_rfl) (fun x y h => (show V.evBody Z155.E Z155.con Tryz.f64 x = _ from Z155.eq (x.1, x.2.1) x.2.2).trans (V.cfl (by kernel_rfl) h))
noncomputable abbrev Z65.con : V.Con := ⟨(.cons (.sl (.cons (.sl V.eSigned) (.cons (.sl V.eEntry) .nil))) (.cons (.sl (.cons (.sl V.eSigned) (.cons (.sl V.eEntry) .nil))) .nil)), (.cons .bool .nil), fun (x : List TZone × List TZone) => Z65 x.1 x.2, [], [(false, 1), (false, 1)], [(false, 1)], [false], []⟩
noncomputable abbrev Z65.E : V.Env := V.mkE V.tys [(64, Z155.con)] [(8, [0, 1, 5], [])] [(6, 8)] [] [] []
noncomputable abbrev Z65.kt (x0 : List TZone) (x1 : List TZone) : V.Kt Bool := V.ktOf Z65.E Z65.con Tryz.f37 ((x0, x1) : List TZone × List TZone)
noncomputable abbrev Z65.s8 (x0 : List TZone) (x1 : List TZone) (v8_2 : Int) : V.St := ⟨[(0, .v false [.val (.sl (.cons (.sl V.eSigned) (.cons (.sl V.eEntry) .nil)) x0)]), (1, .v false [.val (.sl (.cons (.sl V.eSigned) (.cons (.sl V.eEntry) .nil)) x1)]), (5, .v false [.val (.int .i64 v8_2)])], []⟩
theorem Z65.r8 (x0 : List TZone) (x1 : List TZone) (R : V.St → Option Bool) (v8_2 : Int) : V.loopF Z65.E Tryz.f37.ntmps [1, 1, 0, 1, 0] [] (V.codeOf Tryz.f37) (Z65.kt x0 x1) R (Z65.s8 x0 x1 v8_2) = Z65.g8 x0 x1 (fun v8_2 => R (Z65.s8 x0 x1 v8_2)) v8_2 := by kernel_rfl
theorem Z65.e8 (x0 : List TZone) (x1 : List TZone) : ∀ (n : Nat) (v8_2 : Int), V.loopN (V.loopF Z65.E Tryz.f37.ntmps [1, 1, 0, 1, 0] [] (V.codeOf Tryz.f37) (Z65.kt x0 x1)) n (Z65.s8 x0 x1 v8_2) = Z65.l8 x0 x1 n v8_2 := by
  intro n
  induction n with
  | zero => intros; rw [V.loopN_z]; rfl
  | succ n ih =>
    intro v8_2
    rw [V.loopN_s, Z65.r8]
    simp only [ih]
    first | exact (Z65.u8 ..).symm | rfl
theorem Z65.v (x0 : List TZone) (x1 : List TZone) : V.evBody Z65.E Z65.con Tryz.f37 ((x0, x1) : List TZone × List TZone) = Z65.b x0 x1 (fun v8_2 => V.loopN (V.loopF Z65.E Tryz.f37.ntmps [1, 1, 0, 1, 0] [] (V.codeOf Tryz.f37) (Z65.kt x0 x1)) V.KK (Z65.s8 x0 x1 v8_2)) := by kernel_rfl
theorem Z65.eq (x0 : List TZone) (x1 : List TZone) : V.evBody Z65.E Z65.con Tryz.f37 ((x0, x1) : List TZone × List TZone) = Z65 x0 x1 := by
  rw [Z65.v]
  simp only [Z65.e8]
  rfl
theorem Z65.ok : V.Valid Tryz.prog 37 Z65.con :=
  V.fo (V.tab_cons Z155.ok V.tab_nil) Tryz.func37 (by kernel_rfl) (fun x y h => (show V.evBody Z65.E Z65.con Tryz.f37 x = _ from Z65.eq x.1 x.2).trans (V.cfl (by kernel_rfl) h))
noncomputable abbrev Z153.con : V.Con := ⟨(.cons (.sl (.cons (.sl V.eSigned) (.cons (.sl V.eEntry) .nil))) (.cons (.int .i64) (.cons (.sl (.cons (.sl V.eSigned) (.cons (.sl V.eEntry) .nil))) (.cons (.int .i64) .nil)))), (.cons .bool .nil), fun (x : List TZone × Int × List TZone × Int) => Z153 (x.1, x.2.1) x.2.2, [], [(true, 2), (true, 2)], [(false, 1)], [false], []⟩
noncomputable abbrev Z153.E : V.Env := V.mkE V.tys [(37, Z65.con)] [] [] [] [] []
theorem Z153.eq (x0 : TServer) (x1 : TServer) : V.evBody Z153.E Z153.con Tryz.f18 ((x0.1, x0.2, x1.1, x1.2) : List TZone × Int × List TZone × Int) = Z153 x0 x1 := by kernel_rfl
theorem Z153.ok : V.Valid Tryz.prog 18 Z153.con :=
  V.fo (V.tab_cons Z65.ok V.tab_nil) Tryz.func18 (by kernel_rfl) (fun x y h => (show V.evBody Z153.E Z153.con Tryz.f18 x = _ from Z153.eq (x.1, x.2.1) x.2.2).trans (V.cfl (by kernel_rfl) h))
noncomputable abbrev Z63.con : V.Con := ⟨(.cons (.sl (.cons (.sl (.cons (.sl V.eSigned) (.cons (.sl V.eEntry) .nil))) (.cons (.int .i64) .nil))) (.cons (.sl (.cons (.sl (.cons (.sl V.eSigned) (.cons (.sl V.eEntry) .nil))) (.cons (.int .i64) .nil))) .nil)), (.cons .bool .nil), fun (x : List TServer × List TServer) => Z63 x.1 x.2, [], [(false, 1), (false, 1)], [(false, 1)], [false], []⟩
noncomputable abbrev Z63.E : V.Env := V.mkE V.tys [(18, Z153.con)] [(8, [0, 1, 5], [])] [(6, 8)] [] [] []
noncomputable abbrev Z63.kt (x0 : List TServer) (x1 : List TServer) : V.Kt Bool := V.ktOf Z63.E Z63.con Tryz.f9 ((x0, x1) : List TServer × List TServer)
noncomputable abbrev Z63.s8 (x0 : List TServer) (x1 : List TServer) (v8_2 : Int) : V.St := ⟨[(0, .v false [.val (.sl (.cons (.sl (.cons (.sl V.eSigned) (.cons (.sl V.eEntry) .nil))) (.cons (.int .i64) .nil)) x0)]), (1, .v false [.val (.sl (.cons (.sl (.cons (.sl V.eSigned) (.cons (.sl V.eEntry) .nil))) (.cons (.int .i64) .nil)) x1)]), (5, .v false [.val (.int .i64 v8_2)])], []⟩
theorem Z63.r8 (x0 : List TServer) (x1 : List TServer) (R : V.St → Option Bool) (v8_2 : Int) : V.loopF Z63.E Tryz.f9.ntmps [1, 1, 0, 1, 0] [] (V.codeOf Tryz.f9) (Z63.kt x0 x1) R (Z63.s8 x0 x1 v8_2) = Z63.g8 x0 x1 (fun v8_2 => R (Z63.s8 x0 x1 v8_2)) v8_2 := by kernel_rfl
theorem Z63.e8 (x0 : List TServer) (x1 : List TServer) : ∀ (n : Nat) (v8_2 : Int), V.loopN (V.loopF Z63.E Tryz.f9.ntmps [1, 1, 0, 1, 0] [] (V.codeOf Tryz.f9) (Z63.kt x0 x1)) n (Z63.s8 x0 x1 v8_2) = Z63.l8 x0 x1 n v8_2 := by
  intro n
  induction n with
  | zero => intros; rw [V.loopN_z]; rfl
  | succ n ih =>
    intro v8_2
    rw [V.loopN_s, Z63.r8]
    simp only [ih]
    first | exact (Z63.u8 ..).symm | rfl
theorem Z63.v (x0 : List TServer) (x1 : List TServer) : V.evBody Z63.E Z63.con Tryz.f9 ((x0, x1) : List TServer × List TServer) = Z63.b x0 x1 (fun v8_2 => V.loopN (V.loopF Z63.E Tryz.f9.ntmps [1, 1, 0, 1, 0] [] (V.codeOf Tryz.f9) (Z63.kt x0 x1)) V.KK (Z63.s8 x0 x1 v8_2)) := by kernel_rfl
theorem Z63.eq (x0 : List TServer) (x1 : List TServer) : V.evBody Z63.E Z63.con Tryz.f9 ((x0, x1) : List TServer × List TServer) = Z63 x0 x1 := by
  rw [Z63.v]
  simp only [Z63.e8]
  rfl
theorem Z63.ok : V.Valid Tryz.prog 9 Z63.con :=
  V.fo (V.tab_cons Z153.ok V.tab_nil) Tryz.func9 (by kernel_rfl) (fun x y h => (show V.evBody Z63.E Z63.con Tryz.f9 x = _ from Z63.eq x.1 x.2).trans (V.cfl (by kernel_rfl) h))
noncomputable abbrev Z20.con : V.Con := ⟨(.cons (.sl (.cons (.int .i64) .nil)) (.cons (.int .i64) .nil)), (.cons (.sl (.cons (.int .i64) .nil)) (.cons (.int .i64) .nil)), fun (x : List Int × Int) => Z20 x.1 x.2, [(0, false)], [(false, 1), (false, 1)], [(false, 1)], [false], []⟩
noncomputable abbrev Z20.E : V.Env := V.mkE V.tys [] [(4, [0, 1, 5], [])] [] [] [] []
noncomputable abbrev Z20.kt (x0 : List Int) (x1 : Int) : V.Kt TKeys := V.ktOf Z20.E Z20.con Tryz.f23 ((x0, x1) : List Int × Int)
noncomputable abbrev Z20.s4 (v4_0 : Int) (v4_1 : Int) (v4_2 : List Int) : V.St := ⟨[(0, .v false [.ref 0]), (1, .v false [.val (.int .i64 v4_0)]), (5, .v false [.val (.int .i64 v4_1)])], [(0, .row (.cons (.int .i64) .nil) true v4_2)]⟩
theorem Z20.r4 (x0 : List Int) (x1 : Int) (R : V.St → Option TKeys) (v4_0 : Int) (v4_1 : Int) (v4_2 : List Int) : V.loopF Z20.E Tryz.f23.ntmps [1, 0, 1, 0] [] (V.codeOf Tryz.f23) (Z20.kt x0 x1) R (Z20.s4 v4_0 v4_1 v4_2) = Z20.g4 (fun v4_0 v4_1 v4_2 => R (Z20.s4 v4_0 v4_1 v4_2)) v4_0 v4_1 v4_2 := by kernel_rfl
theorem Z20.e4 (x0 : List Int) (x1 : Int) : ∀ (n : Nat) (v4_0 : Int) (v4_1 : Int) (v4_2 : List Int), V.loopN (V.loopF Z20.E Tryz.f23.ntmps [1, 0, 1, 0] [] (V.codeOf Tryz.f23) (Z20.kt x0 x1)) n (Z20.s4 v4_0 v4_1 v4_2) = Z20.l4 n v4_0 v4_1 v4_2 := by
  intro n
  induction n with
  | zero => intros; rw [V.loopN_z]; rfl
  | succ n ih =>
    intro v4_0 v4_1 v4_2
    rw [V.loopN_s, Z20.r4]
    simp only [ih]
    first | exact (Z20.u4 ..).symm | rfl
theorem Z20.v (x0 : List Int) (x1 : Int) : V.evBody Z20.E Z20.con Tryz.f23 ((x0, x1) : List Int × Int) = Z20.b x0 x1 (fun v4_0 v4_1 v4_2 => V.loopN (V.loopF Z20.E Tryz.f23.ntmps [1, 0, 1, 0] [] (V.codeOf Tryz.f23) (Z20.kt x0 x1)) V.KK (Z20.s4 v4_0 v4_1 v4_2)) := by kernel_rfl
theorem Z20.eq (x0 : List Int) (x1 : Int) : V.evBody Z20.E Z20.con Tryz.f23 ((x0, x1) : List Int × Int) = Z20 x0 x1 := by
  rw [Z20.v]
  simp only [Z20.e4]
  rfl
theorem Z20.ok : V.Valid Tryz.prog 23 Z20.con :=
  V.fo V.tab_nil Tryz.func23 (by kernel_rfl) (fun x y h => (show V.evBody Z20.E Z20.con Tryz.f23 x = _ from Z20.eq x.1 x.2).trans (V.cfl (by kernel_rfl) h))
noncomputable abbrev Z25.con : V.Con := ⟨(.cons (.sl (.cons (.int .i64) (.cons (.int .i64) .nil))) (.cons (.int .i64) .nil)), (.cons (.sl (.cons (.int .i64) (.cons (.int .i64) .nil))) (.cons (.int .i64) .nil)), fun (x : List TSig × Int) => Z25 x.1 x.2, [(0, false)], [(false, 1), (false, 1)], [(false, 1)], [false], []⟩
noncomputable abbrev Z25.E : V.Env := V.mkE V.tys [] [(4, [0, 1, 5], [])] [] [] [] []
noncomputable abbrev Z25.kt (x0 : List TSig) (x1 : Int) : V.Kt (List TSig × Int) := V.ktOf Z25.E Z25.con Tryz.f39 ((x0, x1) : List TSig × Int)
noncomputable abbrev Z25.s4 (v4_0 : Int) (v4_1 : Int) (v4_2 : List TSig) : V.St := ⟨[(0, .v false [.ref 0]), (1, .v false [.val (.int .i64 v4_0)]), (5, .v false [.val (.int .i64 v4_1)])], [(0, .row (.cons (.int .i64) (.cons (.int .i64) .nil)) true v4_2)]⟩
theorem Z25.r4 (x0 : List TSig) (x1 : Int) (R : V.St → Option (List TSig × Int)) (v4_0 : Int) (v4_1 : Int) (v4_2 : List TSig) : V.loopF Z25.E Tryz.f39.ntmps [1, 0, 1, 0] [] (V.codeOf Tryz.f39) (Z25.kt x0 x1) R (Z25.s4 v4_0 v4_1 v4_2) = Z25.g4 (fun v4_0 v4_1 v4_2 => R (Z25.s4 v4_0 v4_1 v4_2)) v4_0 v4_1 v4_2 := by kernel_rfl
theorem Z25.e4 (x0 : List TSig) (x1 : Int) : ∀ (n : Nat) (v4_0 : Int) (v4_1 : Int) (v4_2 : List TSig), V.loopN (V.loopF Z25.E Tryz.f39.ntmps [1, 0, 1, 0] [] (V.codeOf Tryz.f39) (Z25.kt x0 x1)) n (Z25.s4 v4_0 v4_1 v4_2) = Z25.l4 n v4_0 v4_1 v4_2 := by
  intro n
  induction n with
  | zero => intros; rw [V.loopN_z]; rfl
  | succ n ih =>
    intro v4_0 v4_1 v4_2
    rw [V.loopN_s, Z25.r4]
    simp only [ih]
    first | exact (Z25.u4 ..).symm | rfl
theorem Z25.v (x0 : List TSig) (x1 : Int) : V.evBody Z25.E Z25.con Tryz.f39 ((x0, x1) : List TSig × Int) = Z25.b x0 x1 (fun v4_0 v4_1 v4_2 => V.loopN (V.loopF Z25.E Tryz.f39.ntmps [1, 0, 1, 0] [] (V.codeOf Tryz.f39) (Z25.kt x0 x1)) V.KK (Z25.s4 v4_0 v4_1 v4_2)) := by kernel_rfl
theorem Z25.eq (x0 : List TSig) (x1 : Int) : V.evBody Z25.E Z25.con Tryz.f39 ((x0, x1) : List TSig × Int) = Z25 x0 x1 := by
  rw [Z25.v]
  simp only [Z25.e4]
  rfl
theorem Z25.ok : V.Valid Tryz.prog 39 Z25.con :=
  V.fo V.tab_nil Tryz.func39 (by kernel_rfl) (fun x y h => (show V.evBody Z25.E Z25.con Tryz.f39 x = _ from Z25.eq x.1 x.2).trans (V.cfl (by kernel_rfl) h))
noncomputable abbrev Z1.con : V.Con := ⟨(.cons (.sl V.eSigned) (.cons (.int .i64) .nil)), (.cons (.sl V.eSigned) (.cons (.int .i64) .nil)), fun (x : List TSigned × Int) => Z1 x.1 x.2, [(0, false)], [(false, 1), (false, 1)], [(false, 1)], [false], []⟩
noncomputable abbrev Z1.E : V.Env := V.mkE V.tys [(23, Z20.con), (39, Z25.con)] [(4, [0, 1, 5], [])] [] [] [] []
noncomputable abbrev Z1.kt (x0 : List TSigned) (x1 : Int) : V.Kt (List TSigned × Int) := V.ktOf Z1.E Z1.con Tryz.f20 ((x0, x1) : List TSigned × Int)
noncomputable abbrev Z1.s4 (v4_0 : Int) (v4_1 : Int) (v4_2 : List TSigned) : V.St := ⟨[(0, .v false [.ref 0]), (1, .v false [.val (.int .i64 v4_0)]), (5, .v false [.val (.int .i64 v4_1)])], [(0, .row V.eSigned true v4_2)]⟩
theorem Z1.r4 (x0 : List TSigned) (x1 : Int) (R : V.St → Option (List TSigned × Int)) (v4_0 : Int) (v4_1 : Int) (v4_2 : List TSigned) : V.loopF Z1.E Tryz.f20.ntmps [1, 0, 1, 0] [] (V.codeOf Tryz.f20) (Z1.kt x0 x1) R (Z1.s4 v4_0 v4_1 v4_2) = Z1.g4 (fun v4_0 v4_1 v4_2 => R (Z1.s4 v4_0 v4_1 v4_2)) v4_0 v4_1 v4_2 := by kernel_rfl
theorem Z1.e4 (x0 : List TSigned) (x1 : Int) : ∀ (n : Nat) (v4_0 : Int) (v4_1 : Int) (v4_2 : List TSigned), V.loopN (V.loopF Z1.E Tryz.f20.ntmps [1, 0, 1, 0] [] (V.codeOf Tryz.f20) (Z1.kt x0 x1)) n (Z1.s4 v4_0 v4_1 v4_2) = Z1.l4 n v4_0 v4_1 v4_2 := by
  intro n
  induction n with
  | zero => intros; rw [V.loopN_z]; rfl
  | succ n ih =>
    intro v4_0 v4_1 v4_2
    rw [V.loopN_s, Z1.r4]
    simp only [ih]
    first | exact (Z1.u4 ..).symm | rfl
theorem Z1.v (x0 : List TSigned) (x1 : Int) : V.evBody Z1.E Z1.con Tryz.f20 ((x0, x1) : List TSigned × Int) = Z1.b x0 x1 (fun v4_0 v4_1 v4_2 => V.loopN (V.loopF Z1.E Tryz.f20.ntmps [1, 0, 1, 0] [] (V.codeOf Tryz.f20) (Z1.kt x0 x1)) V.KK (Z1.s4 v4_0 v4_1 v4_2)) := by kernel_rfl
theorem Z1.eq (x0 : List TSigned) (x1 : Int) : V.evBody Z1.E Z1.con Tryz.f20 ((x0, x1) : List TSigned × Int) = Z1 x0 x1 := by
  rw [Z1.v]
  simp only [Z1.e4]
  rfl
theorem Z1.ok : V.Valid Tryz.prog 20 Z1.con :=
  V.fo (V.tab_cons Z20.ok (V.tab_cons Z25.ok V.tab_nil)) Tryz.func20 (by kernel_rfl) (fun x y h => (show V.evBody Z1.E Z1.con Tryz.f20 x = _ from Z1.eq x.1 x.2).trans (V.cfl (by kernel_rfl) h))
noncomputable abbrev Z12.con : V.Con := ⟨(.cons (.int .i64) .nil), (.cons .str .nil), fun (x : Int) => Z12 x, [], [(false, 1)], [(false, 1)], [false], []⟩
noncomputable abbrev Z12.E : V.Env := V.mkE V.tys [] [(8, [0, 3], [])] [] [] [] []
noncomputable abbrev Z12.kt (x0 : Int) : V.Kt ByteArray := V.ktOf Z12.E Z12.con Tryz.f21 ((x0) : Int)
noncomputable abbrev Z12.s8 (v8_0 : Int) (v8_1 : ByteArray) : V.St := ⟨[(0, .v false [.val (.int .i64 v8_0)]), (3, .v false [.val (.str v8_1)])], []⟩
theorem Z12.r8 (x0 : Int) (R : V.St → Option ByteArray) (v8_0 : Int) (v8_1 : ByteArray) : V.loopF Z12.E Tryz.f21.ntmps [1, 1, 1, 0, 0] [] (V.codeOf Tryz.f21) (Z12.kt x0) R (Z12.s8 v8_0 v8_1) = Z12.g8 (fun v8_0 v8_1 => R (Z12.s8 v8_0 v8_1)) v8_0 v8_1 := by kernel_rfl
theorem Z12.e8 (x0 : Int) : ∀ (n : Nat) (v8_0 : Int) (v8_1 : ByteArray), V.loopN (V.loopF Z12.E Tryz.f21.ntmps [1, 1, 1, 0, 0] [] (V.codeOf Tryz.f21) (Z12.kt x0)) n (Z12.s8 v8_0 v8_1) = Z12.l8 n v8_0 v8_1 := by
  intro n
  induction n with
  | zero => intros; rw [V.loopN_z]; rfl
  | succ n ih =>
    intro v8_0 v8_1
    rw [V.loopN_s, Z12.r8]
    simp only [ih]
    first | exact (Z12.u8 ..).symm | rfl
theorem Z12.v (x0 : Int) : V.evBody Z12.E Z12.con Tryz.f21 ((x0) : Int) = Z12.b x0 (fun v8_0 v8_1 => V.loopN (V.loopF Z12.E Tryz.f21.ntmps [1, 1, 1, 0, 0] [] (V.codeOf Tryz.f21) (Z12.kt x0)) V.KK (Z12.s8 v8_0 v8_1)) := by kernel_rfl
theorem Z12.eq (x0 : Int) : V.evBody Z12.E Z12.con Tryz.f21 ((x0) : Int) = Z12 x0 := by
  rw [Z12.v]
  simp only [Z12.e8]
  rfl
theorem Z12.ok : V.Valid Tryz.prog 21 Z12.con :=
  V.fo V.tab_nil Tryz.func21 (by kernel_rfl) (fun x y h => (show V.evBody Z12.E Z12.con Tryz.f21 x = _ from Z12.eq x).trans (V.cfl (by kernel_rfl) h))
noncomputable abbrev Z22.con : V.Con := ⟨(.cons (.sl (.cons .str .nil)) (.cons (.int .i64) .nil)), (.cons (.sl (.cons .str .nil)) (.cons (.int .i64) .nil)), fun (x : List ByteArray × Int) => Z22 x.1 x.2, [(0, false)], [(false, 1), (false, 1)], [(false, 1)], [false], []⟩
noncomputable abbrev Z22.E : V.Env := V.mkE V.tys [(21, Z12.con)] [(4, [0, 1, 5], [])] [] [] [] []
noncomputable abbrev Z22.kt (x0 : List ByteArray) (x1 : Int) : V.Kt (List ByteArray × Int) := V.ktOf Z22.E Z22.con Tryz.f22 ((x0, x1) : List ByteArray × Int)
noncomputable abbrev Z22.s4 (v4_0 : Int) (v4_1 : Int) (v4_2 : List ByteArray) : V.St := ⟨[(0, .v false [.ref 0]), (1, .v false [.val (.int .i64 v4_0)]), (5, .v false [.val (.int .i64 v4_1)])], [(0, .row (.cons .str .nil) true v4_2)]⟩
theorem Z22.r4 (x0 : List ByteArray) (x1 : Int) (R : V.St → Option (List ByteArray × Int)) (v4_0 : Int) (v4_1 : Int) (v4_2 : List ByteArray) : V.loopF Z22.E Tryz.f22.ntmps [1, 0, 1, 0] [] (V.codeOf Tryz.f22) (Z22.kt x0 x1) R (Z22.s4 v4_0 v4_1 v4_2) = Z22.g4 (fun v4_0 v4_1 v4_2 => R (Z22.s4 v4_0 v4_1 v4_2)) v4_0 v4_1 v4_2 := by kernel_rfl
theorem Z22.e4 (x0 : List ByteArray) (x1 : Int) : ∀ (n : Nat) (v4_0 : Int) (v4_1 : Int) (v4_2 : List ByteArray), V.loopN (V.loopF Z22.E Tryz.f22.ntmps [1, 0, 1, 0] [] (V.codeOf Tryz.f22) (Z22.kt x0 x1)) n (Z22.s4 v4_0 v4_1 v4_2) = Z22.l4 n v4_0 v4_1 v4_2 := by
  intro n
  induction n with
  | zero => intros; rw [V.loopN_z]; rfl
  | succ n ih =>
    intro v4_0 v4_1 v4_2
    rw [V.loopN_s, Z22.r4]
    simp only [ih]
    first | exact (Z22.u4 ..).symm | rfl
theorem Z22.v (x0 : List ByteArray) (x1 : Int) : V.evBody Z22.E Z22.con Tryz.f22 ((x0, x1) : List ByteArray × Int) = Z22.b x0 x1 (fun v4_0 v4_1 v4_2 => V.loopN (V.loopF Z22.E Tryz.f22.ntmps [1, 0, 1, 0] [] (V.codeOf Tryz.f22) (Z22.kt x0 x1)) V.KK (Z22.s4 v4_0 v4_1 v4_2)) := by kernel_rfl
theorem Z22.eq (x0 : List ByteArray) (x1 : Int) : V.evBody Z22.E Z22.con Tryz.f22 ((x0, x1) : List ByteArray × Int) = Z22 x0 x1 := by
  rw [Z22.v]
  simp only [Z22.e4]
  rfl
theorem Z22.ok : V.Valid Tryz.prog 22 Z22.con :=
  V.fo (V.tab_cons Z12.ok V.tab_nil) Tryz.func22 (by kernel_rfl) (fun x y h => (show V.evBody Z22.E Z22.con Tryz.f22 x = _ from Z22.eq x.1 x.2).trans (V.cfl (by kernel_rfl) h))
noncomputable abbrev Z16.con : V.Con := ⟨(.cons (.sl V.eEntry) (.cons (.int .i64) .nil)), (.cons (.sl V.eEntry) (.cons (.int .i64) .nil)), fun (x : List TEntry × Int) => Z16 x.1 x.2, [(0, false)], [(false, 1), (false, 1)], [(false, 1)], [false], []⟩
noncomputable abbrev Z16.E : V.Env := V.mkE V.tys [(21, Z12.con), (22, Z22.con)] [(4, [0, 1, 5], [])] [] [] [] []
noncomputable abbrev Z16.kt (x0 : List TEntry) (x1 : Int) : V.Kt (List TEntry × Int) := V.ktOf Z16.E Z16.con Tryz.f38 ((x0, x1) : List TEntry × Int)
noncomputable abbrev Z16.s4 (v4_0 : Int) (v4_1 : Int) (v4_2 : List TEntry) : V.St := ⟨[(0, .v false [.ref 0]), (1, .v false [.val (.int .i64 v4_0)]), (5, .v false [.val (.int .i64 v4_1)])], [(0, .row V.eEntry true v4_2)]⟩
theorem Z16.r4 (x0 : List TEntry) (x1 : Int) (R : V.St → Option (List TEntry × Int)) (v4_0 : Int) (v4_1 : Int) (v4_2 : List TEntry) : V.loopF Z16.E Tryz.f38.ntmps [1, 0, 1, 0] [] (V.codeOf Tryz.f38) (Z16.kt x0 x1) R (Z16.s4 v4_0 v4_1 v4_2) = Z16.g4 (fun v4_0 v4_1 v4_2 => R (Z16.s4 v4_0 v4_1 v4_2)) v4_0 v4_1 v4_2 := by kernel_rfl
theorem Z16.e4 (x0 : List TEntry) (x1 : Int) : ∀ (n : Nat) (v4_0 : Int) (v4_1 : Int) (v4_2 : List TEntry), V.loopN (V.loopF Z16.E Tryz.f38.ntmps [1, 0, 1, 0] [] (V.codeOf Tryz.f38) (Z16.kt x0 x1)) n (Z16.s4 v4_0 v4_1 v4_2) = Z16.l4 n v4_0 v4_1 v4_2 := by
  intro n
  induction n with
  | zero => intros; rw [V.loopN_z]; rfl
  | succ n ih =>
    intro v4_0 v4_1 v4_2
    rw [V.loopN_s, Z16.r4]
    simp only [ih]
    first | exact (Z16.u4 ..).symm | rfl
theorem Z16.v (x0 : List TEntry) (x1 : Int) : V.evBody Z16.E Z16.con Tryz.f38 ((x0, x1) : List TEntry × Int) = Z16.b x0 x1 (fun v4_0 v4_1 v4_2 => V.loopN (V.loopF Z16.E Tryz.f38.ntmps [1, 0, 1, 0] [] (V.codeOf Tryz.f38) (Z16.kt x0 x1)) V.KK (Z16.s4 v4_0 v4_1 v4_2)) := by kernel_rfl
theorem Z16.eq (x0 : List TEntry) (x1 : Int) : V.evBody Z16.E Z16.con Tryz.f38 ((x0, x1) : List TEntry × Int) = Z16 x0 x1 := by
  rw [Z16.v]
  simp only [Z16.e4]
  rfl
theorem Z16.ok : V.Valid Tryz.prog 38 Z16.con :=
  V.fo (V.tab_cons Z12.ok (V.tab_cons Z22.ok V.tab_nil)) Tryz.func38 (by kernel_rfl) (fun x y h => (show V.evBody Z16.E Z16.con Tryz.f38 x = _ from Z16.eq x.1 x.2).trans (V.cfl (by kernel_rfl) h))
noncomputable abbrev Z26.con : V.Con := ⟨(.cons (.sl (.cons (.sl V.eSigned) (.cons (.sl V.eEntry) .nil))) (.cons (.int .i64) .nil)), (.cons (.sl (.cons (.sl V.eSigned) (.cons (.sl V.eEntry) .nil))) (.cons (.int .i64) .nil)), fun (x : List TZone × Int) => Z26 x.1 x.2, [(0, false)], [(false, 1), (false, 1)], [(false, 1)], [false], []⟩
noncomputable abbrev Z26.E : V.Env := V.mkE V.tys [(20, Z1.con), (38, Z16.con)] [(4, [0, 1, 5], [])] [] [] [] []
noncomputable abbrev Z26.kt (x0 : List TZone) (x1 : Int) : V.Kt TServer := V.ktOf Z26.E Z26.con Tryz.f19 ((x0, x1) : List TZone × Int)
noncomputable abbrev Z26.s4 (v4_0 : Int) (v4_1 : Int) (v4_2 : List TZone) : V.St := ⟨[(0, .v false [.ref 0]), (1, .v false [.val (.int .i64 v4_0)]), (5, .v false [.val (.int .i64 v4_1)])], [(0, .row (.cons (.sl V.eSigned) (.cons (.sl V.eEntry) .nil)) true v4_2)]⟩
theorem Z26.r4 (x0 : List TZone) (x1 : Int) (R : V.St → Option TServer) (v4_0 : Int) (v4_1 : Int) (v4_2 : List TZone) : V.loopF Z26.E Tryz.f19.ntmps [1, 0, 1, 0] [] (V.codeOf Tryz.f19) (Z26.kt x0 x1) R (Z26.s4 v4_0 v4_1 v4_2) = Z26.g4 (fun v4_0 v4_1 v4_2 => R (Z26.s4 v4_0 v4_1 v4_2)) v4_0 v4_1 v4_2 := by kernel_rfl
theorem Z26.e4 (x0 : List TZone) (x1 : Int) : ∀ (n : Nat) (v4_0 : Int) (v4_1 : Int) (v4_2 : List TZone), V.loopN (V.loopF Z26.E Tryz.f19.ntmps [1, 0, 1, 0] [] (V.codeOf Tryz.f19) (Z26.kt x0 x1)) n (Z26.s4 v4_0 v4_1 v4_2) = Z26.l4 n v4_0 v4_1 v4_2 := by
  intro n
  induction n with
  | zero => intros; rw [V.loopN_z]; rfl
  | succ n ih =>
    intro v4_0 v4_1 v4_2
    rw [V.loopN_s, Z26.r4]
    simp only [ih]
    first | exact (Z26.u4 ..).symm | rfl
theorem Z26.v (x0 : List TZone) (x1 : Int) : V.evBody Z26.E Z26.con Tryz.f19 ((x0, x1) : List TZone × Int) = Z26.b x0 x1 (fun v4_0 v4_1 v4_2 => V.loopN (V.loopF Z26.E Tryz.f19.ntmps [1, 0, 1, 0] [] (V.codeOf Tryz.f19) (Z26.kt x0 x1)) V.KK (Z26.s4 v4_0 v4_1 v4_2)) := by kernel_rfl
theorem Z26.eq (x0 : List TZone) (x1 : Int) : V.evBody Z26.E Z26.con Tryz.f19 ((x0, x1) : List TZone × Int) = Z26 x0 x1 := by
  rw [Z26.v]
  simp only [Z26.e4]
  rfl
theorem Z26.ok : V.Valid Tryz.prog 19 Z26.con :=
  V.fo (V.tab_cons Z1.ok (V.tab_cons Z16.ok V.tab_nil)) Tryz.func19 (by kernel_rfl) (fun x y h => (show V.evBody Z26.E Z26.con Tryz.f19 x = _ from Z26.eq x.1 x.2).trans (V.cfl (by kernel_rfl) h))
noncomputable abbrev Z24.con : V.Con := ⟨(.cons (.sl (.cons (.sl (.cons (.sl V.eSigned) (.cons (.sl V.eEntry) .nil))) (.cons (.int .i64) .nil))) (.cons (.int .i64) .nil)), (.cons (.sl (.cons (.sl (.cons (.sl V.eSigned) (.cons (.sl V.eEntry) .nil))) (.cons (.int .i64) .nil))) (.cons (.int .i64) .nil)), fun (x : List TServer × Int) => Z24 x.1 x.2, [(0, false)], [(false, 1), (false, 1)], [(false, 1)], [false], []⟩
noncomputable abbrev Z24.E : V.Env := V.mkE V.tys [(19, Z26.con)] [(4, [0, 1, 5], [])] [] [] [] []
noncomputable abbrev Z24.kt (x0 : List TServer) (x1 : Int) : V.Kt (List TServer × Int) := V.ktOf Z24.E Z24.con Tryz.f10 ((x0, x1) : List TServer × Int)
noncomputable abbrev Z24.s4 (v4_0 : Int) (v4_1 : Int) (v4_2 : List TServer) : V.St := ⟨[(0, .v false [.ref 0]), (1, .v false [.val (.int .i64 v4_0)]), (5, .v false [.val (.int .i64 v4_1)])], [(0, .row (.cons (.sl (.cons (.sl V.eSigned) (.cons (.sl V.eEntry) .nil))) (.cons (.int .i64) .nil)) true v4_2)]⟩
theorem Z24.r4 (x0 : List TServer) (x1 : Int) (R : V.St → Option (List TServer × Int)) (v4_0 : Int) (v4_1 : Int) (v4_2 : List TServer) : V.loopF Z24.E Tryz.f10.ntmps [1, 0, 1, 0] [] (V.codeOf Tryz.f10) (Z24.kt x0 x1) R (Z24.s4 v4_0 v4_1 v4_2) = Z24.g4 (fun v4_0 v4_1 v4_2 => R (Z24.s4 v4_0 v4_1 v4_2)) v4_0 v4_1 v4_2 := by kernel_rfl
theorem Z24.e4 (x0 : List TServer) (x1 : Int) : ∀ (n : Nat) (v4_0 : Int) (v4_1 : Int) (v4_2 : List TServer), V.loopN (V.loopF Z24.E Tryz.f10.ntmps [1, 0, 1, 0] [] (V.codeOf Tryz.f10) (Z24.kt x0 x1)) n (Z24.s4 v4_0 v4_1 v4_2) = Z24.l4 n v4_0 v4_1 v4_2 := by
  intro n
  induction n with
  | zero => intros; rw [V.loopN_z]; rfl
  | succ n ih =>
    intro v4_0 v4_1 v4_2
    rw [V.loopN_s, Z24.r4]
    simp only [ih]
    first | exact (Z24.u4 ..).symm | rfl
theorem Z24.v (x0 : List TServer) (x1 : Int) : V.evBody Z24.E Z24.con Tryz.f10 ((x0, x1) : List TServer × Int) = Z24.b x0 x1 (fun v4_0 v4_1 v4_2 => V.loopN (V.loopF Z24.E Tryz.f10.ntmps [1, 0, 1, 0] [] (V.codeOf Tryz.f10) (Z24.kt x0 x1)) V.KK (Z24.s4 v4_0 v4_1 v4_2)) := by kernel_rfl
theorem Z24.eq (x0 : List TServer) (x1 : Int) : V.evBody Z24.E Z24.con Tryz.f10 ((x0, x1) : List TServer × Int) = Z24 x0 x1 := by
  rw [Z24.v]
  simp only [Z24.e4]
  rfl
theorem Z24.ok : V.Valid Tryz.prog 10 Z24.con :=
  V.fo (V.tab_cons Z26.ok V.tab_nil) Tryz.func10 (by kernel_rfl) (fun x y h => (show V.evBody Z24.E Z24.con Tryz.f10 x = _ from Z24.eq x.1 x.2).trans (V.cfl (by kernel_rfl) h))
noncomputable abbrev Z0.con : V.Con := ⟨(.cons (.sl V.eAnswer) (.cons (.int .i64) .nil)), (.cons (.sl V.eAnswer) (.cons (.int .i64) .nil)), fun (x : List TAnswer × Int) => Z0 x.1 x.2, [(0, false)], [(false, 1), (false, 1)], [(false, 1)], [false], []⟩
noncomputable abbrev Z0.E : V.Env := V.mkE V.tys [(20, Z1.con), (21, Z12.con), (22, Z22.con), (23, Z20.con)] [(4, [0, 1, 5], [])] [] [] [] []
noncomputable abbrev Z0.kt (x0 : List TAnswer) (x1 : Int) : V.Kt (List TAnswer × Int) := V.ktOf Z0.E Z0.con Tryz.f11 ((x0, x1) : List TAnswer × Int)
noncomputable abbrev Z0.s4 (v4_0 : Int) (v4_1 : Int) (v4_2 : List TAnswer) : V.St := ⟨[(0, .v false [.ref 0]), (1, .v false [.val (.int .i64 v4_0)]), (5, .v false [.val (.int .i64 v4_1)])], [(0, .row V.eAnswer true v4_2)]⟩
theorem Z0.r4 (x0 : List TAnswer) (x1 : Int) (R : V.St → Option (List TAnswer × Int)) (v4_0 : Int) (v4_1 : Int) (v4_2 : List TAnswer) : V.loopF Z0.E Tryz.f11.ntmps [1, 0, 1, 0] [] (V.codeOf Tryz.f11) (Z0.kt x0 x1) R (Z0.s4 v4_0 v4_1 v4_2) = Z0.g4 (fun v4_0 v4_1 v4_2 => R (Z0.s4 v4_0 v4_1 v4_2)) v4_0 v4_1 v4_2 := by kernel_rfl
theorem Z0.e4 (x0 : List TAnswer) (x1 : Int) : ∀ (n : Nat) (v4_0 : Int) (v4_1 : Int) (v4_2 : List TAnswer), V.loopN (V.loopF Z0.E Tryz.f11.ntmps [1, 0, 1, 0] [] (V.codeOf Tryz.f11) (Z0.kt x0 x1)) n (Z0.s4 v4_0 v4_1 v4_2) = Z0.l4 n v4_0 v4_1 v4_2 := by
  intro n
  induction n with
  | zero => intros; rw [V.loopN_z]; rfl
  | succ n ih =>
    intro v4_0 v4_1 v4_2
    rw [V.loopN_s, Z0.r4]
    simp only [ih]
    first | exact (Z0.u4 ..).symm | rfl
theorem Z0.v (x0 : List TAnswer) (x1 : Int) : V.evBody Z0.E Z0.con Tryz.f11 ((x0, x1) : List TAnswer × Int) = Z0.b x0 x1 (fun v4_0 v4_1 v4_2 => V.loopN (V.loopF Z0.E Tryz.f11.ntmps [1, 0, 1, 0] [] (V.codeOf Tryz.f11) (Z0.kt x0 x1)) V.KK (Z0.s4 v4_0 v4_1 v4_2)) := by kernel_rfl
theorem Z0.eq (x0 : List TAnswer) (x1 : Int) : V.evBody Z0.E Z0.con Tryz.f11 ((x0, x1) : List TAnswer × Int) = Z0 x0 x1 := by
  rw [Z0.v]
  simp only [Z0.e4]
  rfl
theorem Z0.ok : V.Valid Tryz.prog 11 Z0.con :=
  V.fo (V.tab_cons Z1.ok (V.tab_cons Z12.ok (V.tab_cons Z22.ok (V.tab_cons Z20.ok V.tab_nil)))) Tryz.func11 (by kernel_rfl) (fun x y h => (show V.evBody Z0.E Z0.con Tryz.f11 x = _ from Z0.eq x.1 x.2).trans (V.cfl (by kernel_rfl) h))
noncomputable abbrev Z19.con : V.Con := ⟨(.cons (.sl (.cons (.int .i64) .nil)) (.cons (.int .i64) .nil)), (.cons (.int .i64) .nil), fun (x : List Int × Int) => Z19 x.1 x.2, [], [(false, 1), (false, 1)], [(false, 1)], [false], []⟩
noncomputable abbrev Z19.E : V.Env := V.mkE V.tys [] [(4, [0, 1, 5], [])] [] [] [] []
noncomputable abbrev Z19.kt (x0 : List Int) (x1 : Int) : V.Kt Int := V.ktOf Z19.E Z19.con Tryz.f26 ((x0, x1) : List Int × Int)
noncomputable abbrev Z19.s4 (x0 : List Int) (v4_1 : Int) (v4_2 : Int) : V.St := ⟨[(0, .v false [.val (.sl (.cons (.int .i64) .nil) x0)]), (1, .v false [.val (.int .i64 v4_1)]), (5, .v false [.val (.int .i64 v4_2)])], []⟩
theorem Z19.r4 (x0 : List Int) (x1 : Int) (R : V.St → Option Int) (v4_1 : Int) (v4_2 : Int) : V.loopF Z19.E Tryz.f26.ntmps [1, 0, 1, 0] [] (V.codeOf Tryz.f26) (Z19.kt x0 x1) R (Z19.s4 x0 v4_1 v4_2) = Z19.g4 x0 (fun v4_1 v4_2 => R (Z19.s4 x0 v4_1 v4_2)) v4_1 v4_2 := by kernel_rfl
theorem Z19.e4 (x0 : List Int) (x1 : Int) : ∀ (n : Nat) (v4_1 : Int) (v4_2 : Int), V.loopN (V.loopF Z19.E Tryz.f26.ntmps [1, 0, 1, 0] [] (V.codeOf Tryz.f26) (Z19.kt x0 x1)) n (Z19.s4 x0 v4_1 v4_2) = Z19.l4 x0 n v4_1 v4_2 := by
  intro n
  induction n with
  | zero => intros; rw [V.loopN_z]; rfl
  | succ n ih =>
    intro v4_1 v4_2
    rw [V.loopN_s, Z19.r4]
    simp only [ih]
    first | exact (Z19.u4 ..).symm | rfl
theorem Z19.v (x0 : List Int) (x1 : Int) : V.evBody Z19.E Z19.con Tryz.f26 ((x0, x1) : List Int × Int) = Z19.b x0 x1 (fun v4_1 v4_2 => V.loopN (V.loopF Z19.E Tryz.f26.ntmps [1, 0, 1, 0] [] (V.codeOf Tryz.f26) (Z19.kt x0 x1)) V.KK (Z19.s4 x0 v4_1 v4_2)) := by kernel_rfl
theorem Z19.eq (x0 : List Int) (x1 : Int) : V.evBody Z19.E Z19.con Tryz.f26 ((x0, x1) : List Int × Int) = Z19 x0 x1 := by
  rw [Z19.v]
  simp only [Z19.e4]
  rfl
theorem Z19.ok : V.Valid Tryz.prog 26 Z19.con :=
  V.fo V.tab_nil Tryz.func26 (by kernel_rfl) (fun x y h => (show V.evBody Z19.E Z19.con Tryz.f26 x = _ from Z19.eq x.1 x.2).trans (V.cfl (by kernel_rfl) h))
noncomputable abbrev Z46.con : V.Con := ⟨(.cons (.sl (.cons (.int .i64) (.cons (.int .i64) .nil))) (.cons (.int .i64) .nil)), (.cons (.int .i64) .nil), fun (x : List TSig × Int) => Z46 x.1 x.2, [], [(false, 1), (false, 1)], [(false, 1)], [false], []⟩
noncomputable abbrev Z46.E : V.Env := V.mkE V.tys [] [(4, [0, 1, 5], [])] [] [] [] []
noncomputable abbrev Z46.kt (x0 : List TSig) (x1 : Int) : V.Kt Int := V.ktOf Z46.E Z46.con Tryz.f40 ((x0, x1) : List TSig × Int)
noncomputable abbrev Z46.s4 (x0 : List TSig) (v4_1 : Int) (v4_2 : Int) : V.St := ⟨[(0, .v false [.val (.sl (.cons (.int .i64) (.cons (.int .i64) .nil)) x0)]), (1, .v false [.val (.int .i64 v4_1)]), (5, .v false [.val (.int .i64 v4_2)])], []⟩
theorem Z46.r4 (x0 : List TSig) (x1 : Int) (R : V.St → Option Int) (v4_1 : Int) (v4_2 : Int) : V.loopF Z46.E Tryz.f40.ntmps [1, 0, 1, 0] [] (V.codeOf Tryz.f40) (Z46.kt x0 x1) R (Z46.s4 x0 v4_1 v4_2) = Z46.g4 x0 (fun v4_1 v4_2 => R (Z46.s4 x0 v4_1 v4_2)) v4_1 v4_2 := by kernel_rfl
theorem Z46.e4 (x0 : List TSig) (x1 : Int) : ∀ (n : Nat) (v4_1 : Int) (v4_2 : Int), V.loopN (V.loopF Z46.E Tryz.f40.ntmps [1, 0, 1, 0] [] (V.codeOf Tryz.f40) (Z46.kt x0 x1)) n (Z46.s4 x0 v4_1 v4_2) = Z46.l4 x0 n v4_1 v4_2 := by
  intro n
  induction n with
  | zero => intros; rw [V.loopN_z]; rfl
  | succ n ih =>
    intro v4_1 v4_2
    rw [V.loopN_s, Z46.r4]
    simp only [ih]
    first | exact (Z46.u4 ..).symm | rfl
theorem Z46.v (x0 : List TSig) (x1 : Int) : V.evBody Z46.E Z46.con Tryz.f40 ((x0, x1) : List TSig × Int) = Z46.b x0 x1 (fun v4_1 v4_2 => V.loopN (V.loopF Z46.E Tryz.f40.ntmps [1, 0, 1, 0] [] (V.codeOf Tryz.f40) (Z46.kt x0 x1)) V.KK (Z46.s4 x0 v4_1 v4_2)) := by kernel_rfl
theorem Z46.eq (x0 : List TSig) (x1 : Int) : V.evBody Z46.E Z46.con Tryz.f40 ((x0, x1) : List TSig × Int) = Z46 x0 x1 := by
  rw [Z46.v]
  simp only [Z46.e4]
  rfl
theorem Z46.ok : V.Valid Tryz.prog 40 Z46.con :=
  V.fo V.tab_nil Tryz.func40 (by kernel_rfl) (fun x y h => (show V.evBody Z46.E Z46.con Tryz.f40 x = _ from Z46.eq x.1 x.2).trans (V.cfl (by kernel_rfl) h))
noncomputable abbrev Z47.con : V.Con := ⟨(.cons (.sl V.eSigned) (.cons (.int .i64) .nil)), (.cons (.int .i64) .nil), fun (x : List TSigned × Int) => Z47 x.1 x.2, [], [(false, 1), (false, 1)], [(false, 1)], [false], []⟩
noncomputable abbrev Z47.E : V.Env := V.mkE V.tys [(26, Z19.con), (40, Z46.con)] [(4, [0, 1, 5], [])] [] [] [] []
noncomputable abbrev Z47.kt (x0 : List TSigned) (x1 : Int) : V.Kt Int := V.ktOf Z47.E Z47.con Tryz.f24 ((x0, x1) : List TSigned × Int)
noncomputable abbrev Z47.s4 (x0 : List TSigned) (v4_1 : Int) (v4_2 : Int) : V.St := ⟨[(0, .v false [.val (.sl V.eSigned x0)]), (1, .v false [.val (.int .i64 v4_1)]), (5, .v false [.val (.int .i64 v4_2)])], []⟩
theorem Z47.r4 (x0 : List TSigned) (x1 : Int) (R : V.St → Option Int) (v4_1 : Int) (v4_2 : Int) : V.loopF Z47.E Tryz.f24.ntmps [1, 0, 1, 0] [] (V.codeOf Tryz.f24) (Z47.kt x0 x1) R (Z47.s4 x0 v4_1 v4_2) = Z47.g4 x0 (fun v4_1 v4_2 => R (Z47.s4 x0 v4_1 v4_2)) v4_1 v4_2 := by kernel_rfl
theorem Z47.e4 (x0 : List TSigned) (x1 : Int) : ∀ (n : Nat) (v4_1 : Int) (v4_2 : Int), V.loopN (V.loopF Z47.E Tryz.f24.ntmps [1, 0, 1, 0] [] (V.codeOf Tryz.f24) (Z47.kt x0 x1)) n (Z47.s4 x0 v4_1 v4_2) = Z47.l4 x0 n v4_1 v4_2 := by
  intro n
  induction n with
  | zero => intros; rw [V.loopN_z]; rfl
  | succ n ih =>
    intro v4_1 v4_2
    rw [V.loopN_s, Z47.r4]
    simp only [ih]
    first | exact (Z47.u4 ..).symm | rfl
theorem Z47.v (x0 : List TSigned) (x1 : Int) : V.evBody Z47.E Z47.con Tryz.f24 ((x0, x1) : List TSigned × Int) = Z47.b x0 x1 (fun v4_1 v4_2 => V.loopN (V.loopF Z47.E Tryz.f24.ntmps [1, 0, 1, 0] [] (V.codeOf Tryz.f24) (Z47.kt x0 x1)) V.KK (Z47.s4 x0 v4_1 v4_2)) := by kernel_rfl
theorem Z47.eq (x0 : List TSigned) (x1 : Int) : V.evBody Z47.E Z47.con Tryz.f24 ((x0, x1) : List TSigned × Int) = Z47 x0 x1 := by
  rw [Z47.v]
  simp only [Z47.e4]
  rfl
theorem Z47.ok : V.Valid Tryz.prog 24 Z47.con :=
  V.fo (V.tab_cons Z19.ok (V.tab_cons Z46.ok V.tab_nil)) Tryz.func24 (by kernel_rfl) (fun x y h => (show V.evBody Z47.E Z47.con Tryz.f24 x = _ from Z47.eq x.1 x.2).trans (V.cfl (by kernel_rfl) h))
noncomputable abbrev Z32.con : V.Con := ⟨(.cons (.sl (.cons .str .nil)) (.cons (.int .i64) .nil)), (.cons (.int .i64) .nil), fun (x : List ByteArray × Int) => Z32 x.1 x.2, [], [(false, 1), (false, 1)], [(false, 1)], [false], []⟩
noncomputable abbrev Z32.E : V.Env := V.mkE V.tys [(21, Z12.con)] [(4, [0, 1, 5], [])] [(4, 6)] [] [] []
noncomputable abbrev Z32.kt (x0 : List ByteArray) (x1 : Int) : V.Kt Int := V.ktOf Z32.E Z32.con Tryz.f25 ((x0, x1) : List ByteArray × Int)
noncomputable abbrev Z32.s4 (x0 : List ByteArray) (v4_1 : Int) (v4_2 : Int) : V.St := ⟨[(0, .v false [.val (.sl (.cons .str .nil) x0)]), (1, .v false [.val (.int .i64 v4_1)]), (5, .v false [.val (.int .i64 v4_2)])], []⟩
theorem Z32.r4 (x0 : List ByteArray) (x1 : Int) (R : V.St → Option Int) (v4_1 : Int) (v4_2 : Int) : V.loopF Z32.E Tryz.f25.ntmps [1, 0, 1, 0] [] (V.codeOf Tryz.f25) (Z32.kt x0 x1) R (Z32.s4 x0 v4_1 v4_2) = Z32.g4 x0 (fun v4_1 v4_2 => R (Z32.s4 x0 v4_1 v4_2)) v4_1 v4_2 := by kernel_rfl
theorem Z32.e4 (x0 : List ByteArray) (x1 : Int) : ∀ (n : Nat) (v4_1 : Int) (v4_2 : Int), V.loopN (V.loopF Z32.E Tryz.f25.ntmps [1, 0, 1, 0] [] (V.codeOf Tryz.f25) (Z32.kt x0 x1)) n (Z32.s4 x0 v4_1 v4_2) = Z32.l4 x0 n v4_1 v4_2 := by
  intro n
  induction n with
  | zero => intros; rw [V.loopN_z]; rfl
  | succ n ih =>
    intro v4_1 v4_2
    rw [V.loopN_s, Z32.r4]
    simp only [ih]
    first | exact (Z32.u4 ..).symm | rfl
theorem Z32.v (x0 : List ByteArray) (x1 : Int) : V.evBody Z32.E Z32.con Tryz.f25 ((x0, x1) : List ByteArray × Int) = Z32.b x0 x1 (fun v4_1 v4_2 => V.loopN (V.loopF Z32.E Tryz.f25.ntmps [1, 0, 1, 0] [] (V.codeOf Tryz.f25) (Z32.kt x0 x1)) V.KK (Z32.s4 x0 v4_1 v4_2)) := by kernel_rfl
theorem Z32.eq (x0 : List ByteArray) (x1 : Int) : V.evBody Z32.E Z32.con Tryz.f25 ((x0, x1) : List ByteArray × Int) = Z32 x0 x1 := by
  rw [Z32.v]
  simp only [Z32.e4]
  rfl
theorem Z32.ok : V.Valid Tryz.prog 25 Z32.con :=
  V.fo (V.tab_cons Z12.ok V.tab_nil) Tryz.func25 (by kernel_rfl) (fun x y h => (show V.evBody Z32.E Z32.con Tryz.f25 x = _ from Z32.eq x.1 x.2).trans (V.cfl (by kernel_rfl) h))
noncomputable abbrev Z37.con : V.Con := ⟨(.cons (.sl V.eAnswer) (.cons (.int .i64) .nil)), (.cons (.int .i64) .nil), fun (x : List TAnswer × Int) => Z37 x.1 x.2, [], [(false, 1), (false, 1)], [(false, 1)], [false], []⟩
noncomputable abbrev Z37.E : V.Env := V.mkE V.tys [(21, Z12.con), (24, Z47.con), (25, Z32.con), (26, Z19.con)] [(4, [0, 1, 5], [])] [(10, 8), (31, 9), (43, 9)] [] [] []
noncomputable abbrev Z37.kt (x0 : List TAnswer) (x1 : Int) : V.Kt Int := V.ktOf Z37.E Z37.con Tryz.f12 ((x0, x1) : List TAnswer × Int)
noncomputable abbrev Z37.s4 (x0 : List TAnswer) (v4_1 : Int) (v4_2 : Int) : V.St := ⟨[(0, .v false [.val (.sl V.eAnswer x0)]), (1, .v false [.val (.int .i64 v4_1)]), (5, .v false [.val (.int .i64 v4_2)])], []⟩
theorem Z37.r4 (x0 : List TAnswer) (x1 : Int) (R : V.St → Option Int) (v4_1 : Int) (v4_2 : Int) : V.loopF Z37.E Tryz.f12.ntmps [1, 0, 1, 0] [] (V.codeOf Tryz.f12) (Z37.kt x0 x1) R (Z37.s4 x0 v4_1 v4_2) = Z37.g4 x0 (fun v4_1 v4_2 => R (Z37.s4 x0 v4_1 v4_2)) v4_1 v4_2 := by kernel_rfl
theorem Z37.e4 (x0 : List TAnswer) (x1 : Int) : ∀ (n : Nat) (v4_1 : Int) (v4_2 : Int), V.loopN (V.loopF Z37.E Tryz.f12.ntmps [1, 0, 1, 0] [] (V.codeOf Tryz.f12) (Z37.kt x0 x1)) n (Z37.s4 x0 v4_1 v4_2) = Z37.l4 x0 n v4_1 v4_2 := by
  intro n
  induction n with
  | zero => intros; rw [V.loopN_z]; rfl
  | succ n ih =>
    intro v4_1 v4_2
    rw [V.loopN_s, Z37.r4]
    simp only [ih]
    first | exact (Z37.u4 ..).symm | rfl
theorem Z37.v (x0 : List TAnswer) (x1 : Int) : V.evBody Z37.E Z37.con Tryz.f12 ((x0, x1) : List TAnswer × Int) = Z37.b x0 x1 (fun v4_1 v4_2 => V.loopN (V.loopF Z37.E Tryz.f12.ntmps [1, 0, 1, 0] [] (V.codeOf Tryz.f12) (Z37.kt x0 x1)) V.KK (Z37.s4 x0 v4_1 v4_2)) := by kernel_rfl
theorem Z37.eq (x0 : List TAnswer) (x1 : Int) : V.evBody Z37.E Z37.con Tryz.f12 ((x0, x1) : List TAnswer × Int) = Z37 x0 x1 := by
  rw [Z37.v]
  simp only [Z37.e4]
  rfl
theorem Z37.ok : V.Valid Tryz.prog 12 Z37.con :=
  V.fo (V.tab_cons Z12.ok (V.tab_cons Z47.ok (V.tab_cons Z32.ok (V.tab_cons Z19.ok V.tab_nil)))) Tryz.func12 (by kernel_rfl) (fun x y h => (show V.evBody Z37.E Z37.con Tryz.f12 x = _ from Z37.eq x.1 x.2).trans (V.cfl (by kernel_rfl) h))
noncomputable abbrev Z90.con : V.Con := ⟨(.cons (.sl (.cons (.sl (.cons (.sl V.eSigned) (.cons (.sl V.eEntry) .nil))) (.cons (.int .i64) .nil))) (.cons (.int .i64) (.cons .str .nil))), (.cons .bool .nil), fun (x : List TServer × Int × ByteArray) => Z90 x.1 x.2.1 x.2.2, [], [(false, 1), (false, 1), (false, 1)], [(false, 1)], [false], []⟩
noncomputable abbrev Z90.E : V.Env := V.mkE V.tys [(4, Z67.con), (5, Z10.con), (6, Z48.con), (7, Z40.con), (8, Z53.con), (9, Z63.con), (10, Z24.con), (11, Z0.con), (12, Z37.con)] [(37, [0, 1, 2, 8, 10], [])] [] [] [] []
noncomputable abbrev Z90.kt (x0 : List TServer) (x1 : Int) (x2 : ByteArray) : V.Kt Bool := V.ktOf Z90.E Z90.con Tryz.f3 ((x0, x1, x2) : List TServer × Int × ByteArray)
noncomputable abbrev Z90.s37 (x0 : List TServer) (x1 : Int) (x2 : ByteArray) (y3 : List TAnswer) (y5 : List TAnswer) : V.St := ⟨[(0, .v false [.val (.sl (.cons (.sl (.cons (.sl V.eSigned) (.cons (.sl V.eEntry) .nil))) (.cons (.int .i64) .nil)) x0)]), (1, .v false [.val (.int .i64 x1)]), (2, .v false [.val (.str x2)]), (8, .v false [.ref 64000236800512]), (10, .v false [.ref 64000236800640])], [(64000236800512, .row V.eAnswer true y3), (64000236800640, .row V.eAnswer true y5)]⟩
theorem Z90.r37 (x0 : List TServer) (x1 : Int) (x2 : ByteArray) (y3 : List TAnswer) (y5 : List TAnswer) : V.joinF Z90.E Tryz.f3.ntmps [1, 1, 1, 1, 1, 1, 1, 1, 1, 1, 1, 1] [] (V.codeOf Tryz.f3) (Z90.kt x0 x1 x2) (Z90.s37 x0 x1 x2 y3 y5) = Z90.g37 x0 x1 x2 y3 y5 := by kernel_rfl
theorem Z90.e37 (x0 : List TServer) (x1 : Int) (x2 : ByteArray) (y3 : List TAnswer) (y5 : List TAnswer) : V.jn (V.joinF Z90.E Tryz.f3.ntmps [1, 1, 1, 1, 1, 1, 1, 1, 1, 1, 1, 1] [] (V.codeOf Tryz.f3) (Z90.kt x0 x1 x2)) (Z90.s37 x0 x1 x2 y3 y5) = Z90.l37 x0 x1 x2 y3 y5 := by
  rw [V.jn_eq, Z90.r37]
  rfl
theorem Z90.v (x0 : List TServer) (x1 : Int) (x2 : ByteArray) : V.evBody Z90.E Z90.con Tryz.f3 ((x0, x1, x2) : List TServer × Int × ByteArray) = Z90.b x0 x1 x2 (fun y3 y5 => V.jn (V.joinF Z90.E Tryz.f3.ntmps [1, 1, 1, 1, 1, 1, 1, 1, 1, 1, 1, 1] [] (V.codeOf Tryz.f3) (Z90.kt x0 x1 x2)) (Z90.s37 x0 x1 x2 y3 y5)) := by kernel_rfl
theorem Z90.eq (x0 : List TServer) (x1 : Int) (x2 : ByteArray) : V.evBody Z90.E Z90.con Tryz.f3 ((x0, x1, x2) : List TServer × Int × ByteArray) = Z90 x0 x1 x2 := by
  rw [Z90.v]
  simp only [Z90.e37]
  rfl
theorem Z90.ok : V.Valid Tryz.prog 3 Z90.con :=
  V.fo (V.tab_cons Z67.ok (V.tab_cons Z10.ok (V.tab_cons Z48.ok (V.tab_cons Z40.ok (V.tab_cons Z53.ok (V.tab_cons Z63.ok (V.tab_cons Z24.ok (V.tab_cons Z0.ok (V.tab_cons Z37.ok V.tab_nil))))))))) Tryz.func3 (by kernel_rfl) (fun x y h => (show V.evBody Z90.E Z90.con Tryz.f3 x = _ from Z90.eq x.1 x.2.1 x.2.2).trans (V.cfl (by kernel_rfl) h))
end Go.Proofs.YtddgjofdkdmmmaaGreat
