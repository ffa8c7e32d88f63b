/- That the functions compute it, part 1. -/
import Derived.Test.YtmplinobompncaaGreatXRenewZoneWalk0
namespace Go.Proofs.YtmplinobompncaaGreat
set_option linter.unusedVariables false
set_option maxRecDepth 100000
noncomputable abbrev Z54.con : V.Con := ⟨(.cons (.sl (.cons (.int .i64) .nil)) .nil), (.cons (.sl (.cons (.int .i64) .nil)) .nil), fun (x : List Int) => Z54 x, [], [(false, 1)], [(false, 1)], [true], []⟩
noncomputable abbrev Z54.E : V.Env := V.mkE V.tys [(441, Z165.con)] [(6, [0, 3, 4], [(64000038400192, (.cons (.int .i64) .nil), true)])] [(6, 12)] [] [] []
noncomputable abbrev Z54.kt (x0 : List Int) : V.Kt (List Int) := V.ktOf Z54.E Z54.con Tryz.f408 ((x0) : List Int)
noncomputable abbrev Z54.s6 (x0 : List Int) (v6_1 : Int) (v6_2 : List Int) : V.St := ⟨[(0, .v false [.val (.sl (.cons (.int .i64) .nil) x0)]), (3, .v false [.ref 64000038400192]), (4, .v false [.val (.int .i64 v6_1)])], [(64000038400192, .row (.cons (.int .i64) .nil) true v6_2)]⟩
theorem Z54.r6 (x0 : List Int) (R : V.St → Option (List Int)) (v6_1 : Int) (v6_2 : List Int) : V.loopF Z54.E Tryz.f408.ntmps [1, 1, 0, 1, 0] [] (V.codeOf Tryz.f408) (Z54.kt x0) R (Z54.s6 x0 v6_1 v6_2) = Z54.g6 x0 (fun v6_1 v6_2 => R (Z54.s6 x0 v6_1 v6_2)) v6_1 v6_2 := by kernel_rfl
theorem Z54.e6 (x0 : List Int) : ∀ (n : Nat) (v6_1 : Int) (v6_2 : List Int), V.loopN (V.loopF Z54.E Tryz.f408.ntmps [1, 1, 0, 1, 0] [] (V.codeOf Tryz.f408) (Z54.kt x0)) n (Z54.s6 x0 v6_1 v6_2) = Z54.l6 x0 n v6_1 v6_2 := by
  intro n
  induction n with
  | zero => intros; rw [V.loopN_z]; rfl
  | succ n ih =>
    intro v6_1 v6_2
    rw [V.loopN_s, Z54.r6]
    simp only [ih]
    first | exact (Z54.u6 ..).symm | rfl
theorem Z54.v (x0 : List Int) : V.evBody Z54.E Z54.con Tryz.f408 ((x0) : List Int) = Z54.b x0 (fun v6_1 v6_2 => V.loopN (V.loopF Z54.E Tryz.f408.ntmps [1, 1, 0, 1, 0] [] (V.codeOf Tryz.f408) (Z54.kt x0)) V.KK (Z54.s6 x0 v6_1 v6_2)) := by kernel_rfl
theorem Z54.eq (x0 : List Int) : V.evBody Z54.E Z54.con Tryz.f408 ((x0) : List Int) = Z54 x0 := by
  rw [Z54.v]
  simp only [Z54.e6]
  rfl
theorem Z54.ok : V.Valid Tryz.prog 408 Z54.con :=
  V.fo (V.tab_cons Z165.ok V.tab_nil) Tryz.func408 (by kernel_rfl) (fun x y h => (show V.evBody Z54.E Z54.con Tryz.f408 x = _ from Z54.eq x).trans (V.cfl (by kernel_rfl) h))
noncomputable abbrev Z53.con : V.Con := ⟨(.cons (.sl (.cons (.int .i64) .nil)) .nil), (.cons (.int .i64) .nil), fun (x : List Int) => Z53 x, [], [(false, 1)], [(false, 1)], [false], []⟩
noncomputable abbrev Z53.E : V.Env := V.mkE V.tys [(407, Z122.con), (408, Z54.con)] [(6, [0], [(0, (.cons (.int .i64) .nil), false)])] [] [] [] []
noncomputable abbrev Z53.kt (x0 : List Int) : V.Kt Int := V.ktOf Z53.E Z53.con Tryz.f345 ((x0) : List Int)
noncomputable abbrev Z53.s6 (v6_0 : List Int) : V.St := ⟨[(0, .v false [.val (.sl (.cons (.int .i64) .nil) v6_0)])], []⟩
theorem Z53.r6 (x0 : List Int) (R : V.St → Option Int) (v6_0 : List Int) : V.loopF Z53.E Tryz.f345.ntmps [1, 1, 0, 0] [] (V.codeOf Tryz.f345) (Z53.kt x0) R (Z53.s6 v6_0) = Z53.g6 (fun v6_0 => R (Z53.s6 v6_0)) v6_0 := by kernel_rfl
theorem Z53.e6 (x0 : List Int) : ∀ (n : Nat) (v6_0 : List Int), V.loopN (V.loopF Z53.E Tryz.f345.ntmps [1, 1, 0, 0] [] (V.codeOf Tryz.f345) (Z53.kt x0)) n (Z53.s6 v6_0) = Z53.l6 n v6_0 := by
  intro n
  induction n with
  | zero => intros; rw [V.loopN_z]; rfl
  | succ n ih =>
    intro v6_0
    rw [V.loopN_s, Z53.r6]
    simp only [ih]
    first | exact (Z53.u6 ..).symm | rfl
theorem Z53.v (x0 : List Int) : V.evBody Z53.E Z53.con Tryz.f345 ((x0) : List Int) = Z53.b x0 (fun v6_0 => V.loopN (V.loopF Z53.E Tryz.f345.ntmps [1, 1, 0, 0] [] (V.codeOf Tryz.f345) (Z53.kt x0)) V.KK (Z53.s6 v6_0)) := by kernel_rfl
theorem Z53.eq (x0 : List Int) : V.evBody Z53.E Z53.con Tryz.f345 ((x0) : List Int) = Z53 x0 := by
  rw [Z53.v]
  simp only [Z53.e6]
  rfl
theorem Z53.ok : V.Valid Tryz.prog 345 Z53.con :=
  V.fo (V.tab_cons Z122.ok (V.tab_cons Z54.ok V.tab_nil)) Tryz.func345 (by kernel_rfl) (fun x y h => (show V.evBody Z53.E Z53.con Tryz.f345 x = _ from Z53.eq x).trans (V.cfl (by kernel_rfl) h))
noncomputable abbrev Z192.con : V.Con := ⟨(.cons (.int .i64) (.cons (.int .i64) .nil)), (.cons (.int .i64) .nil), fun (x : Int × Int) => Z192 x.1 x.2, [], [(false, 1), (false, 1)], [(false, 1)], [false], []⟩
noncomputable abbrev Z192.E : V.Env := V.mkE V.tys [(407, Z122.con)] [] [] [] [] []
theorem Z192.eq (x0 : Int) (x1 : Int) : V.evBody Z192.E Z192.con Tryz.f344 ((x0, x1) : Int × Int) = Z192 x0 x1 := by kernel_rfl
theorem Z192.ok : V.Valid Tryz.prog 344 Z192.con :=
  V.fo (V.tab_cons Z122.ok V.tab_nil) Tryz.func344 (by kernel_rfl) (fun x y h => (show V.evBody Z192.E Z192.con Tryz.f344 x = _ from Z192.eq x.1 x.2).trans (V.cfl (by kernel_rfl) h))
noncomputable abbrev Z129.con : V.Con := ⟨(.cons (.sl V.eEntry) .nil), (.cons (.int .i64) .nil), fun (x : List TEntry) => Z129 x, [], [(false, 1)], [(false, 1)], [false], []⟩
noncomputable abbrev Z129.E : V.Env := V.mkE V.tys [(344, Z192.con), (345, Z53.con), (346, Z61.con)] [] [] [] [] []
theorem Z129.eq (x0 : List TEntry) : V.evBody Z129.E Z129.con Tryz.f223 ((x0) : List TEntry) = Z129 x0 := by kernel_rfl
theorem Z129.ok : V.Valid Tryz.prog 223 Z129.con :=
  V.fo (V.tab_cons Z192.ok (V.tab_cons Z53.ok (V.tab_cons Z61.ok V.tab_nil))) Tryz.func223 (by kernel_rfl) (fun x y h => (show V.evBody Z129.E Z129.con Tryz.f223 x = _ from Z129.eq x).trans (V.cfl (by kernel_rfl) h))
noncomputable abbrev Z159.con : V.Con := ⟨(.cons (.int .i64) (.cons (.sl V.eEntry) .nil)), (.cons .bool .nil), fun (x : Int × List TEntry) => Z159 x.1 x.2, [], [(false, 1), (false, 1)], [(false, 1)], [false], []⟩
noncomputable abbrev Z159.E : V.Env := V.mkE V.tys [(220, Z18.con), (223, Z129.con)] [] [] [] [] []
theorem Z159.eq (x0 : Int) (x1 : List TEntry) : V.evBody Z159.E Z159.con Tryz.f257 ((x0, x1) : Int × List TEntry) = Z159 x0 x1 := by kernel_rfl
theorem Z159.ok : V.Valid Tryz.prog 257 Z159.con :=
  V.fo (V.tab_cons Z18.ok (V.tab_cons Z129.ok V.tab_nil)) Tryz.func257 (by kernel_rfl) (fun x y h => (show V.evBody Z159.E Z159.con Tryz.f257 x = _ from Z159.eq x.1 x.2).trans (V.cfl (by kernel_rfl) h))
noncomputable abbrev Z125.con : V.Con := ⟨(.cons (.sl V.eSigned) (.cons (.sl V.eEntry) .nil)), (.cons .bool .nil), fun (x : List TSigned × List TEntry) => Z125 x, [], [(true, 2)], [(false, 1)], [false], []⟩
noncomputable abbrev Z125.E : V.Env := V.mkE V.tys [(37, Z128.con), (173, Z113.con), (257, Z159.con)] [] [] [] [] []
theorem Z125.eq (x0 : TZone) : V.evBody Z125.E Z125.con Tryz.f98 ((x0.1, x0.2) : List TSigned × List TEntry) = Z125 x0 := by kernel_rfl
theorem Z125.ok : V.Valid Tryz.prog 98 Z125.con :=
  V.fo (V.tab_cons Z128.ok (V.tab_cons Z113.ok (V.tab_cons Z159.ok V.tab_nil))) Tryz.func98 (by kernel_rfl) (fun x y h => (show V.evBody Z125.E Z125.con Tryz.f98 x = _ from Z125.eq x).trans (V.cfl (by kernel_rfl) h))
noncomputable abbrev Z173.con : V.Con := ⟨(.cons (.sl (.cons (.int .i64) .nil)) .nil), (.cons (.sl (.cons (.int .i64) .nil)) .nil), fun (x : List Int) => Z173 x, [], [(false, 1)], [(false, 1)], [true], []⟩
noncomputable abbrev Z173.E : V.Env := V.mkE V.tys [] [] [] [] [] []
theorem Z173.eq (x0 : List Int) : V.evBody Z173.E Z173.con Tryz.f319 ((x0) : List Int) = Z173 x0 := by kernel_rfl
theorem Z173.ok : V.Valid Tryz.prog 319 Z173.con :=
  V.fo V.tab_nil Tryz.func319 (by kernel_rfl) (fun x y h => (show V.evBody Z173.E Z173.con Tryz.f319 x = _ from Z173.eq x).trans (V.cfl (by kernel_rfl) h))
noncomputable abbrev Z139.con : V.Con := ⟨(.cons (.sl (.cons (.int .i64) .nil)) (.cons (.int .i64) .nil)), (.cons (.sl (.cons (.int .i64) .nil)) (.cons (.int .i64) .nil)), fun (x : List Int × Int) => Z139 x, [], [(true, 2)], [(true, 2)], [true, false], []⟩
noncomputable abbrev Z139.E : V.Env := V.mkE V.tys [(319, Z173.con)] [] [(1, 5)] [] [] []
theorem Z139.eq (x0 : TKeys) : V.evBody Z139.E Z139.con Tryz.f184 ((x0.1, x0.2) : List Int × Int) = Z139 x0 := by kernel_rfl
theorem Z139.ok : V.Valid Tryz.prog 184 Z139.con :=
  V.fo (V.tab_cons Z173.ok V.tab_nil) Tryz.func184 (by kernel_rfl) (fun x y h => (show V.evBody Z139.E Z139.con Tryz.f184 x = _ from Z139.eq x).trans (V.cfl (by kernel_rfl) h))
noncomputable abbrev Z83.con : V.Con := ⟨V.A2, V.eHead, fun (x : V.D2) => Z83 (V.p2_0 x), [], [(true, 16)], [(true, 16)], [false, false, false, false, false, false, false, false, true, false, true, false, false, true, false, false], []⟩
noncomputable abbrev Z83.E : V.Env := V.mkE V.tys [(184, Z139.con)] [] [(1, 10)] [] [] []
noncomputable abbrev Z83.kt (x0 : THead) : V.Kt THead := V.ktOf Z83.E Z83.con Tryz.f183 (V.fl2 x0)
noncomputable abbrev Z83.s (x0 : THead) : V.St := ⟨[(0, .v true (V.lsHead x0))], []⟩
theorem Z83.v0 (x0 : THead) : V.evBody Z83.E Z83.con Tryz.f183 (V.fl2 x0) = V.evC Z83.E Tryz.f183.ntmps (V.codeOf Tryz.f183) (Z83.kt x0) (Z83.s x0) := by kernel_rfl
theorem Z83.v (x0 : THead) : V.evC Z83.E Tryz.f183.ntmps (V.codeOf Tryz.f183) (Z83.kt x0) (Z83.s x0) = Z83 x0 := by kernel_rfl
theorem Z83.eq (x0 : THead) : V.evBody Z83.E Z83.con Tryz.f183 (V.fl2 x0) = Z83 x0 := (Z83.v0 x0).trans (Z83.v x0)
theorem Z83.ok : V.Valid Tryz.prog 183 Z83.con :=
  V.fo (V.tab_cons Z139.ok V.tab_nil) Tryz.func183 (by kernel_rfl) (fun x y h => (show V.evBody Z83.E Z83.con Tryz.f183 x = _ from Z83.eq (V.p2_0 x)).trans (V.cfl (by kernel_rfl) h))
noncomputable abbrev Z172.con : V.Con := ⟨(.cons (.sl (.cons (.int .i64) (.cons (.int .i64) .nil))) .nil), (.cons (.sl (.cons (.int .i64) (.cons (.int .i64) .nil))) .nil), fun (x : List TSig) => Z172 x, [], [(false, 1)], [(false, 1)], [true], []⟩
noncomputable abbrev Z172.E : V.Env := V.mkE V.tys [] [] [] [] [] []
theorem Z172.eq (x0 : List TSig) : V.evBody Z172.E Z172.con Tryz.f311 ((x0) : List TSig) = Z172 x0 := by kernel_rfl
theorem Z172.ok : V.Valid Tryz.prog 311 Z172.con :=
  V.fo V.tab_nil Tryz.func311 (by kernel_rfl) (fun x y h => (show V.evBody Z172.E Z172.con Tryz.f311 x = _ from Z172.eq x).trans (V.cfl (by kernel_rfl) h))
noncomputable abbrev Z85.con : V.Con := ⟨V.A3, V.eSigned, fun (x : V.D3) => Z85 (V.p3_0 x), [], [(true, 17)], [(true, 17)], [false, false, false, false, false, false, false, false, true, false, true, false, false, true, false, false, true], []⟩
noncomputable abbrev Z85.E : V.Env := V.mkE V.tys [(183, Z83.con), (311, Z172.con)] [] [(1, 5)] [] [] []
noncomputable abbrev Z85.kt (x0 : TSigned) : V.Kt TSigned := V.ktOf Z85.E Z85.con Tryz.f174 (V.fl3 x0)
noncomputable abbrev Z85.s (x0 : TSigned) : V.St := ⟨[(0, .v true (V.lsSigned x0))], []⟩
theorem Z85.v0 (x0 : TSigned) : V.evBody Z85.E Z85.con Tryz.f174 (V.fl3 x0) = V.evC Z85.E Tryz.f174.ntmps (V.codeOf Tryz.f174) (Z85.kt x0) (Z85.s x0) := by kernel_rfl
theorem Z85.v (x0 : TSigned) : V.evC Z85.E Tryz.f174.ntmps (V.codeOf Tryz.f174) (Z85.kt x0) (Z85.s x0) = Z85 x0 := by kernel_rfl
theorem Z85.eq (x0 : TSigned) : V.evBody Z85.E Z85.con Tryz.f174 (V.fl3 x0) = Z85 x0 := (Z85.v0 x0).trans (Z85.v x0)
theorem Z85.ok : V.Valid Tryz.prog 174 Z85.con :=
  V.fo (V.tab_cons Z83.ok (V.tab_cons Z172.ok V.tab_nil)) Tryz.func174 (by kernel_rfl) (fun x y h => (show V.evBody Z85.E Z85.con Tryz.f174 x = _ from Z85.eq (V.p3_0 x)).trans (V.cfl (by kernel_rfl) h))
noncomputable abbrev Z35.con : V.Con := ⟨(.cons (.sl V.eSigned) .nil), (.cons (.sl V.eSigned) .nil), fun (x : List TSigned) => Z35 x, [], [(false, 1)], [(false, 1)], [true], []⟩
noncomputable abbrev Z35.E : V.Env := V.mkE V.tys [(174, Z85.con)] [(6, [3, 7, 8, 9], [(64000038400192, V.eSigned, true)])] [] [] [] []
noncomputable abbrev Z35.kt (x0 : List TSigned) : V.Kt (List TSigned) := V.ktOf Z35.E Z35.con Tryz.f171 ((x0) : List TSigned)
noncomputable abbrev Z35.s6 (x0 : List TSigned) (v6_1 : Int) (v6_2 : Int) (v6_3 : List TSigned) : V.St := ⟨[(3, .v false [.ref 64000038400192]), (7, .v false [.val (.sl V.eSigned x0)]), (8, .v false [.val (.int .i64 v6_1)]), (9, .v false [.val (.int .i64 v6_2)])], [(64000038400192, .row V.eSigned true v6_3)]⟩
theorem Z35.r6 (x0 : List TSigned) (R : V.St → Option (List TSigned)) (v6_1 : Int) (v6_2 : Int) (v6_3 : List TSigned) : V.loopF Z35.E Tryz.f171.ntmps [1, 1, 0, 1, 0] [] (V.codeOf Tryz.f171) (Z35.kt x0) R (Z35.s6 x0 v6_1 v6_2 v6_3) = Z35.g6 x0 (fun v6_1 v6_2 v6_3 => R (Z35.s6 x0 v6_1 v6_2 v6_3)) v6_1 v6_2 v6_3 := by kernel_rfl
theorem Z35.e6 (x0 : List TSigned) : ∀ (n : Nat) (v6_1 : Int) (v6_2 : Int) (v6_3 : List TSigned), V.loopN (V.loopF Z35.E Tryz.f171.ntmps [1, 1, 0, 1, 0] [] (V.codeOf Tryz.f171) (Z35.kt x0)) n (Z35.s6 x0 v6_1 v6_2 v6_3) = Z35.l6 x0 n v6_1 v6_2 v6_3 := by
  intro n
  induction n with
  | zero => intros; rw [V.loopN_z]; rfl
  | succ n ih =>
    intro v6_1 v6_2 v6_3
    rw [V.loopN_s, Z35.r6]
    simp only [ih]
    first | exact (Z35.u6 ..).symm | rfl
theorem Z35.v (x0 : List TSigned) : V.evBody Z35.E Z35.con Tryz.f171 ((x0) : List TSigned) = Z35.b x0 (fun v6_1 v6_2 v6_3 => V.loopN (V.loopF Z35.E Tryz.f171.ntmps [1, 1, 0, 1, 0] [] (V.codeOf Tryz.f171) (Z35.kt x0)) V.KK (Z35.s6 x0 v6_1 v6_2 v6_3)) := by kernel_rfl
theorem Z35.eq (x0 : List TSigned) : V.evBody Z35.E Z35.con Tryz.f171 ((x0) : List TSigned) = Z35 x0 := by
  rw [Z35.v]
  simp only [Z35.e6]
  rfl
theorem Z35.ok : V.Valid Tryz.prog 171 Z35.con :=
  V.fo (V.tab_cons Z85.ok V.tab_nil) Tryz.func171 (by kernel_rfl) (fun x y h => (show V.evBody Z35.E Z35.con Tryz.f171 x = _ from Z35.eq x).trans (V.cfl (by kernel_rfl) h))
noncomputable abbrev Z174.con : V.Con := ⟨(.cons (.sl (.cons .str .nil)) .nil), (.cons (.sl (.cons .str .nil)) .nil), fun (x : List ByteArray) => Z174 x, [], [(false, 1)], [(false, 1)], [true], []⟩
noncomputable abbrev Z174.E : V.Env := V.mkE V.tys [] [] [] [] [] []
theorem Z174.eq (x0 : List ByteArray) : V.evBody Z174.E Z174.con Tryz.f375 ((x0) : List ByteArray) = Z174 x0 := by kernel_rfl
theorem Z174.ok : V.Valid Tryz.prog 375 Z174.con :=
  V.fo V.tab_nil Tryz.func375 (by kernel_rfl) (fun x y h => (show V.evBody Z174.E Z174.con Tryz.f375 x = _ from Z174.eq x).trans (V.cfl (by kernel_rfl) h))
noncomputable abbrev Z147.con : V.Con := ⟨V.eEntry, V.eEntry, fun (x : ByteArray × Int × Int × List ByteArray) => Z147 x, [], [(true, 4)], [(true, 4)], [false, false, false, true], []⟩
noncomputable abbrev Z147.E : V.Env := V.mkE V.tys [(375, Z174.con)] [] [] [] [] []
theorem Z147.eq (x0 : TEntry) : V.evBody Z147.E Z147.con Tryz.f282 ((x0.1, x0.2.1, x0.2.2.1, x0.2.2.2) : ByteArray × Int × Int × List ByteArray) = Z147 x0 := by kernel_rfl
theorem Z147.ok : V.Valid Tryz.prog 282 Z147.con :=
  V.fo (V.tab_cons Z174.ok V.tab_nil) Tryz.func282 (by kernel_rfl) (fun x y h => (show V.evBody Z147.E Z147.con Tryz.f282 x = _ from Z147.eq x).trans (V.cfl (by kernel_rfl) h))
noncomputable abbrev Z36.con : V.Con := ⟨(.cons (.sl V.eEntry) .nil), (.cons (.sl V.eEntry) .nil), fun (x : List TEntry) => Z36 x, [], [(false, 1)], [(false, 1)], [true], []⟩
noncomputable abbrev Z36.E : V.Env := V.mkE V.tys [(282, Z147.con)] [(6, [3, 7, 8, 9], [(64000038400192, V.eEntry, true)])] [] [] [] []
noncomputable abbrev Z36.kt (x0 : List TEntry) : V.Kt (List TEntry) := V.ktOf Z36.E Z36.con Tryz.f252 ((x0) : List TEntry)
noncomputable abbrev Z36.s6 (x0 : List TEntry) (v6_1 : Int) (v6_2 : Int) (v6_3 : List TEntry) : V.St := ⟨[(3, .v false [.ref 64000038400192]), (7, .v false [.val (.sl V.eEntry x0)]), (8, .v false [.val (.int .i64 v6_1)]), (9, .v false [.val (.int .i64 v6_2)])], [(64000038400192, .row V.eEntry true v6_3)]⟩
theorem Z36.r6 (x0 : List TEntry) (R : V.St → Option (List TEntry)) (v6_1 : Int) (v6_2 : Int) (v6_3 : List TEntry) : V.loopF Z36.E Tryz.f252.ntmps [1, 1, 0, 1, 0] [] (V.codeOf Tryz.f252) (Z36.kt x0) R (Z36.s6 x0 v6_1 v6_2 v6_3) = Z36.g6 x0 (fun v6_1 v6_2 v6_3 => R (Z36.s6 x0 v6_1 v6_2 v6_3)) v6_1 v6_2 v6_3 := by kernel_rfl
theorem Z36.e6 (x0 : List TEntry) : ∀ (n : Nat) (v6_1 : Int) (v6_2 : Int) (v6_3 : List TEntry), V.loopN (V.loopF Z36.E Tryz.f252.ntmps [1, 1, 0, 1, 0] [] (V.codeOf Tryz.f252) (Z36.kt x0)) n (Z36.s6 x0 v6_1 v6_2 v6_3) = Z36.l6 x0 n v6_1 v6_2 v6_3 := by
  intro n
  induction n with
  | zero => intros; rw [V.loopN_z]; rfl
  | succ n ih =>
    intro v6_1 v6_2 v6_3
    rw [V.loopN_s, Z36.r6]
    simp only [ih]
    first | exact (Z36.u6 ..).symm | rfl
theorem Z36.v (x0 : List TEntry) : V.evBody Z36.E Z36.con Tryz.f252 ((x0) : List TEntry) = Z36.b x0 (fun v6_1 v6_2 v6_3 => V.loopN (V.loopF Z36.E Tryz.f252.ntmps [1, 1, 0, 1, 0] [] (V.codeOf Tryz.f252) (Z36.kt x0)) V.KK (Z36.s6 x0 v6_1 v6_2 v6_3)) := by kernel_rfl
theorem Z36.eq (x0 : List TEntry) : V.evBody Z36.E Z36.con Tryz.f252 ((x0) : List TEntry) = Z36 x0 := by
  rw [Z36.v]
  simp only [Z36.e6]
  rfl
theorem Z36.ok : V.Valid Tryz.prog 252 Z36.con :=
  V.fo (V.tab_cons Z147.ok V.tab_nil) Tryz.func252 (by kernel_rfl) (fun x y h => (show V.evBody Z36.E Z36.con Tryz.f252 x = _ from Z36.eq x).trans (V.cfl (by kernel_rfl) h))
noncomputable abbrev Z120.con : V.Con := ⟨(.cons (.sl V.eSigned) (.cons (.sl V.eEntry) .nil)), (.cons (.sl V.eSigned) (.cons (.sl V.eEntry) .nil)), fun (x : List TSigned × List TEntry) => Z120 x, [], [(true, 2)], [(true, 2)], [true, true], []⟩
noncomputable abbrev Z120.E : V.Env := V.mkE V.tys [(171, Z35.con), (252, Z36.con)] [] [(1, 5)] [] [] []
theorem Z120.eq (x0 : TZone) : V.evBody Z120.E Z120.con Tryz.f251 ((x0.1, x0.2) : List TSigned × List TEntry) = Z120 x0 := by kernel_rfl
theorem Z120.ok : V.Valid Tryz.prog 251 Z120.con :=
  V.fo (V.tab_cons Z35.ok (V.tab_cons Z36.ok V.tab_nil)) Tryz.func251 (by kernel_rfl) (fun x y h => (show V.evBody Z120.E Z120.con Tryz.f251 x = _ from Z120.eq x).trans (V.cfl (by kernel_rfl) h))
noncomputable abbrev Z76.con : V.Con := ⟨(.cons (.int .i64) (.cons (.int .i64) .nil)), (.cons (.int .i64) .nil), fun (x : Int × Int) => Z76 x.1 x.2, [], [(false, 1), (false, 1)], [(false, 1)], [false], []⟩
noncomputable abbrev Z76.E : V.Env := V.mkE V.tys [(178, Z60.con)] [(7, [0, 1], [])] [] [] [] []
noncomputable abbrev Z76.kt (x0 : Int) (x1 : Int) : V.Kt Int := V.ktOf Z76.E Z76.con Tryz.f343 ((x0, x1) : Int × Int)
noncomputable abbrev Z76.s7 (x0 : Int) (x1 : Int) : V.St := ⟨[(0, .v false [.val (.int .i64 x0)]), (1, .v false [.val (.int .i64 x1)])], []⟩
theorem Z76.r7 (x0 : Int) (x1 : Int) : V.joinF Z76.E Tryz.f343.ntmps [1] [] (V.codeOf Tryz.f343) (Z76.kt x0 x1) (Z76.s7 x0 x1) = Z76.g7 x0 x1 := by kernel_rfl
theorem Z76.e7 (x0 : Int) (x1 : Int) : V.jn (V.joinF Z76.E Tryz.f343.ntmps [1] [] (V.codeOf Tryz.f343) (Z76.kt x0 x1)) (Z76.s7 x0 x1) = Z76.l7 x0 x1 := by
  rw [V.jn_eq, Z76.r7]
  rfl
theorem Z76.v (x0 : Int) (x1 : Int) : V.evBody Z76.E Z76.con Tryz.f343 ((x0, x1) : Int × Int) = Z76.b x0 x1 (V.jn (V.joinF Z76.E Tryz.f343.ntmps [1] [] (V.codeOf Tryz.f343) (Z76.kt x0 x1)) (Z76.s7 x0 x1)) := by kernel_rfl
theorem Z76.eq (x0 : Int) (x1 : Int) : V.evBody Z76.E Z76.con Tryz.f343 ((x0, x1) : Int × Int) = Z76 x0 x1 := by
  rw [Z76.v]
  simp only [Z76.e7]
  rfl
theorem Z76.ok : V.Valid Tryz.prog 343 Z76.con :=
  V.fo (V.tab_cons Z60.ok V.tab_nil) Tryz.func343 (by kernel_rfl) (fun x y h => (show V.evBody Z76.E Z76.con Tryz.f343 x = _ from Z76.eq x.1 x.2).trans (V.cfl (by kernel_rfl) h))
noncomputable abbrev Z157.con : V.Con := ⟨(.cons (.ptr V.eHead) (.cons (.ptr (.cons (.sl V.eEntry) .nil)) .nil)), (.cons (.ptr V.eHead) .nil), fun (x : (THead) × List TEntry) => Z157 x.1 x.2, [(0, true)], [(false, 1), (false, 1)], [], [], []⟩
noncomputable abbrev Z157.E : V.Env := V.mkE V.tys [(223, Z129.con)] [] [(0, 6)] [] [(0, [1])] []
theorem Z157.eq (x0 : (THead)) (x1 : List TEntry) : V.evBody Z157.E Z157.con Tryz.f222 ((x0, x1) : (THead) × List TEntry) = Z157 x0 x1 := by kernel_rfl
theorem Z157.ok : V.Valid Tryz.prog 222 Z157.con :=
  V.fo (V.tab_cons Z129.ok V.tab_nil) Tryz.func222 (by kernel_rfl) (fun x y h => (show V.evBody Z157.E Z157.con Tryz.f222 x = _ from Z157.eq x.1 x.2).trans (V.cfl (by kernel_rfl) h))
noncomputable abbrev Z12.con : V.Con := ⟨(.cons (.int .i64) (.cons (.int .i64) (.cons (.int .i64) (.cons (.int .i64) (.cons (.int .i64) (.cons (.int .i64) (.cons (.int .i64) (.cons (.int .i64) (.cons (.sl (.cons (.int .i64) .nil)) (.cons (.int .i64) (.cons (.sl (.cons (.int .i64) .nil)) (.cons (.int .i64) (.cons (.int .i64) (.cons (.sl (.cons (.int .i64) .nil)) (.cons (.int .i64) (.cons .bool (.cons (.int .i64) (.cons (.int .i64) (.cons (.int .i64) (.cons (.fn 222 false .nil (.cons (.ptr (.cons (.sl V.eEntry) .nil)) .nil)) .nil)))))))))))))))))))), V.eRHeadBool, fun (x : Int × Int × Int × Int × Int × Int × Int × Int × List Int × Int × List Int × Int × Int × List Int × Int × Bool × Int × Int × Int × (Unit) × (List TEntry)) => Z12 (x.1, x.2.1, x.2.2.1, x.2.2.2.1, x.2.2.2.2.1, x.2.2.2.2.2.1, x.2.2.2.2.2.2.1, x.2.2.2.2.2.2.2.1, x.2.2.2.2.2.2.2.2.1, x.2.2.2.2.2.2.2.2.2.1, x.2.2.2.2.2.2.2.2.2.2.1, x.2.2.2.2.2.2.2.2.2.2.2.1, x.2.2.2.2.2.2.2.2.2.2.2.2.1, x.2.2.2.2.2.2.2.2.2.2.2.2.2.1, x.2.2.2.2.2.2.2.2.2.2.2.2.2.2.1, x.2.2.2.2.2.2.2.2.2.2.2.2.2.2.2.1) x.2.2.2.2.2.2.2.2.2.2.2.2.2.2.2.2.1 x.2.2.2.2.2.2.2.2.2.2.2.2.2.2.2.2.2.1 x.2.2.2.2.2.2.2.2.2.2.2.2.2.2.2.2.2.2.1 x.2.2.2.2.2.2.2.2.2.2.2.2.2.2.2.2.2.2.2, [], [(true, 16), (false, 1), (false, 1), (false, 1), (false, 1)], [(true, 16), (false, 1)], [false, false, false, false, false, false, false, false, true, false, true, false, false, true, false, false, false], []⟩
noncomputable abbrev Z12.E : V.Env := V.mkE V.tys [(178, Z60.con), (183, Z83.con), (215, Z89.con), (222, Z157.con), (306, Z80.con), (343, Z76.con)] [(5, [1, 2, 3, 4, 5, 10, 27], []), (17, [10, 12, 57], [])] [(4, 10)] [] [(4, [3, 4])] []
noncomputable abbrev Z12.kt (x0 : THead) (x1 : Int) (x2 : Int) (x3 : Int) (x4 : (Unit) × (List TEntry)) : V.Kt TRHeadBool := V.ktOf Z12.E Z12.con Tryz.f221 ((x0.1, x0.2.1, x0.2.2.1, x0.2.2.2.1, x0.2.2.2.2.1, x0.2.2.2.2.2.1, x0.2.2.2.2.2.2.1, x0.2.2.2.2.2.2.2.1, x0.2.2.2.2.2.2.2.2.1, x0.2.2.2.2.2.2.2.2.2.1, x0.2.2.2.2.2.2.2.2.2.2.1, x0.2.2.2.2.2.2.2.2.2.2.2.1, x0.2.2.2.2.2.2.2.2.2.2.2.2.1, x0.2.2.2.2.2.2.2.2.2.2.2.2.2.1, x0.2.2.2.2.2.2.2.2.2.2.2.2.2.2.1, x0.2.2.2.2.2.2.2.2.2.2.2.2.2.2.2, x1, x2, x3, x4) : Int × Int × Int × Int × Int × Int × Int × Int × List Int × Int × List Int × Int × Int × List Int × Int × Bool × Int × Int × Int × (Unit) × (List TEntry))
noncomputable abbrev Z12.s17 (y6 : (THead)) (v17_0 : Bool) : V.St := ⟨[(10, .v false [.ptr 64064 0]), (12, .v false [.ptr 256128 0]), (57, .v false [.val (.bool v17_0)])], [(64064, .box [.val (.int .i64 (0 : Int)), .val (.int .i64 (0 : Int)), .val (.int .i64 (0 : Int)), .val (.int .i64 (0 : Int)), .val (.int .i64 (0 : Int)), .val (.int .i64 (0 : Int)), .val (.int .i64 (0 : Int)), .val (.int .i64 (0 : Int)), .nil0, .val (.int .i64 (0 : Int)), .nil0, .val (.int .i64 (0 : Int)), .val (.int .i64 (0 : Int)), .nil0, .val (.int .i64 (0 : Int)), .val (.bool false)]), (256128, .box [.val (.int .i64 y6.1), .val (.int .i64 y6.2.1), .val (.int .i64 y6.2.2.1), .val (.int .i64 y6.2.2.2.1), .val (.int .i64 y6.2.2.2.2.1), .val (.int .i64 y6.2.2.2.2.2.1), .val (.int .i64 y6.2.2.2.2.2.2.1), .val (.int .i64 y6.2.2.2.2.2.2.2.1), .ref 64000000000016392200, .val (.int .i64 y6.2.2.2.2.2.2.2.2.2.1), .ref 64000000000016392202, .val (.int .i64 y6.2.2.2.2.2.2.2.2.2.2.2.1), .val (.int .i64 y6.2.2.2.2.2.2.2.2.2.2.2.2.1), .ref 64000000000016392205, .val (.int .i64 y6.2.2.2.2.2.2.2.2.2.2.2.2.2.2.1), .val (.bool y6.2.2.2.2.2.2.2.2.2.2.2.2.2.2.2)]), (64000000000016392200, .row (.cons (.int .i64) .nil) true y6.2.2.2.2.2.2.2.2.1), (64000000000016392202, .row (.cons (.int .i64) .nil) true y6.2.2.2.2.2.2.2.2.2.2.1), (64000000000016392205, .row (.cons (.int .i64) .nil) true y6.2.2.2.2.2.2.2.2.2.2.2.2.2.1)]⟩
noncomputable abbrev Z12.s5 (x0 : THead) (x1 : Int) (x2 : Int) (x3 : Int) (x4 : (Unit) × (List TEntry)) (v5_4 : Bool) : V.St := ⟨[(1, .v false [.val (.int .i64 x1)]), (2, .v false [.val (.int .i64 x2)]), (3, .v false [.val (.int .i64 x3)]), (4, .v false [.val (.fn 222 false .nil (.cons (.ptr (.cons (.sl V.eEntry) .nil)) .nil) () x4.2)]), (5, .v false [.ptr 64000 0]), (10, .v false [.ptr 64064 0]), (27, .v false [.val (.bool v5_4)])], [(64000, .box (V.lsHead x0)), (64064, .box [.val (.int .i64 (0 : Int)), .val (.int .i64 (0 : Int)), .val (.int .i64 (0 : Int)), .val (.int .i64 (0 : Int)), .val (.int .i64 (0 : Int)), .val (.int .i64 (0 : Int)), .val (.int .i64 (0 : Int)), .val (.int .i64 (0 : Int)), .nil0, .val (.int .i64 (0 : Int)), .nil0, .val (.int .i64 (0 : Int)), .val (.int .i64 (0 : Int)), .nil0, .val (.int .i64 (0 : Int)), .val (.bool false)])]⟩
theorem Z12.r17 (x0 : THead) (x1 : Int) (x2 : Int) (x3 : Int) (x4 : (Unit) × (List TEntry)) (y6 : (THead)) (v17_0 : Bool) : V.joinF Z12.E Tryz.f221.ntmps [1, 1, 1, 1, 1, 1, 0] [] (V.codeOf Tryz.f221) (Z12.kt x0 x1 x2 x3 x4) (Z12.s17 y6 v17_0) = Z12.g17 y6 v17_0 := by kernel_rfl
theorem Z12.e17 (x0 : THead) (x1 : Int) (x2 : Int) (x3 : Int) (x4 : (Unit) × (List TEntry)) (y6 : (THead)) (v17_0 : Bool) : V.jn (V.joinF Z12.E Tryz.f221.ntmps [1, 1, 1, 1, 1, 1, 0] [] (V.codeOf Tryz.f221) (Z12.kt x0 x1 x2 x3 x4)) (Z12.s17 y6 v17_0) = Z12.l17 y6 v17_0 := by
  rw [V.jn_eq, Z12.r17]
  rfl
theorem Z12.r5 (x0 : THead) (x1 : Int) (x2 : Int) (x3 : Int) (x4 : (Unit) × (List TEntry)) (v5_4 : Bool) : V.joinF Z12.E Tryz.f221.ntmps [1, 0] [] (V.codeOf Tryz.f221) (Z12.kt x0 x1 x2 x3 x4) (Z12.s5 x0 x1 x2 x3 x4 v5_4) = Z12.g5 x0 x1 x2 x3 x4 (fun y6 v17_0 => V.jn (V.joinF Z12.E Tryz.f221.ntmps [1, 1, 1, 1, 1, 1, 0] [] (V.codeOf Tryz.f221) (Z12.kt x0 x1 x2 x3 x4)) (Z12.s17 y6 v17_0)) v5_4 := by kernel_rfl
theorem Z12.e5 (x0 : THead) (x1 : Int) (x2 : Int) (x3 : Int) (x4 : (Unit) × (List TEntry)) (v5_4 : Bool) : V.jn (V.joinF Z12.E Tryz.f221.ntmps [1, 0] [] (V.codeOf Tryz.f221) (Z12.kt x0 x1 x2 x3 x4)) (Z12.s5 x0 x1 x2 x3 x4 v5_4) = Z12.l5 x0 x1 x2 x3 x4 v5_4 := by
  rw [V.jn_eq, Z12.r5]
  simp only [Z12.e17]
  rfl
theorem Z12.v (x0 : THead) (x1 : Int) (x2 : Int) (x3 : Int) (x4 : (Unit) × (List TEntry)) : V.evBody Z12.E Z12.con Tryz.f221 ((x0.1, x0.2.1, x0.2.2.1, x0.2.2.2.1, x0.2.2.2.2.1, x0.2.2.2.2.2.1, x0.2.2.2.2.2.2.1, x0.2.2.2.2.2.2.2.1, x0.2.2.2.2.2.2.2.2.1, x0.2.2.2.2.2.2.2.2.2.1, x0.2.2.2.2.2.2.2.2.2.2.1, x0.2.2.2.2.2.2.2.2.2.2.2.1, x0.2.2.2.2.2.2.2.2.2.2.2.2.1, x0.2.2.2.2.2.2.2.2.2.2.2.2.2.1, x0.2.2.2.2.2.2.2.2.2.2.2.2.2.2.1, x0.2.2.2.2.2.2.2.2.2.2.2.2.2.2.2, x1, x2, x3, x4) : Int × Int × Int × Int × Int × Int × Int × Int × List Int × Int × List Int × Int × Int × List Int × Int × Bool × Int × Int × Int × (Unit) × (List TEntry)) = Z12.b x0 x1 x2 x3 x4 (fun v5_4 => V.jn (V.joinF Z12.E Tryz.f221.ntmps [1, 0] [] (V.codeOf Tryz.f221) (Z12.kt x0 x1 x2 x3 x4)) (Z12.s5 x0 x1 x2 x3 x4 v5_4)) := by kernel_rfl
theorem Z12.eq (x0 : THead) (x1 : Int) (x2 : Int) (x3 : Int) (x4 : (Unit) × (List TEntry)) : V.evBody Z12.E Z12.con Tryz.f221 ((x0.1, x0.2.1, x0.2.2.1, x0.2.2.2.1, x0.2.2.2.2.1, x0.2.2.2.2.2.1, x0.2.2.2.2.2.2.1, x0.2.2.2.2.2.2.2.1, x0.2.2.2.2.2.2.2.2.1, x0.2.2.2.2.2.2.2.2.2.1, x0.2.2.2.2.2.2.2.2.2.2.1, x0.2.2.2.2.2.2.2.2.2.2.2.1, x0.2.2.2.2.2.2.2.2.2.2.2.2.1, x0.2.2.2.2.2.2.2.2.2.2.2.2.2.1, x0.2.2.2.2.2.2.2.2.2.2.2.2.2.2.1, x0.2.2.2.2.2.2.2.2.2.2.2.2.2.2.2, x1, x2, x3, x4) : Int × Int × Int × Int × Int × Int × Int × Int × List Int × Int × List Int × Int × Int × List Int × Int × Bool × Int × Int × Int × (Unit) × (List TEntry)) = Z12 x0 x1 x2 x3 x4 := by
  rw [Z12.v]
  simp only [Z12.e5]
  rfl
theorem Z12.ok : V.Valid Tryz.prog 221 Z12.con :=
  V.fo (V.tab_cons Z60.ok (V.tab_cons Z83.ok (V.tab_cons Z89.ok (V.tab_cons Z157.ok (V.tab_cons Z80.ok (V.tab_cons Z76.ok V.tab_nil)))))) Tryz.func221 (by kernel_rfl) (fun x y h => (show V.evBody Z12.E Z12.con Tryz.f221 x = _ from Z12.eq (x.1, x.2.1, x.2.2.1, x.2.2.2.1, x.2.2.2.2.1, x.2.2.2.2.2.1, x.2.2.2.2.2.2.1, x.2.2.2.2.2.2.2.1, x.2.2.2.2.2.2.2.2.1, x.2.2.2.2.2.2.2.2.2.1, x.2.2.2.2.2.2.2.2.2.2.1, x.2.2.2.2.2.2.2.2.2.2.2.1, x.2.2.2.2.2.2.2.2.2.2.2.2.1, x.2.2.2.2.2.2.2.2.2.2.2.2.2.1, x.2.2.2.2.2.2.2.2.2.2.2.2.2.2.1, x.2.2.2.2.2.2.2.2.2.2.2.2.2.2.2.1) x.2.2.2.2.2.2.2.2.2.2.2.2.2.2.2.2.1 x.2.2.2.2.2.2.2.2.2.2.2.2.2.2.2.2.2.1 x.2.2.2.2.2.2.2.2.2.2.2.2.2.2.2.2.2.2.1 x.2.2.2.2.2.2.2.2.2.2.2.2.2.2.2.2.2.2.2).trans (V.cfl (by kernel_rfl) h))
noncomputable abbrev Z96.con : V.Con := ⟨V.A7, V.eRHeadBool, fun (x : V.D7) => Z96 (V.p7_0 x) (V.p7_1 x) (V.p7_2 x) (V.p7_3 x), [], [(true, 16), (false, 1), (false, 1), (false, 1)], [(true, 16), (false, 1)], [false, false, false, false, false, false, false, false, true, false, true, false, false, true, false, false, false], []⟩
noncomputable abbrev Z96.E : V.Env := V.mkE V.tys [(220, Z18.con), (221, Z12.con)] [] [] [] [] []
noncomputable abbrev Z96.kt (x0 : THead) (x1 : List TEntry) (x2 : Int) (x3 : Int) : V.Kt TRHeadBool := V.ktOf Z96.E Z96.con Tryz.f70 (V.fl7 x0 x1 x2 x3)
noncomputable abbrev Z96.s (x0 : THead) (x1 : List TEntry) (x2 : Int) (x3 : Int) : V.St := ⟨[(0, .v true (V.lsHead x0)), (1, .v false [.val (.sl V.eEntry x1)]), (2, .v false [.val (.int .i64 x2)]), (3, .v false [.val (.int .i64 x3)])], []⟩
theorem Z96.v0 (x0 : THead) (x1 : List TEntry) (x2 : Int) (x3 : Int) : V.evBody Z96.E Z96.con Tryz.f70 (V.fl7 x0 x1 x2 x3) = V.evC Z96.E Tryz.f70.ntmps (V.codeOf Tryz.f70) (Z96.kt x0 x1 x2 x3) (Z96.s x0 x1 x2 x3) := by kernel_rfl
theorem Z96.v (x0 : THead) (x1 : List TEntry) (x2 : Int) (x3 : Int) : V.evC Z96.E Tryz.f70.ntmps (V.codeOf Tryz.f70) (Z96.kt x0 x1 x2 x3) (Z96.s x0 x1 x2 x3) = Z96 x0 x1 x2 x3 := by kernel_rfl
theorem Z96.eq (x0 : THead) (x1 : List TEntry) (x2 : Int) (x3 : Int) : V.evBody Z96.E Z96.con Tryz.f70 (V.fl7 x0 x1 x2 x3) = Z96 x0 x1 x2 x3 := (Z96.v0 x0 x1 x2 x3).trans (Z96.v x0 x1 x2 x3)
theorem Z96.ok : V.Valid Tryz.prog 70 Z96.con :=
  V.fo (V.tab_cons Z18.ok (V.tab_cons Z12.ok V.tab_nil)) Tryz.func70 (by kernel_rfl) (fun x y h => (show V.evBody Z96.E Z96.con Tryz.f70 x = _ from Z96.eq (V.p7_0 x) (V.p7_1 x) (V.p7_2 x) (V.p7_3 x)).trans (V.cfl (by kernel_rfl) h))
noncomputable abbrev Z43.con : V.Con := ⟨(.cons (.sl (.cons (.int .i64) .nil)) (.cons (.int .i64) .nil)), (.cons (.int .i64) .nil), fun (x : List Int × Int) => Z43 x.1 x.2, [], [(false, 1), (false, 1)], [(false, 1)], [false], []⟩
noncomputable abbrev Z43.E : V.Env := V.mkE V.tys [] [(4, [0, 1, 7, 8], [])] [] [] [] []
noncomputable abbrev Z43.kt (x0 : List Int) (x1 : Int) : V.Kt Int := V.ktOf Z43.E Z43.con Tryz.f358 ((x0, x1) : List Int × Int)
noncomputable abbrev Z43.s4 (x0 : List Int) (x1 : Int) (v4_2 : Int) (v4_3 : Int) : V.St := ⟨[(0, .v false [.val (.sl (.cons (.int .i64) .nil) x0)]), (1, .v false [.val (.int .i64 x1)]), (7, .v false [.val (.int .i64 v4_2)]), (8, .v false [.val (.int .i64 v4_3)])], []⟩
theorem Z43.r4 (x0 : List Int) (x1 : Int) (R : V.St → Option Int) (v4_2 : Int) (v4_3 : Int) : V.loopF Z43.E Tryz.f358.ntmps [1, 0, 1, 0] [] (V.codeOf Tryz.f358) (Z43.kt x0 x1) R (Z43.s4 x0 x1 v4_2 v4_3) = Z43.g4 x0 x1 (fun v4_2 v4_3 => R (Z43.s4 x0 x1 v4_2 v4_3)) v4_2 v4_3 := by kernel_rfl
theorem Z43.e4 (x0 : List Int) (x1 : Int) : ∀ (n : Nat) (v4_2 : Int) (v4_3 : Int), V.loopN (V.loopF Z43.E Tryz.f358.ntmps [1, 0, 1, 0] [] (V.codeOf Tryz.f358) (Z43.kt x0 x1)) n (Z43.s4 x0 x1 v4_2 v4_3) = Z43.l4 x0 x1 n v4_2 v4_3 := by
  intro n
  induction n with
  | zero => intros; rw [V.loopN_z]; rfl
  | succ n ih =>
    intro v4_2 v4_3
    rw [V.loopN_s, Z43.r4]
    simp only [ih]
    first | exact (Z43.u4 ..).symm | rfl
theorem Z43.v (x0 : List Int) (x1 : Int) : V.evBody Z43.E Z43.con Tryz.f358 ((x0, x1) : List Int × Int) = Z43.b x0 x1 (fun v4_2 v4_3 => V.loopN (V.loopF Z43.E Tryz.f358.ntmps [1, 0, 1, 0] [] (V.codeOf Tryz.f358) (Z43.kt x0 x1)) V.KK (Z43.s4 x0 x1 v4_2 v4_3)) := by kernel_rfl
theorem Z43.eq (x0 : List Int) (x1 : Int) : V.evBody Z43.E Z43.con Tryz.f358 ((x0, x1) : List Int × Int) = Z43 x0 x1 := by
  rw [Z43.v]
  simp only [Z43.e4]
  rfl
theorem Z43.ok : V.Valid Tryz.prog 358 Z43.con :=
  V.fo V.tab_nil Tryz.func358 (by kernel_rfl) (fun x y h => (show V.evBody Z43.E Z43.con Tryz.f358 x = _ from Z43.eq x.1 x.2).trans (V.cfl (by kernel_rfl) h))
noncomputable abbrev Z177.con : V.Con := ⟨(.cons (.sl (.cons (.int .i64) .nil)) (.cons (.int .i64) .nil)), (.cons .bool .nil), fun (x : List Int × Int) => Z177 x.1 x.2, [], [(false, 1), (false, 1)], [(false, 1)], [false], []⟩
noncomputable abbrev Z177.E : V.Env := V.mkE V.tys [(358, Z43.con)] [] [] [] [] []
theorem Z177.eq (x0 : List Int) (x1 : Int) : V.evBody Z177.E Z177.con Tryz.f245 ((x0, x1) : List Int × Int) = Z177 x0 x1 := by kernel_rfl
theorem Z177.ok : V.Valid Tryz.prog 245 Z177.con :=
  V.fo (V.tab_cons Z43.ok V.tab_nil) Tryz.func245 (by kernel_rfl) (fun x y h => (show V.evBody Z177.E Z177.con Tryz.f245 x = _ from Z177.eq x.1 x.2).trans (V.cfl (by kernel_rfl) h))
noncomputable abbrev Z33.con : V.Con := ⟨(.cons (.sl (.cons (.int .i64) .nil)) (.cons (.sl (.cons (.int .i64) .nil)) (.cons (.int .i64) (.cons (.sl (.cons (.int .i64) .nil)) .nil)))), (.cons (.sl (.cons (.int .i64) (.cons (.int .i64) .nil))) .nil), fun (x : List Int × List Int × Int × List Int) => Z33 x.1 (x.2.1, x.2.2.1) x.2.2.2, [], [(false, 1), (true, 2), (false, 1)], [(false, 1)], [true], []⟩
noncomputable abbrev Z33.E : V.Env := V.mkE V.tys [(197, Z130.con), (245, Z177.con)] [(6, [0, 2, 7, 12, 13, 14], [(64000038400448, (.cons (.int .i64) (.cons (.int .i64) .nil)), true)])] [] [] [] []
noncomputable abbrev Z33.kt (x0 : List Int) (x1 : TKeys) (x2 : List Int) : V.Kt (List TSig) := V.ktOf Z33.E Z33.con Tryz.f347 ((x0, x1.1, x1.2, x2) : List Int × List Int × Int × List Int)
noncomputable abbrev Z33.s6 (x0 : List Int) (x1 : TKeys) (x2 : List Int) (v6_3 : Int) (v6_4 : Int) (v6_5 : List TSig) : V.St := ⟨[(0, .v false [.val (.sl (.cons (.int .i64) .nil) x0)]), (2, .v false [.val (.sl (.cons (.int .i64) .nil) x2)]), (7, .v false [.ref 64000038400448]), (12, .v false [.val (.sl (.cons (.int .i64) .nil) x1.1)]), (13, .v false [.val (.int .i64 v6_3)]), (14, .v false [.val (.int .i64 v6_4)])], [(64000038400448, .row (.cons (.int .i64) (.cons (.int .i64) .nil)) true v6_5)]⟩
theorem Z33.r6 (x0 : List Int) (x1 : TKeys) (x2 : List Int) (R : V.St → Option (List TSig)) (v6_3 : Int) (v6_4 : Int) (v6_5 : List TSig) : V.loopF Z33.E Tryz.f347.ntmps [1, 1, 0, 1, 0] [] (V.codeOf Tryz.f347) (Z33.kt x0 x1 x2) R (Z33.s6 x0 x1 x2 v6_3 v6_4 v6_5) = Z33.g6 x0 x1 x2 (fun v6_3 v6_4 v6_5 => R (Z33.s6 x0 x1 x2 v6_3 v6_4 v6_5)) v6_3 v6_4 v6_5 := by kernel_rfl
theorem Z33.e6 (x0 : List Int) (x1 : TKeys) (x2 : List Int) : ∀ (n : Nat) (v6_3 : Int) (v6_4 : Int) (v6_5 : List TSig), V.loopN (V.loopF Z33.E Tryz.f347.ntmps [1, 1, 0, 1, 0] [] (V.codeOf Tryz.f347) (Z33.kt x0 x1 x2)) n (Z33.s6 x0 x1 x2 v6_3 v6_4 v6_5) = Z33.l6 x0 x1 x2 n v6_3 v6_4 v6_5 := by
  intro n
  induction n with
  | zero => intros; rw [V.loopN_z]; rfl
  | succ n ih =>
    intro v6_3 v6_4 v6_5
    rw [V.loopN_s, Z33.r6]
    simp only [ih]
    first | exact (Z33.u6 ..).symm | rfl
theorem Z33.v (x0 : List Int) (x1 : TKeys) (x2 : List Int) : V.evBody Z33.E Z33.con Tryz.f347 ((x0, x1.1, x1.2, x2) : List Int × List Int × Int × List Int) = Z33.b x0 x1 x2 (fun v6_3 v6_4 v6_5 => V.loopN (V.loopF Z33.E Tryz.f347.ntmps [1, 1, 0, 1, 0] [] (V.codeOf Tryz.f347) (Z33.kt x0 x1 x2)) V.KK (Z33.s6 x0 x1 x2 v6_3 v6_4 v6_5)) := by kernel_rfl
theorem Z33.eq (x0 : List Int) (x1 : TKeys) (x2 : List Int) : V.evBody Z33.E Z33.con Tryz.f347 ((x0, x1.1, x1.2, x2) : List Int × List Int × Int × List Int) = Z33 x0 x1 x2 := by
  rw [Z33.v]
  simp only [Z33.e6]
  rfl
theorem Z33.ok : V.Valid Tryz.prog 347 Z33.con :=
  V.fo (V.tab_cons Z130.ok (V.tab_cons Z177.ok V.tab_nil)) Tryz.func347 (by kernel_rfl) (fun x y h => (show V.evBody Z33.E Z33.con Tryz.f347 x = _ from Z33.eq x.1 (x.2.1, x.2.2.1) x.2.2.2).trans (V.cfl (by kernel_rfl) h))
noncomputable abbrev Z100.con : V.Con := ⟨V.A8, V.eSigned, fun (x : V.D8) => Z100 (V.p8_0 x) (V.p8_1 x) (V.p8_2 x), [], [(false, 1), (true, 2), (true, 16)], [(true, 17)], [false, false, false, false, false, false, false, false, true, false, true, false, false, true, false, false, true], []⟩
noncomputable abbrev Z100.E : V.Env := V.mkE V.tys [(183, Z83.con), (188, Z84.con), (347, Z33.con)] [] [(1, 6)] [] [] []
noncomputable abbrev Z100.kt (x0 : List Int) (x1 : TKeys) (x2 : THead) : V.Kt TSigned := V.ktOf Z100.E Z100.con Tryz.f224 (V.fl8 x0 x1 x2)
noncomputable abbrev Z100.s (x0 : List Int) (x1 : TKeys) (x2 : THead) : V.St := ⟨[(0, .v false [.val (.sl (.cons (.int .i64) .nil) x0)]), (1, .v true [.val (.sl (.cons (.int .i64) .nil) x1.1), .val (.int .i64 x1.2)]), (2, .v true (V.lsHead x2))], []⟩
theorem Z100.v0 (x0 : List Int) (x1 : TKeys) (x2 : THead) : V.evBody Z100.E Z100.con Tryz.f224 (V.fl8 x0 x1 x2) = V.evC Z100.E Tryz.f224.ntmps (V.codeOf Tryz.f224) (Z100.kt x0 x1 x2) (Z100.s x0 x1 x2) := by kernel_rfl
theorem Z100.v (x0 : List Int) (x1 : TKeys) (x2 : THead) : V.evC Z100.E Tryz.f224.ntmps (V.codeOf Tryz.f224) (Z100.kt x0 x1 x2) (Z100.s x0 x1 x2) = Z100 x0 x1 x2 := by kernel_rfl
theorem Z100.eq (x0 : List Int) (x1 : TKeys) (x2 : THead) : V.evBody Z100.E Z100.con Tryz.f224 (V.fl8 x0 x1 x2) = Z100 x0 x1 x2 := (Z100.v0 x0 x1 x2).trans (Z100.v x0 x1 x2)
theorem Z100.ok : V.Valid Tryz.prog 224 Z100.con :=
  V.fo (V.tab_cons Z83.ok (V.tab_cons Z84.ok (V.tab_cons Z33.ok V.tab_nil))) Tryz.func224 (by kernel_rfl) (fun x y h => (show V.evBody Z100.E Z100.con Tryz.f224 x = _ from Z100.eq (V.p8_0 x) (V.p8_1 x) (V.p8_2 x)).trans (V.cfl (by kernel_rfl) h))
noncomputable abbrev Z49.con : V.Con := ⟨V.A9, V.eSigned, fun (x : V.D9) => Z49 (V.p9_0 x) (V.p9_1 x) (V.p9_2 x), [], [(true, 16), (true, 16), (false, 1)], [(true, 17)], [false, false, false, false, false, false, false, false, true, false, true, false, false, true, false, false, true], []⟩
noncomputable abbrev Z49.E : V.Env := V.mkE V.tys [(224, Z100.con)] [(15, [2, 4, 6, 7], [])] [] [] [] []
noncomputable abbrev Z49.kt (x0 : THead) (x1 : THead) (x2 : List Int) : V.Kt TSigned := V.ktOf Z49.E Z49.con Tryz.f72 (V.fl9 x0 x1 x2)
noncomputable abbrev Z49.s15 (x1 : THead) (x2 : List Int) (v15_30 : List Int) (v15_31 : Int) : V.St := ⟨[(2, .v false [.val (.sl (.cons (.int .i64) .nil) x2)]), (4, .v false [.ptr 64064 0]), (6, .v false [.ptr 64128 0]), (7, .v false [.ptr 128128 0])], [(64064, .box (V.lsHead x1)), (64128, .box [.val (.int .i64 (0 : Int)), .val (.int .i64 (0 : Int)), .val (.int .i64 (0 : Int)), .val (.int .i64 (0 : Int)), .val (.int .i64 (0 : Int)), .val (.int .i64 (0 : Int)), .val (.int .i64 (0 : Int)), .val (.int .i64 (0 : Int)), .nil0, .val (.int .i64 (0 : Int)), .nil0, .val (.int .i64 (0 : Int)), .val (.int .i64 (0 : Int)), .nil0, .val (.int .i64 (0 : Int)), .val (.bool false), .nil0]), (128128, .box [.val (.sl (.cons (.int .i64) .nil) v15_30), .val (.int .i64 v15_31)])]⟩
theorem Z49.r15 (x0 : THead) (x1 : THead) (x2 : List Int) (v15_30 : List Int) (v15_31 : Int) : V.joinF Z49.E Tryz.f72.ntmps [1, 1] [] (V.codeOf Tryz.f72) (Z49.kt x0 x1 x2) (Z49.s15 x1 x2 v15_30 v15_31) = Z49.g15 x1 x2 v15_30 v15_31 := by kernel_rfl
theorem Z49.e15 (x0 : THead) (x1 : THead) (x2 : List Int) (v15_30 : List Int) (v15_31 : Int) : V.jn (V.joinF Z49.E Tryz.f72.ntmps [1, 1] [] (V.codeOf Tryz.f72) (Z49.kt x0 x1 x2)) (Z49.s15 x1 x2 v15_30 v15_31) = Z49.l15 x1 x2 v15_30 v15_31 := by
  rw [V.jn_eq, Z49.r15]
  rfl
noncomputable abbrev Z49.s (x0 : THead) (x1 : THead) (x2 : List Int) : V.St := ⟨[(0, .v true (V.lsHead x0)), (1, .v true (V.lsHead x1)), (2, .v false [.val (.sl (.cons (.int .i64) .nil) x2)])], []⟩
theorem Z49.v0 (x0 : THead) (x1 : THead) (x2 : List Int) : V.evBody Z49.E Z49.con Tryz.f72 (V.fl9 x0 x1 x2) = V.evC Z49.E Tryz.f72.ntmps (V.codeOf Tryz.f72) (Z49.kt x0 x1 x2) (Z49.s x0 x1 x2) := by kernel_rfl
theorem Z49.v (x0 : THead) (x1 : THead) (x2 : List Int) : V.evC Z49.E Tryz.f72.ntmps (V.codeOf Tryz.f72) (Z49.kt x0 x1 x2) (Z49.s x0 x1 x2) = Z49.b x0 x1 x2 (fun v15_30 v15_31 => V.jn (V.joinF Z49.E Tryz.f72.ntmps [1, 1] [] (V.codeOf Tryz.f72) (Z49.kt x0 x1 x2)) (Z49.s15 x1 x2 v15_30 v15_31)) := by kernel_rfl
theorem Z49.eq (x0 : THead) (x1 : THead) (x2 : List Int) : V.evBody Z49.E Z49.con Tryz.f72 (V.fl9 x0 x1 x2) = Z49 x0 x1 x2 := by
  rw [Z49.v0, Z49.v]
  simp only [Z49.e15]
  rfl
theorem Z49.ok : V.Valid Tryz.prog 72 Z49.con :=
  V.fo (V.tab_cons Z100.ok V.tab_nil) Tryz.func72 (by kernel_rfl) (fun x y h => (show V.evBody Z49.E Z49.con Tryz.f72 x = _ from Z49.eq (V.p9_0 x) (V.p9_1 x) (V.p9_2 x)).trans (V.cfl (by kernel_rfl) h))
noncomputable abbrev Z48.con : V.Con := ⟨V.A10, (.cons (.sl V.eSigned) (.cons (.int .i64) .nil)), fun (x : V.D10) => Z48 (V.p10_0 x) (V.p10_1 x), [], [(false, 1), (true, 17)], [(false, 1), (false, 1)], [true, false], []⟩
noncomputable abbrev Z48.E : V.Env := V.mkE V.tys [(37, Z128.con), (171, Z35.con), (172, Z15.con), (173, Z113.con), (174, Z85.con)] [(7, [0, 3, 6, 17], [])] [(4, 3)] [] [] []
noncomputable abbrev Z48.kt (x0 : List TSigned) (x1 : TSigned) : V.Kt (List TSigned × Int) := V.ktOf Z48.E Z48.con Tryz.f35 (V.fl10 x0 x1)
noncomputable abbrev Z48.s7 (x0 : List TSigned) (x1 : TSigned) (y1 : List TSigned) (v7_1 : Bool) : V.St := ⟨[(0, .v false [.val (.sl V.eSigned x0)]), (3, .v false [.ptr 64000 0]), (6, .v false [.ref 64000044800384]), (17, .v false [.val (.bool v7_1)])], [(64000, .box (V.lsSigned x1)), (64000044800384, .row V.eSigned true y1)]⟩
theorem Z48.r7 (x0 : List TSigned) (x1 : TSigned) (y1 : List TSigned) (v7_1 : Bool) : V.joinF Z48.E Tryz.f35.ntmps [1, 1, 0] [] (V.codeOf Tryz.f35) (Z48.kt x0 x1) (Z48.s7 x0 x1 y1 v7_1) = Z48.g7 x0 x1 y1 v7_1 := by kernel_rfl
theorem Z48.e7 (x0 : List TSigned) (x1 : TSigned) (y1 : List TSigned) (v7_1 : Bool) : V.jn (V.joinF Z48.E Tryz.f35.ntmps [1, 1, 0] [] (V.codeOf Tryz.f35) (Z48.kt x0 x1)) (Z48.s7 x0 x1 y1 v7_1) = Z48.l7 x0 x1 y1 v7_1 := by
  rw [V.jn_eq, Z48.r7]
  rfl
noncomputable abbrev Z48.s (x0 : List TSigned) (x1 : TSigned) : V.St := ⟨[(0, .v false [.val (.sl V.eSigned x0)]), (1, .v true (V.lsSigned x1))], []⟩
theorem Z48.v0 (x0 : List TSigned) (x1 : TSigned) : V.evBody Z48.E Z48.con Tryz.f35 (V.fl10 x0 x1) = V.evC Z48.E Tryz.f35.ntmps (V.codeOf Tryz.f35) (Z48.kt x0 x1) (Z48.s x0 x1) := by kernel_rfl
theorem Z48.v (x0 : List TSigned) (x1 : TSigned) : V.evC Z48.E Tryz.f35.ntmps (V.codeOf Tryz.f35) (Z48.kt x0 x1) (Z48.s x0 x1) = Z48.b x0 x1 (fun y1 v7_1 => V.jn (V.joinF Z48.E Tryz.f35.ntmps [1, 1, 0] [] (V.codeOf Tryz.f35) (Z48.kt x0 x1)) (Z48.s7 x0 x1 y1 v7_1)) := by kernel_rfl
theorem Z48.eq (x0 : List TSigned) (x1 : TSigned) : V.evBody Z48.E Z48.con Tryz.f35 (V.fl10 x0 x1) = Z48 x0 x1 := by
  rw [Z48.v0, Z48.v]
  simp only [Z48.e7]
  rfl
theorem Z48.ok : V.Valid Tryz.prog 35 Z48.con :=
  V.fo (V.tab_cons Z128.ok (V.tab_cons Z35.ok (V.tab_cons Z15.ok (V.tab_cons Z113.ok (V.tab_cons Z85.ok V.tab_nil))))) Tryz.func35 (by kernel_rfl) (fun x y h => (show V.evBody Z48.E Z48.con Tryz.f35 x = _ from Z48.eq (V.p10_0 x) (V.p10_1 x)).trans (V.cfl (by kernel_rfl) h))
noncomputable abbrev Z99.con : V.Con := ⟨V.A11, (.cons (.sl V.eSigned) (.cons (.sl V.eEntry) (.cons (.int .i64) .nil))), fun (x : V.D11) => Z99 (V.p11_0 x) (V.p11_1 x) (V.p11_2 x) (V.p11_3 x), [], [(true, 2), (false, 1), (true, 16), (false, 1)], [(true, 2), (false, 1)], [true, true, false], []⟩
noncomputable abbrev Z99.E : V.Env := V.mkE V.tys [(35, Z48.con), (72, Z49.con), (98, Z125.con), (173, Z113.con), (251, Z120.con), (252, Z36.con)] [] [(3, 12)] [] [] []
noncomputable abbrev Z99.kt (x0 : TZone) (x1 : List Int) (x2 : THead) (x3 : List TEntry) : V.Kt TRZoneInt := V.ktOf Z99.E Z99.con Tryz.f95 (V.fl11 x0 x1 x2 x3)
noncomputable abbrev Z99.s (x0 : TZone) (x1 : List Int) (x2 : THead) (x3 : List TEntry) : V.St := ⟨[(0, .v true [.val (.sl V.eSigned x0.1), .val (.sl V.eEntry x0.2)]), (1, .v false [.val (.sl (.cons (.int .i64) .nil) x1)]), (2, .v true (V.lsHead x2)), (3, .v false [.val (.sl V.eEntry x3)])], []⟩
theorem Z99.v0 (x0 : TZone) (x1 : List Int) (x2 : THead) (x3 : List TEntry) : V.evBody Z99.E Z99.con Tryz.f95 (V.fl11 x0 x1 x2 x3) = V.evC Z99.E Tryz.f95.ntmps (V.codeOf Tryz.f95) (Z99.kt x0 x1 x2 x3) (Z99.s x0 x1 x2 x3) := by kernel_rfl
theorem Z99.v (x0 : TZone) (x1 : List Int) (x2 : THead) (x3 : List TEntry) : V.evC Z99.E Tryz.f95.ntmps (V.codeOf Tryz.f95) (Z99.kt x0 x1 x2 x3) (Z99.s x0 x1 x2 x3) = Z99 x0 x1 x2 x3 := by kernel_rfl
theorem Z99.eq (x0 : TZone) (x1 : List Int) (x2 : THead) (x3 : List TEntry) : V.evBody Z99.E Z99.con Tryz.f95 (V.fl11 x0 x1 x2 x3) = Z99 x0 x1 x2 x3 := (Z99.v0 x0 x1 x2 x3).trans (Z99.v x0 x1 x2 x3)
theorem Z99.ok : V.Valid Tryz.prog 95 Z99.con :=
  V.fo (V.tab_cons Z48.ok (V.tab_cons Z49.ok (V.tab_cons Z125.ok (V.tab_cons Z113.ok (V.tab_cons Z120.ok (V.tab_cons Z36.ok V.tab_nil)))))) Tryz.func95 (by kernel_rfl) (fun x y h => (show V.evBody Z99.E Z99.con Tryz.f95 x = _ from Z99.eq (V.p11_0 x) (V.p11_1 x) (V.p11_2 x) (V.p11_3 x)).trans (V.cfl (by kernel_rfl) h))
noncomputable abbrev Z158.con : V.Con := ⟨V.eRZoneListListIntInt, (.cons (.sl V.eSigned) (.cons (.sl V.eEntry) (.cons (.int .i64) .nil))), fun (x : List TSigned × List TEntry × List Int × List TEntry × Int × Int) => Z158 (x.1, x.2.1) x.2.2.1 x.2.2.2.1 x.2.2.2.2.1 x.2.2.2.2.2, [], [(true, 2), (false, 1), (false, 1), (false, 1), (false, 1)], [(true, 2), (false, 1)], [true, true, false], []⟩
noncomputable abbrev Z158.E : V.Env := V.mkE V.tys [(70, Z96.con), (95, Z99.con), (98, Z125.con), (173, Z113.con), (251, Z120.con)] [] [] [] [] []
theorem Z158.eq (x0 : TZone) (x1 : List Int) (x2 : List TEntry) (x3 : Int) (x4 : Int) : V.evBody Z158.E Z158.con Tryz.f104 ((x0.1, x0.2, x1, x2, x3, x4) : List TSigned × List TEntry × List Int × List TEntry × Int × Int) = Z158 x0 x1 x2 x3 x4 := by kernel_rfl
theorem Z158.ok : V.Valid Tryz.prog 104 Z158.con :=
  V.fo (V.tab_cons Z96.ok (V.tab_cons Z99.ok (V.tab_cons Z125.ok (V.tab_cons Z113.ok (V.tab_cons Z120.ok V.tab_nil))))) Tryz.func104 (by kernel_rfl) (fun x y h => (show V.evBody Z158.E Z158.con Tryz.f104 x = _ from Z158.eq (x.1, x.2.1) x.2.2.1 x.2.2.2.1 x.2.2.2.2.1 x.2.2.2.2.2).trans (V.cfl (by kernel_rfl) h))
noncomputable abbrev Z138.con : V.Con := ⟨(.cons (.sl V.eSigned) (.cons (.sl V.eEntry) (.cons (.sl (.cons (.int .i64) .nil)) (.cons (.int .i64) (.cons (.int .i64) .nil))))), (.cons (.sl V.eSigned) (.cons (.sl V.eEntry) (.cons (.int .i64) .nil))), fun (x : List TSigned × List TEntry × List Int × Int × Int) => Z138 (x.1, x.2.1) x.2.2.1 x.2.2.2.1 x.2.2.2.2, [], [(true, 2), (false, 1), (false, 1), (false, 1)], [(true, 2), (false, 1)], [true, true, false], []⟩
noncomputable abbrev Z138.E : V.Env := V.mkE V.tys [(104, Z158.con)] [] [] [] [] []
theorem Z138.eq (x0 : TZone) (x1 : List Int) (x2 : Int) (x3 : Int) : V.evBody Z138.E Z138.con Tryz.f105 ((x0.1, x0.2, x1, x2, x3) : List TSigned × List TEntry × List Int × Int × Int) = Z138 x0 x1 x2 x3 := by kernel_rfl
theorem Z138.ok : V.Valid Tryz.prog 105 Z138.con :=
  V.fo (V.tab_cons Z158.ok V.tab_nil) Tryz.func105 (by kernel_rfl) (fun x y h => (show V.evBody Z138.E Z138.con Tryz.f105 x = _ from Z138.eq (x.1, x.2.1) x.2.2.1 x.2.2.2.1 x.2.2.2.2).trans (V.cfl (by kernel_rfl) h))
noncomputable abbrev Z37.con : V.Con := ⟨(.cons (.sl (.cons (.int .i64) .nil)) (.cons (.sl (.cons (.int .i64) .nil)) .nil)), (.cons .bool .nil), fun (x : List Int × List Int) => Z37 x.1 x.2, [], [(false, 1), (false, 1)], [(false, 1)], [false], []⟩
noncomputable abbrev Z37.E : V.Env := V.mkE V.tys [] [(8, [0, 1, 5], [])] [(6, 8)] [] [] []
noncomputable abbrev Z37.kt (x0 : List Int) (x1 : List Int) : V.Kt Bool := V.ktOf Z37.E Z37.con Tryz.f89 ((x0, x1) : List Int × List Int)
noncomputable abbrev Z37.s8 (x0 : List Int) (x1 : List Int) (v8_2 : Int) : V.St := ⟨[(0, .v false [.val (.sl (.cons (.int .i64) .nil) x0)]), (1, .v false [.val (.sl (.cons (.int .i64) .nil) x1)]), (5, .v false [.val (.int .i64 v8_2)])], []⟩
theorem Z37.r8 (x0 : List Int) (x1 : List Int) (R : V.St → Option Bool) (v8_2 : Int) : V.loopF Z37.E Tryz.f89.ntmps [1, 1, 0, 1, 0] [] (V.codeOf Tryz.f89) (Z37.kt x0 x1) R (Z37.s8 x0 x1 v8_2) = Z37.g8 x0 x1 (fun v8_2 => R (Z37.s8 x0 x1 v8_2)) v8_2 := by kernel_rfl
theorem Z37.e8 (x0 : List Int) (x1 : List Int) : ∀ (n : Nat) (v8_2 : Int), V.loopN (V.loopF Z37.E Tryz.f89.ntmps [1, 1, 0, 1, 0] [] (V.codeOf Tryz.f89) (Z37.kt x0 x1)) n (Z37.s8 x0 x1 v8_2) = Z37.l8 x0 x1 n v8_2 := by
  intro n
  induction n with
  | zero => intros; rw [V.loopN_z]; rfl
  | succ n ih =>
    intro v8_2
    rw [V.loopN_s, Z37.r8]
    simp only [ih]
    first | exact (Z37.u8 ..).symm | rfl
theorem Z37.v (x0 : List Int) (x1 : List Int) : V.evBody Z37.E Z37.con Tryz.f89 ((x0, x1) : List Int × List Int) = Z37.b x0 x1 (fun v8_2 => V.loopN (V.loopF Z37.E Tryz.f89.ntmps [1, 1, 0, 1, 0] [] (V.codeOf Tryz.f89) (Z37.kt x0 x1)) V.KK (Z37.s8 x0 x1 v8_2)) := by kernel_rfl
theorem Z37.eq (x0 : List Int) (x1 : List Int) : V.evBody Z37.E Z37.con Tryz.f89 ((x0, x1) : List Int × List Int) = Z37 x0 x1 := by
  rw [Z37.v]
  simp only [Z37.e8]
  rfl
theorem Z37.ok : V.Valid Tryz.prog 89 Z37.con :=
  V.fo V.tab_nil Tryz.func89 (by kernel_rfl) (fun x y h => (show V.evBody Z37.E Z37.con Tryz.f89 x = _ from Z37.eq x.1 x.2).trans (V.cfl (by kernel_rfl) h))
noncomputable abbrev Z140.con : V.Con := ⟨(.cons (.sl (.cons (.int .i64) .nil)) (.cons (.int .i64) (.cons (.sl (.cons (.int .i64) .nil)) (.cons (.int .i64) .nil)))), (.cons .bool .nil), fun (x : List Int × Int × List Int × Int) => Z140 (x.1, x.2.1) x.2.2, [], [(true, 2), (true, 2)], [(false, 1)], [false], []⟩
noncomputable abbrev Z140.E : V.Env := V.mkE V.tys [(89, Z37.con)] [] [] [] [] []
theorem Z140.eq (x0 : TKeys) (x1 : TKeys) : V.evBody Z140.E Z140.con Tryz.f416 ((x0.1, x0.2, x1.1, x1.2) : List Int × Int × List Int × Int) = Z140 x0 x1 := by kernel_rfl
theorem Z140.ok : V.Valid Tryz.prog 416 Z140.con :=
  V.fo (V.tab_cons Z37.ok V.tab_nil) Tryz.func416 (by kernel_rfl) (fun x y h => (show V.evBody Z140.E Z140.con Tryz.f416 x = _ from Z140.eq (x.1, x.2.1) x.2.2).trans (V.cfl (by kernel_rfl) h))
noncomputable abbrev Z103.con : V.Con := ⟨V.A4, (.cons .bool .nil), fun (x : V.D4) => Z103 (V.p4_0 x) (V.p4_1 x), [], [(true, 16), (true, 16)], [(false, 1)], [false], []⟩
noncomputable abbrev Z103.E : V.Env := V.mkE V.tys [(416, Z140.con)] [] [] [] [] []
noncomputable abbrev Z103.kt (x0 : THead) (x1 : THead) : V.Kt Bool := V.ktOf Z103.E Z103.con Tryz.f359 (V.fl4 x0 x1)
noncomputable abbrev Z103.s (x0 : THead) (x1 : THead) : V.St := ⟨[(0, .v true (V.lsHead x0)), (1, .v true (V.lsHead x1))], []⟩
theorem Z103.v0 (x0 : THead) (x1 : THead) : V.evBody Z103.E Z103.con Tryz.f359 (V.fl4 x0 x1) = V.evC Z103.E Tryz.f359.ntmps (V.codeOf Tryz.f359) (Z103.kt x0 x1) (Z103.s x0 x1) := by kernel_rfl
theorem Z103.v (x0 : THead) (x1 : THead) : V.evC Z103.E Tryz.f359.ntmps (V.codeOf Tryz.f359) (Z103.kt x0 x1) (Z103.s x0 x1) = Z103 x0 x1 := by kernel_rfl
theorem Z103.eq (x0 : THead) (x1 : THead) : V.evBody Z103.E Z103.con Tryz.f359 (V.fl4 x0 x1) = Z103 x0 x1 := (Z103.v0 x0 x1).trans (Z103.v x0 x1)
theorem Z103.ok : V.Valid Tryz.prog 359 Z103.con :=
  V.fo (V.tab_cons Z140.ok V.tab_nil) Tryz.func359 (by kernel_rfl) (fun x y h => (show V.evBody Z103.E Z103.con Tryz.f359 x = _ from Z103.eq (V.p4_0 x) (V.p4_1 x)).trans (V.cfl (by kernel_rfl) h))
noncomputable abbrev Z149.con : V.Con := ⟨(.cons (.int .i64) (.cons (.int .i64) (.cons (.int .i64) (.cons (.int .i64) .nil)))), (.cons .bool .nil), fun (x : Int × Int × Int × Int) => Z149 (x.1, x.2.1) x.2.2, [], [(true, 2), (true, 2)], [(false, 1)], [false], []⟩
noncomputable abbrev Z149.E : V.Env := V.mkE V.tys [] [] [] [] [] []
theorem Z149.eq (x0 : TSig) (x1 : TSig) : V.evBody Z149.E Z149.con Tryz.f417 ((x0.1, x0.2, x1.1, x1.2) : Int × Int × Int × Int) = Z149 x0 x1 := by kernel_rfl
theorem Z149.ok : V.Valid Tryz.prog 417 Z149.con :=
  V.fo V.tab_nil Tryz.func417 (by kernel_rfl) (fun x y h => (show V.evBody Z149.E Z149.con Tryz.f417 x = _ from Z149.eq (x.1, x.2.1) x.2.2).trans (V.cfl (by kernel_rfl) h))
noncomputable abbrev Z63.con : V.Con := ⟨(.cons (.sl (.cons (.int .i64) (.cons (.int .i64) .nil))) (.cons (.sl (.cons (.int .i64) (.cons (.int .i64) .nil))) .nil)), (.cons .bool .nil), fun (x : List TSig × List TSig) => Z63 x.1 x.2, [], [(false, 1), (false, 1)], [(false, 1)], [false], []⟩
noncomputable abbrev Z63.E : V.Env := V.mkE V.tys [(417, Z149.con)] [(8, [0, 1, 5], [])] [(6, 8)] [] [] []
noncomputable abbrev Z63.kt (x0 : List TSig) (x1 : List TSig) : V.Kt Bool := V.ktOf Z63.E Z63.con Tryz.f360 ((x0, x1) : List TSig × List TSig)
noncomputable abbrev Z63.s8 (x0 : List TSig) (x1 : List TSig) (v8_2 : Int) : V.St := ⟨[(0, .v false [.val (.sl (.cons (.int .i64) (.cons (.int .i64) .nil)) x0)]), (1, .v false [.val (.sl (.cons (.int .i64) (.cons (.int .i64) .nil)) x1)]), (5, .v false [.val (.int .i64 v8_2)])], []⟩
theorem Z63.r8 (x0 : List TSig) (x1 : List TSig) (R : V.St → Option Bool) (v8_2 : Int) : V.loopF Z63.E Tryz.f360.ntmps [1, 1, 0, 1, 0] [] (V.codeOf Tryz.f360) (Z63.kt x0 x1) R (Z63.s8 x0 x1 v8_2) = Z63.g8 x0 x1 (fun v8_2 => R (Z63.s8 x0 x1 v8_2)) v8_2 := by kernel_rfl
theorem Z63.e8 (x0 : List TSig) (x1 : List TSig) : ∀ (n : Nat) (v8_2 : Int), V.loopN (V.loopF Z63.E Tryz.f360.ntmps [1, 1, 0, 1, 0] [] (V.codeOf Tryz.f360) (Z63.kt x0 x1)) n (Z63.s8 x0 x1 v8_2) = Z63.l8 x0 x1 n v8_2 := by
  intro n
  induction n with
  | zero => intros; rw [V.loopN_z]; rfl
  | succ n ih =>
    intro v8_2
    rw [V.loopN_s, Z63.r8]
    simp only [ih]
    first | exact (Z63.u8 ..).symm | rfl
theorem Z63.v (x0 : List TSig) (x1 : List TSig) : V.evBody Z63.E Z63.con Tryz.f360 ((x0, x1) : List TSig × List TSig) = Z63.b x0 x1 (fun v8_2 => V.loopN (V.loopF Z63.E Tryz.f360.ntmps [1, 1, 0, 1, 0] [] (V.codeOf Tryz.f360) (Z63.kt x0 x1)) V.KK (Z63.s8 x0 x1 v8_2)) := by kernel_rfl
theorem Z63.eq (x0 : List TSig) (x1 : List TSig) : V.evBody Z63.E Z63.con Tryz.f360 ((x0, x1) : List TSig × List TSig) = Z63 x0 x1 := by
  rw [Z63.v]
  simp only [Z63.e8]
  rfl
theorem Z63.ok : V.Valid Tryz.prog 360 Z63.con :=
  V.fo (V.tab_cons Z149.ok V.tab_nil) Tryz.func360 (by kernel_rfl) (fun x y h => (show V.evBody Z63.E Z63.con Tryz.f360 x = _ from Z63.eq x.1 x.2).trans (V.cfl (by kernel_rfl) h))
noncomputable abbrev Z93.con : V.Con := ⟨V.A13, (.cons .bool .nil), fun (x : V.D13) => Z93 (V.p13_0 x) (V.p13_1 x), [], [(true, 17), (true, 17)], [(false, 1)], [false], []⟩
noncomputable abbrev Z93.E : V.Env := V.mkE V.tys [(359, Z103.con), (360, Z63.con)] [] [] [] [] []
noncomputable abbrev Z93.kt (x0 : TSigned) (x1 : TSigned) : V.Kt Bool := V.ktOf Z93.E Z93.con Tryz.f246 (V.fl13 x0 x1)
noncomputable abbrev Z93.s (x0 : TSigned) (x1 : TSigned) : V.St := ⟨[(0, .v true (V.lsSigned x0)), (1, .v true (V.lsSigned x1))], []⟩
theorem Z93.v0 (x0 : TSigned) (x1 : TSigned) : V.evBody Z93.E Z93.con Tryz.f246 (V.fl13 x0 x1) = V.evC Z93.E Tryz.f246.ntmps (V.codeOf Tryz.f246) (Z93.kt x0 x1) (Z93.s x0 x1) := by kernel_rfl
theorem Z93.v (x0 : TSigned) (x1 : TSigned) : V.evC Z93.E Tryz.f246.ntmps (V.codeOf Tryz.f246) (Z93.kt x0 x1) (Z93.s x0 x1) = Z93 x0 x1 := by kernel_rfl
theorem Z93.eq (x0 : TSigned) (x1 : TSigned) : V.evBody Z93.E Z93.con Tryz.f246 (V.fl13 x0 x1) = Z93 x0 x1 := (Z93.v0 x0 x1).trans (Z93.v x0 x1)
theorem Z93.ok : V.Valid Tryz.prog 246 Z93.con :=
  V.fo (V.tab_cons Z103.ok (V.tab_cons Z63.ok V.tab_nil)) Tryz.func246 (by kernel_rfl) (fun x y h => (show V.evBody Z93.E Z93.con Tryz.f246 x = _ from Z93.eq (V.p13_0 x) (V.p13_1 x)).trans (V.cfl (by kernel_rfl) h))
noncomputable abbrev Z64.con : V.Con := ⟨(.cons (.sl V.eSigned) (.cons (.sl V.eSigned) .nil)), (.cons .bool .nil), fun (x : List TSigned × List TSigned) => Z64 x.1 x.2, [], [(false, 1), (false, 1)], [(false, 1)], [false], []⟩
noncomputable abbrev Z64.E : V.Env := V.mkE V.tys [(246, Z93.con)] [(8, [0, 1, 5], [])] [(6, 8)] [] [] []
noncomputable abbrev Z64.kt (x0 : List TSigned) (x1 : List TSigned) : V.Kt Bool := V.ktOf Z64.E Z64.con Tryz.f149 ((x0, x1) : List TSigned × List TSigned)
noncomputable abbrev Z64.s8 (x0 : List TSigned) (x1 : List TSigned) (v8_2 : Int) : V.St := ⟨[(0, .v false [.val (.sl V.eSigned x0)]), (1, .v false [.val (.sl V.eSigned x1)]), (5, .v false [.val (.int .i64 v8_2)])], []⟩
theorem Z64.r8 (x0 : List TSigned) (x1 : List TSigned) (R : V.St → Option Bool) (v8_2 : Int) : V.loopF Z64.E Tryz.f149.ntmps [1, 1, 0, 1, 0] [] (V.codeOf Tryz.f149) (Z64.kt x0 x1) R (Z64.s8 x0 x1 v8_2) = Z64.g8 x0 x1 (fun v8_2 => R (Z64.s8 x0 x1 v8_2)) v8_2 := by kernel_rfl
theorem Z64.e8 (x0 : List TSigned) (x1 : List TSigned) : ∀ (n : Nat) (v8_2 : Int), V.loopN (V.loopF Z64.E Tryz.f149.ntmps [1, 1, 0, 1, 0] [] (V.codeOf Tryz.f149) (Z64.kt x0 x1)) n (Z64.s8 x0 x1 v8_2) = Z64.l8 x0 x1 n v8_2 := by
  intro n
  induction n with
  | zero => intros; rw [V.loopN_z]; rfl
  | succ n ih =>
    intro v8_2
    rw [V.loopN_s, Z64.r8]
    simp only [ih]
    first | exact (Z64.u8 ..).symm | rfl
theorem Z64.v (x0 : List TSigned) (x1 : List TSigned) : V.evBody Z64.E Z64.con Tryz.f149 ((x0, x1) : List TSigned × List TSigned) = Z64.b x0 x1 (fun v8_2 => V.loopN (V.loopF Z64.E Tryz.f149.ntmps [1, 1, 0, 1, 0] [] (V.codeOf Tryz.f149) (Z64.kt x0 x1)) V.KK (Z64.s8 x0 x1 v8_2)) := by kernel_rfl
theorem Z64.eq (x0 : List TSigned) (x1 : List TSigned) : V.evBody Z64.E Z64.con Tryz.f149 ((x0, x1) : List TSigned × List TSigned) = Z64 x0 x1 := by
  rw [Z64.v]
  simp only [Z64.e8]
  rfl
theorem Z64.ok : V.Valid Tryz.prog 149 Z64.con :=
  V.fo (V.tab_cons Z93.ok V.tab_nil) Tryz.func149 (by kernel_rfl) (fun x y h => (show V.evBody Z64.E Z64.con Tryz.f149 x = _ from Z64.eq x.1 x.2).trans (V.cfl (by kernel_rfl) h))
noncomputable abbrev Z55.con : V.Con := ⟨(.cons (.sl (.cons .str .nil)) (.cons (.sl (.cons .str .nil)) .nil)), (.cons .bool .nil), fun (x : List ByteArray × List ByteArray) => Z55 x.1 x.2, [], [(false, 1), (false, 1)], [(false, 1)], [false], []⟩
noncomputable abbrev Z55.E : V.Env := V.mkE V.tys [] [(8, [0, 1, 5], [])] [(6, 8)] [] [] []
noncomputable abbrev Z55.kt (x0 : List ByteArray) (x1 : List ByteArray) : V.Kt Bool := V.ktOf Z55.E Z55.con Tryz.f299 ((x0, x1) : List ByteArray × List ByteArray)
noncomputable abbrev Z55.s8 (x0 : List ByteArray) (x1 : List ByteArray) (v8_2 : Int) : V.St := ⟨[(0, .v false [.val (.sl (.cons .str .nil) x0)]), (1, .v false [.val (.sl (.cons .str .nil) x1)]), (5, .v false [.val (.int .i64 v8_2)])], []⟩
theorem Z55.r8 (x0 : List ByteArray) (x1 : List ByteArray) (R : V.St → Option Bool) (v8_2 : Int) : V.loopF Z55.E Tryz.f299.ntmps [1, 1, 0, 1, 0] [] (V.codeOf Tryz.f299) (Z55.kt x0 x1) R (Z55.s8 x0 x1 v8_2) = Z55.g8 x0 x1 (fun v8_2 => R (Z55.s8 x0 x1 v8_2)) v8_2 := by kernel_rfl
theorem Z55.e8 (x0 : List ByteArray) (x1 : List ByteArray) : ∀ (n : Nat) (v8_2 : Int), V.loopN (V.loopF Z55.E Tryz.f299.ntmps [1, 1, 0, 1, 0] [] (V.codeOf Tryz.f299) (Z55.kt x0 x1)) n (Z55.s8 x0 x1 v8_2) = Z55.l8 x0 x1 n v8_2 := by
  intro n
  induction n with
  | zero => intros; rw [V.loopN_z]; rfl
  | succ n ih =>
    intro v8_2
    rw [V.loopN_s, Z55.r8]
    simp only [ih]
    first | exact (Z55.u8 ..).symm | rfl
theorem Z55.v (x0 : List ByteArray) (x1 : List ByteArray) : V.evBody Z55.E Z55.con Tryz.f299 ((x0, x1) : List ByteArray × List ByteArray) = Z55.b x0 x1 (fun v8_2 => V.loopN (V.loopF Z55.E Tryz.f299.ntmps [1, 1, 0, 1, 0] [] (V.codeOf Tryz.f299) (Z55.kt x0 x1)) V.KK (Z55.s8 x0 x1 v8_2)) := by kernel_rfl
theorem Z55.eq (x0 : List ByteArray) (x1 : List ByteArray) : V.evBody Z55.E Z55.con Tryz.f299 ((x0, x1) : List ByteArray × List ByteArray) = Z55 x0 x1 := by
  rw [Z55.v]
  simp only [Z55.e8]
  rfl
theorem Z55.ok : V.Valid Tryz.prog 299 Z55.con :=
  V.fo V.tab_nil Tryz.func299 (by kernel_rfl) (fun x y h => (show V.evBody Z55.E Z55.con Tryz.f299 x = _ from Z55.eq x.1 x.2).trans (V.cfl (by kernel_rfl) h))
noncomputable abbrev Z148.con : V.Con := ⟨(.cons .str (.cons (.int .i64) (.cons (.int .i64) (.cons (.sl (.cons .str .nil)) (.cons .str (.cons (.int .i64) (.cons (.int .i64) (.cons (.sl (.cons .str .nil)) .nil)))))))), (.cons .bool .nil), fun (x : ByteArray × Int × Int × List ByteArray × ByteArray × Int × Int × List ByteArray) => Z148 (x.1, x.2.1, x.2.2.1, x.2.2.2.1) x.2.2.2.2, [], [(true, 4), (true, 4)], [(false, 1)], [false], []⟩
noncomputable abbrev Z148.E : V.Env := V.mkE V.tys [(299, Z55.con)] [] [] [] [] []
theorem Z148.eq (x0 : TEntry) (x1 : TEntry) : V.evBody Z148.E Z148.con Tryz.f150 ((x0.1, x0.2.1, x0.2.2.1, x0.2.2.2, x1.1, x1.2.1, x1.2.2.1, x1.2.2.2) : ByteArray × Int × Int × List ByteArray × ByteArray × Int × Int × List ByteArray) = Z148 x0 x1 := by kernel_rfl
theorem Z148.ok : V.Valid Tryz.prog 150 Z148.con :=
  V.fo (V.tab_cons Z55.ok V.tab_nil) Tryz.func150 (by kernel_rfl) (fun x y h => (show V.evBody Z148.E Z148.con Tryz.f150 x = _ from Z148.eq (x.1, x.2.1, x.2.2.1, x.2.2.2.1) x.2.2.2.2).trans (V.cfl (by kernel_rfl) h))
noncomputable abbrev Z62.con : V.Con := ⟨(.cons (.sl V.eEntry) (.cons (.sl V.eEntry) .nil)), (.cons .bool .nil), fun (x : List TEntry × List TEntry) => Z62 x.1 x.2, [], [(false, 1), (false, 1)], [(false, 1)], [false], []⟩
noncomputable abbrev Z62.E : V.Env := V.mkE V.tys [(150, Z148.con)] [(8, [0, 1, 5], [])] [(6, 8)] [] [] []
noncomputable abbrev Z62.kt (x0 : List TEntry) (x1 : List TEntry) : V.Kt Bool := V.ktOf Z62.E Z62.con Tryz.f116 ((x0, x1) : List TEntry × List TEntry)
noncomputable abbrev Z62.s8 (x0 : List TEntry) (x1 : List TEntry) (v8_2 : Int) : V.St := ⟨[(0, .v false [.val (.sl V.eEntry x0)]), (1, .v false [.val (.sl V.eEntry x1)]), (5, .v false [.val (.int .i64 v8_2)])], []⟩
theorem Z62.r8 (x0 : List TEntry) (x1 : List TEntry) (R : V.St → Option Bool) (v8_2 : Int) : V.loopF Z62.E Tryz.f116.ntmps [1, 1, 0, 1, 0] [] (V.codeOf Tryz.f116) (Z62.kt x0 x1) R (Z62.s8 x0 x1 v8_2) = Z62.g8 x0 x1 (fun v8_2 => R (Z62.s8 x0 x1 v8_2)) v8_2 := by kernel_rfl
theorem Z62.e8 (x0 : List TEntry) (x1 : List TEntry) : ∀ (n : Nat) (v8_2 : Int), V.loopN (V.loopF Z62.E Tryz.f116.ntmps [1, 1, 0, 1, 0] [] (V.codeOf Tryz.f116) (Z62.kt x0 x1)) n (Z62.s8 x0 x1 v8_2) = Z62.l8 x0 x1 n v8_2 := by
  intro n
  induction n with
  | zero => intros; rw [V.loopN_z]; rfl
  | succ n ih =>
    intro v8_2
    rw [V.loopN_s, Z62.r8]
    simp only [ih]
    first | exact (Z62.u8 ..).symm | rfl
theorem Z62.v (x0 : List TEntry) (x1 : List TEntry) : V.evBody Z62.E Z62.con Tryz.f116 ((x0, x1) : List TEntry × List TEntry) = Z62.b x0 x1 (fun v8_2 => V.loopN (V.loopF Z62.E Tryz.f116.ntmps [1, 1, 0, 1, 0] [] (V.codeOf Tryz.f116) (Z62.kt x0 x1)) V.KK (Z62.s8 x0 x1 v8_2)) := by kernel_rfl
theorem Z62.eq (x0 : List TEntry) (x1 : List TEntry) : V.evBody Z62.E Z62.con Tryz.f116 ((x0, x1) : List TEntry × List TEntry) = Z62 x0 x1 := by
  rw [Z62.v]
  simp only [Z62.e8]
  rfl
theorem Z62.ok : V.Valid Tryz.prog 116 Z62.con :=
  V.fo (V.tab_cons Z148.ok V.tab_nil) Tryz.func116 (by kernel_rfl) (fun x y h => (show V.evBody Z62.E Z62.con Tryz.f116 x = _ from Z62.eq x.1 x.2).trans (V.cfl (by kernel_rfl) h))
noncomputable abbrev Z131.con : V.Con := ⟨(.cons (.sl V.eSigned) (.cons (.sl V.eEntry) (.cons (.sl V.eSigned) (.cons (.sl V.eEntry) .nil)))), (.cons .bool .nil), fun (x : List TSigned × List TEntry × List TSigned × List TEntry) => Z131 (x.1, x.2.1) x.2.2, [], [(true, 2), (true, 2)], [(false, 1)], [false], []⟩
noncomputable abbrev Z131.E : V.Env := V.mkE V.tys [(116, Z62.con), (149, Z64.con)] [] [] [] [] []
theorem Z131.eq (x0 : TZone) (x1 : TZone) : V.evBody Z131.E Z131.con Tryz.f115 ((x0.1, x0.2, x1.1, x1.2) : List TSigned × List TEntry × List TSigned × List TEntry) = Z131 x0 x1 := by kernel_rfl
theorem Z131.ok : V.Valid Tryz.prog 115 Z131.con :=
  V.fo (V.tab_cons Z62.ok (V.tab_cons Z64.ok V.tab_nil)) Tryz.func115 (by kernel_rfl) (fun x y h => (show V.evBody Z131.E Z131.con Tryz.f115 x = _ from Z131.eq (x.1, x.2.1) x.2.2).trans (V.cfl (by kernel_rfl) h))
noncomputable abbrev Z16.con : V.Con := ⟨(.cons (.sl (.cons (.int .i64) .nil)) (.cons (.int .i64) .nil)), (.cons (.sl (.cons (.int .i64) .nil)) (.cons (.int .i64) .nil)), fun (x : List Int × Int) => Z16 x.1 x.2, [(0, false)], [(false, 1), (false, 1)], [(false, 1)], [false], []⟩
noncomputable abbrev Z16.E : V.Env := V.mkE V.tys [] [(4, [0, 1, 5], [])] [] [] [] []
noncomputable abbrev Z16.kt (x0 : List Int) (x1 : Int) : V.Kt TKeys := V.ktOf Z16.E Z16.con Tryz.f92 ((x0, x1) : List Int × Int)
noncomputable abbrev Z16.s4 (v4_0 : Int) (v4_1 : Int) (v4_2 : List Int) : V.St := ⟨[(0, .v false [.ref 0]), (1, .v false [.val (.int .i64 v4_0)]), (5, .v false [.val (.int .i64 v4_1)])], [(0, .row (.cons (.int .i64) .nil) true v4_2)]⟩
theorem Z16.r4 (x0 : List Int) (x1 : Int) (R : V.St → Option TKeys) (v4_0 : Int) (v4_1 : Int) (v4_2 : List Int) : V.loopF Z16.E Tryz.f92.ntmps [1, 0, 1, 0] [] (V.codeOf Tryz.f92) (Z16.kt x0 x1) R (Z16.s4 v4_0 v4_1 v4_2) = Z16.g4 (fun v4_0 v4_1 v4_2 => R (Z16.s4 v4_0 v4_1 v4_2)) v4_0 v4_1 v4_2 := by kernel_rfl
theorem Z16.e4 (x0 : List Int) (x1 : Int) : ∀ (n : Nat) (v4_0 : Int) (v4_1 : Int) (v4_2 : List Int), V.loopN (V.loopF Z16.E Tryz.f92.ntmps [1, 0, 1, 0] [] (V.codeOf Tryz.f92) (Z16.kt x0 x1)) n (Z16.s4 v4_0 v4_1 v4_2) = Z16.l4 n v4_0 v4_1 v4_2 := by
  intro n
  induction n with
  | zero => intros; rw [V.loopN_z]; rfl
  | succ n ih =>
    intro v4_0 v4_1 v4_2
    rw [V.loopN_s, Z16.r4]
    simp only [ih]
    first | exact (Z16.u4 ..).symm | rfl
theorem Z16.v (x0 : List Int) (x1 : Int) : V.evBody Z16.E Z16.con Tryz.f92 ((x0, x1) : List Int × Int) = Z16.b x0 x1 (fun v4_0 v4_1 v4_2 => V.loopN (V.loopF Z16.E Tryz.f92.ntmps [1, 0, 1, 0] [] (V.codeOf Tryz.f92) (Z16.kt x0 x1)) V.KK (Z16.s4 v4_0 v4_1 v4_2)) := by kernel_rfl
theorem Z16.eq (x0 : List Int) (x1 : Int) : V.evBody Z16.E Z16.con Tryz.f92 ((x0, x1) : List Int × Int) = Z16 x0 x1 := by
  rw [Z16.v]
  simp only [Z16.e4]
  rfl
theorem Z16.ok : V.Valid Tryz.prog 92 Z16.con :=
  V.fo V.tab_nil Tryz.func92 (by kernel_rfl) (fun x y h => (show V.evBody Z16.E Z16.con Tryz.f92 x = _ from Z16.eq x.1 x.2).trans (V.cfl (by kernel_rfl) h))
noncomputable abbrev Z19.con : V.Con := ⟨(.cons (.sl (.cons (.int .i64) (.cons (.int .i64) .nil))) (.cons (.int .i64) .nil)), (.cons (.sl (.cons (.int .i64) (.cons (.int .i64) .nil))) (.cons (.int .i64) .nil)), fun (x : List TSig × Int) => Z19 x.1 x.2, [(0, false)], [(false, 1), (false, 1)], [(false, 1)], [false], []⟩
noncomputable abbrev Z19.E : V.Env := V.mkE V.tys [] [(4, [0, 1, 5], [])] [] [] [] []
noncomputable abbrev Z19.kt (x0 : List TSig) (x1 : Int) : V.Kt (List TSig × Int) := V.ktOf Z19.E Z19.con Tryz.f300 ((x0, x1) : List TSig × Int)
noncomputable abbrev Z19.s4 (v4_0 : Int) (v4_1 : Int) (v4_2 : List TSig) : V.St := ⟨[(0, .v false [.ref 0]), (1, .v false [.val (.int .i64 v4_0)]), (5, .v false [.val (.int .i64 v4_1)])], [(0, .row (.cons (.int .i64) (.cons (.int .i64) .nil)) true v4_2)]⟩
theorem Z19.r4 (x0 : List TSig) (x1 : Int) (R : V.St → Option (List TSig × Int)) (v4_0 : Int) (v4_1 : Int) (v4_2 : List TSig) : V.loopF Z19.E Tryz.f300.ntmps [1, 0, 1, 0] [] (V.codeOf Tryz.f300) (Z19.kt x0 x1) R (Z19.s4 v4_0 v4_1 v4_2) = Z19.g4 (fun v4_0 v4_1 v4_2 => R (Z19.s4 v4_0 v4_1 v4_2)) v4_0 v4_1 v4_2 := by kernel_rfl
theorem Z19.e4 (x0 : List TSig) (x1 : Int) : ∀ (n : Nat) (v4_0 : Int) (v4_1 : Int) (v4_2 : List TSig), V.loopN (V.loopF Z19.E Tryz.f300.ntmps [1, 0, 1, 0] [] (V.codeOf Tryz.f300) (Z19.kt x0 x1)) n (Z19.s4 v4_0 v4_1 v4_2) = Z19.l4 n v4_0 v4_1 v4_2 := by
  intro n
  induction n with
  | zero => intros; rw [V.loopN_z]; rfl
  | succ n ih =>
    intro v4_0 v4_1 v4_2
    rw [V.loopN_s, Z19.r4]
    simp only [ih]
    first | exact (Z19.u4 ..).symm | rfl
theorem Z19.v (x0 : List TSig) (x1 : Int) : V.evBody Z19.E Z19.con Tryz.f300 ((x0, x1) : List TSig × Int) = Z19.b x0 x1 (fun v4_0 v4_1 v4_2 => V.loopN (V.loopF Z19.E Tryz.f300.ntmps [1, 0, 1, 0] [] (V.codeOf Tryz.f300) (Z19.kt x0 x1)) V.KK (Z19.s4 v4_0 v4_1 v4_2)) := by kernel_rfl
theorem Z19.eq (x0 : List TSig) (x1 : Int) : V.evBody Z19.E Z19.con Tryz.f300 ((x0, x1) : List TSig × Int) = Z19 x0 x1 := by
  rw [Z19.v]
  simp only [Z19.e4]
  rfl
theorem Z19.ok : V.Valid Tryz.prog 300 Z19.con :=
  V.fo V.tab_nil Tryz.func300 (by kernel_rfl) (fun x y h => (show V.evBody Z19.E Z19.con Tryz.f300 x = _ from Z19.eq x.1 x.2).trans (V.cfl (by kernel_rfl) h))
noncomputable abbrev Z0.con : V.Con := ⟨(.cons (.sl V.eSigned) (.cons (.int .i64) .nil)), (.cons (.sl V.eSigned) (.cons (.int .i64) .nil)), fun (x : List TSigned × Int) => Z0 x.1 x.2, [(0, false)], [(false, 1), (false, 1)], [(false, 1)], [false], []⟩
noncomputable abbrev Z0.E : V.Env := V.mkE V.tys [(92, Z16.con), (300, Z19.con)] [(4, [0, 1, 5], [])] [] [] [] []
noncomputable abbrev Z0.kt (x0 : List TSigned) (x1 : Int) : V.Kt (List TSigned × Int) := V.ktOf Z0.E Z0.con Tryz.f155 ((x0, x1) : List TSigned × Int)
noncomputable abbrev Z0.s4 (v4_0 : Int) (v4_1 : Int) (v4_2 : List TSigned) : V.St := ⟨[(0, .v false [.ref 0]), (1, .v false [.val (.int .i64 v4_0)]), (5, .v false [.val (.int .i64 v4_1)])], [(0, .row V.eSigned true v4_2)]⟩
theorem Z0.r4 (x0 : List TSigned) (x1 : Int) (R : V.St → Option (List TSigned × Int)) (v4_0 : Int) (v4_1 : Int) (v4_2 : List TSigned) : V.loopF Z0.E Tryz.f155.ntmps [1, 0, 1, 0] [] (V.codeOf Tryz.f155) (Z0.kt x0 x1) R (Z0.s4 v4_0 v4_1 v4_2) = Z0.g4 (fun v4_0 v4_1 v4_2 => R (Z0.s4 v4_0 v4_1 v4_2)) v4_0 v4_1 v4_2 := by kernel_rfl
theorem Z0.e4 (x0 : List TSigned) (x1 : Int) : ∀ (n : Nat) (v4_0 : Int) (v4_1 : Int) (v4_2 : List TSigned), V.loopN (V.loopF Z0.E Tryz.f155.ntmps [1, 0, 1, 0] [] (V.codeOf Tryz.f155) (Z0.kt x0 x1)) n (Z0.s4 v4_0 v4_1 v4_2) = Z0.l4 n v4_0 v4_1 v4_2 := by
  intro n
  induction n with
  | zero => intros; rw [V.loopN_z]; rfl
  | succ n ih =>
    intro v4_0 v4_1 v4_2
    rw [V.loopN_s, Z0.r4]
    simp only [ih]
    first | exact (Z0.u4 ..).symm | rfl
theorem Z0.v (x0 : List TSigned) (x1 : Int) : V.evBody Z0.E Z0.con Tryz.f155 ((x0, x1) : List TSigned × Int) = Z0.b x0 x1 (fun v4_0 v4_1 v4_2 => V.loopN (V.loopF Z0.E Tryz.f155.ntmps [1, 0, 1, 0] [] (V.codeOf Tryz.f155) (Z0.kt x0 x1)) V.KK (Z0.s4 v4_0 v4_1 v4_2)) := by kernel_rfl
theorem Z0.eq (x0 : List TSigned) (x1 : Int) : V.evBody Z0.E Z0.con Tryz.f155 ((x0, x1) : List TSigned × Int) = Z0 x0 x1 := by
  rw [Z0.v]
  simp only [Z0.e4]
  rfl
theorem Z0.ok : V.Valid Tryz.prog 155 Z0.con :=
  V.fo (V.tab_cons Z16.ok (V.tab_cons Z19.ok V.tab_nil)) Tryz.func155 (by kernel_rfl) (fun x y h => (show V.evBody Z0.E Z0.con Tryz.f155 x = _ from Z0.eq x.1 x.2).trans (V.cfl (by kernel_rfl) h))
noncomputable abbrev Z13.con : V.Con := ⟨(.cons (.int .i64) .nil), (.cons .str .nil), fun (x : Int) => Z13 x, [], [(false, 1)], [(false, 1)], [false], []⟩
noncomputable abbrev Z13.E : V.Env := V.mkE V.tys [] [(8, [0, 3], [])] [] [] [] []
noncomputable abbrev Z13.kt (x0 : Int) : V.Kt ByteArray := V.ktOf Z13.E Z13.con Tryz.f163 ((x0) : Int)
noncomputable abbrev Z13.s8 (v8_0 : Int) (v8_1 : ByteArray) : V.St := ⟨[(0, .v false [.val (.int .i64 v8_0)]), (3, .v false [.val (.str v8_1)])], []⟩
theorem Z13.r8 (x0 : Int) (R : V.St → Option ByteArray) (v8_0 : Int) (v8_1 : ByteArray) : V.loopF Z13.E Tryz.f163.ntmps [1, 1, 1, 0, 0] [] (V.codeOf Tryz.f163) (Z13.kt x0) R (Z13.s8 v8_0 v8_1) = Z13.g8 (fun v8_0 v8_1 => R (Z13.s8 v8_0 v8_1)) v8_0 v8_1 := by kernel_rfl
theorem Z13.e8 (x0 : Int) : ∀ (n : Nat) (v8_0 : Int) (v8_1 : ByteArray), V.loopN (V.loopF Z13.E Tryz.f163.ntmps [1, 1, 1, 0, 0] [] (V.codeOf Tryz.f163) (Z13.kt x0)) n (Z13.s8 v8_0 v8_1) = Z13.l8 n v8_0 v8_1 := by
  intro n
  induction n with
  | zero => intros; rw [V.loopN_z]; rfl
  | succ n ih =>
    intro v8_0 v8_1
    rw [V.loopN_s, Z13.r8]
    simp only [ih]
    first | exact (Z13.u8 ..).symm | rfl
theorem Z13.v (x0 : Int) : V.evBody Z13.E Z13.con Tryz.f163 ((x0) : Int) = Z13.b x0 (fun v8_0 v8_1 => V.loopN (V.loopF Z13.E Tryz.f163.ntmps [1, 1, 1, 0, 0] [] (V.codeOf Tryz.f163) (Z13.kt x0)) V.KK (Z13.s8 v8_0 v8_1)) := by kernel_rfl
theorem Z13.eq (x0 : Int) : V.evBody Z13.E Z13.con Tryz.f163 ((x0) : Int) = Z13 x0 := by
  rw [Z13.v]
  simp only [Z13.e8]
  rfl
theorem Z13.ok : V.Valid Tryz.prog 163 Z13.con :=
  V.fo V.tab_nil Tryz.func163 (by kernel_rfl) (fun x y h => (show V.evBody Z13.E Z13.con Tryz.f163 x = _ from Z13.eq x).trans (V.cfl (by kernel_rfl) h))
noncomputable abbrev Z42.con : V.Con := ⟨(.cons (.sl (.cons .str .nil)) (.cons (.int .i64) .nil)), (.cons (.sl (.cons .str .nil)) (.cons (.int .i64) .nil)), fun (x : List ByteArray × Int) => Z42 x.1 x.2, [(0, false)], [(false, 1), (false, 1)], [(false, 1)], [false], []⟩
noncomputable abbrev Z42.E : V.Env := V.mkE V.tys [(163, Z13.con)] [(4, [0, 1, 5], [])] [] [] [] []
noncomputable abbrev Z42.kt (x0 : List ByteArray) (x1 : Int) : V.Kt (List ByteArray × Int) := V.ktOf Z42.E Z42.con Tryz.f164 ((x0, x1) : List ByteArray × Int)
noncomputable abbrev Z42.s4 (v4_0 : Int) (v4_1 : Int) (v4_2 : List ByteArray) : V.St := ⟨[(0, .v false [.ref 0]), (1, .v false [.val (.int .i64 v4_0)]), (5, .v false [.val (.int .i64 v4_1)])], [(0, .row (.cons .str .nil) true v4_2)]⟩
theorem Z42.r4 (x0 : List ByteArray) (x1 : Int) (R : V.St → Option (List ByteArray × Int)) (v4_0 : Int) (v4_1 : Int) (v4_2 : List ByteArray) : V.loopF Z42.E Tryz.f164.ntmps [1, 0, 1, 0] [] (V.codeOf Tryz.f164) (Z42.kt x0 x1) R (Z42.s4 v4_0 v4_1 v4_2) = Z42.g4 (fun v4_0 v4_1 v4_2 => R (Z42.s4 v4_0 v4_1 v4_2)) v4_0 v4_1 v4_2 := by kernel_rfl
theorem Z42.e4 (x0 : List ByteArray) (x1 : Int) : ∀ (n : Nat) (v4_0 : Int) (v4_1 : Int) (v4_2 : List ByteArray), V.loopN (V.loopF Z42.E Tryz.f164.ntmps [1, 0, 1, 0] [] (V.codeOf Tryz.f164) (Z42.kt x0 x1)) n (Z42.s4 v4_0 v4_1 v4_2) = Z42.l4 n v4_0 v4_1 v4_2 := by
  intro n
  induction n with
  | zero => intros; rw [V.loopN_z]; rfl
  | succ n ih =>
    intro v4_0 v4_1 v4_2
    rw [V.loopN_s, Z42.r4]
    simp only [ih]
    first | exact (Z42.u4 ..).symm | rfl
theorem Z42.v (x0 : List ByteArray) (x1 : Int) : V.evBody Z42.E Z42.con Tryz.f164 ((x0, x1) : List ByteArray × Int) = Z42.b x0 x1 (fun v4_0 v4_1 v4_2 => V.loopN (V.loopF Z42.E Tryz.f164.ntmps [1, 0, 1, 0] [] (V.codeOf Tryz.f164) (Z42.kt x0 x1)) V.KK (Z42.s4 v4_0 v4_1 v4_2)) := by kernel_rfl
theorem Z42.eq (x0 : List ByteArray) (x1 : Int) : V.evBody Z42.E Z42.con Tryz.f164 ((x0, x1) : List ByteArray × Int) = Z42 x0 x1 := by
  rw [Z42.v]
  simp only [Z42.e4]
  rfl
theorem Z42.ok : V.Valid Tryz.prog 164 Z42.con :=
  V.fo (V.tab_cons Z13.ok V.tab_nil) Tryz.func164 (by kernel_rfl) (fun x y h => (show V.evBody Z42.E Z42.con Tryz.f164 x = _ from Z42.eq x.1 x.2).trans (V.cfl (by kernel_rfl) h))
noncomputable abbrev Z11.con : V.Con := ⟨(.cons (.sl V.eEntry) (.cons (.int .i64) .nil)), (.cons (.sl V.eEntry) (.cons (.int .i64) .nil)), fun (x : List TEntry × Int) => Z11 x.1 x.2, [(0, false)], [(false, 1), (false, 1)], [(false, 1)], [false], []⟩
noncomputable abbrev Z11.E : V.Env := V.mkE V.tys [(163, Z13.con), (164, Z42.con)] [(4, [0, 1, 5], [])] [] [] [] []
noncomputable abbrev Z11.kt (x0 : List TEntry) (x1 : Int) : V.Kt (List TEntry × Int) := V.ktOf Z11.E Z11.con Tryz.f118 ((x0, x1) : List TEntry × Int)
noncomputable abbrev Z11.s4 (v4_0 : Int) (v4_1 : Int) (v4_2 : List TEntry) : V.St := ⟨[(0, .v false [.ref 0]), (1, .v false [.val (.int .i64 v4_0)]), (5, .v false [.val (.int .i64 v4_1)])], [(0, .row V.eEntry true v4_2)]⟩
theorem Z11.r4 (x0 : List TEntry) (x1 : Int) (R : V.St → Option (List TEntry × Int)) (v4_0 : Int) (v4_1 : Int) (v4_2 : List TEntry) : V.loopF Z11.E Tryz.f118.ntmps [1, 0, 1, 0] [] (V.codeOf Tryz.f118) (Z11.kt x0 x1) R (Z11.s4 v4_0 v4_1 v4_2) = Z11.g4 (fun v4_0 v4_1 v4_2 => R (Z11.s4 v4_0 v4_1 v4_2)) v4_0 v4_1 v4_2 := by kernel_rfl
theorem Z11.e4 (x0 : List TEntry) (x1 : Int) : ∀ (n : Nat) (v4_0 : Int) (v4_1 : Int) (v4_2 : List TEntry), V.loopN (V.loopF Z11.E Tryz.f118.ntmps [1, 0, 1, 0] [] (V.codeOf Tryz.f118) (Z11.kt x0 x1)) n (Z11.s4 v4_0 v4_1 v4_2) = Z11.l4 n v4_0 v4_1 v4_2 := by
  intro n
  induction n with
  | zero => intros; rw [V.loopN_z]; rfl
  | succ n ih =>
    intro v4_0 v4_1 v4_2
    rw [V.loopN_s, Z11.r4]
    simp only [ih]
    first | exact (Z11.u4 ..).symm | rfl
theorem Z11.v (x0 : List TEntry) (x1 : Int) : V.evBody Z11.E Z11.con Tryz.f118 ((x0, x1) : List TEntry × Int) = Z11.b x0 x1 (fun v4_0 v4_1 v4_2 => V.loopN (V.loopF Z11.E Tryz.f118.ntmps [1, 0, 1, 0] [] (V.codeOf Tryz.f118) (Z11.kt x0 x1)) V.KK (Z11.s4 v4_0 v4_1 v4_2)) := by kernel_rfl
theorem Z11.eq (x0 : List TEntry) (x1 : Int) : V.evBody Z11.E Z11.con Tryz.f118 ((x0, x1) : List TEntry × Int) = Z11 x0 x1 := by
  rw [Z11.v]
  simp only [Z11.e4]
  rfl
theorem Z11.ok : V.Valid Tryz.prog 118 Z11.con :=
  V.fo (V.tab_cons Z13.ok (V.tab_cons Z42.ok V.tab_nil)) Tryz.func118 (by kernel_rfl) (fun x y h => (show V.evBody Z11.E Z11.con Tryz.f118 x = _ from Z11.eq x.1 x.2).trans (V.cfl (by kernel_rfl) h))
noncomputable abbrev Z151.con : V.Con := ⟨(.cons (.sl V.eSigned) (.cons (.sl V.eEntry) (.cons (.int .i64) .nil))), (.cons (.sl V.eSigned) (.cons (.sl V.eEntry) (.cons (.int .i64) .nil))), fun (x : List TSigned × List TEntry × Int) => Z151 (x.1, x.2.1) x.2.2, [(0, false), (1, false)], [(true, 2), (false, 1)], [(false, 1)], [false], []⟩
noncomputable abbrev Z151.E : V.Env := V.mkE V.tys [(118, Z11.con), (155, Z0.con)] [] [] [] [] []
theorem Z151.eq (x0 : TZone) (x1 : Int) : V.evBody Z151.E Z151.con Tryz.f117 ((x0.1, x0.2, x1) : List TSigned × List TEntry × Int) = Z151 x0 x1 := by kernel_rfl
theorem Z151.ok : V.Valid Tryz.prog 117 Z151.con :=
  V.fo (V.tab_cons Z11.ok (V.tab_cons Z0.ok V.tab_nil)) Tryz.func117 (by kernel_rfl) (fun x y h => (show V.evBody Z151.E Z151.con Tryz.f117 x = _ from Z151.eq (x.1, x.2.1) x.2.2).trans (V.cfl (by kernel_rfl) h))
noncomputable abbrev Z24.con : V.Con := ⟨(.cons (.sl (.cons (.int .i64) .nil)) (.cons (.int .i64) .nil)), (.cons (.int .i64) .nil), fun (x : List Int × Int) => Z24 x.1 x.2, [], [(false, 1), (false, 1)], [(false, 1)], [false], []⟩
noncomputable abbrev Z24.E : V.Env := V.mkE V.tys [] [(4, [0, 1, 5], [])] [] [] [] []
noncomputable abbrev Z24.kt (x0 : List Int) (x1 : Int) : V.Kt Int := V.ktOf Z24.E Z24.con Tryz.f93 ((x0, x1) : List Int × Int)
noncomputable abbrev Z24.s4 (x0 : List Int) (v4_1 : Int) (v4_2 : Int) : V.St := ⟨[(0, .v false [.val (.sl (.cons (.int .i64) .nil) x0)]), (1, .v false [.val (.int .i64 v4_1)]), (5, .v false [.val (.int .i64 v4_2)])], []⟩
theorem Z24.r4 (x0 : List Int) (x1 : Int) (R : V.St → Option Int) (v4_1 : Int) (v4_2 : Int) : V.loopF Z24.E Tryz.f93.ntmps [1, 0, 1, 0] [] (V.codeOf Tryz.f93) (Z24.kt x0 x1) R (Z24.s4 x0 v4_1 v4_2) = Z24.g4 x0 (fun v4_1 v4_2 => R (Z24.s4 x0 v4_1 v4_2)) v4_1 v4_2 := by kernel_rfl
theorem Z24.e4 (x0 : List Int) (x1 : Int) : ∀ (n : Nat) (v4_1 : Int) (v4_2 : Int), V.loopN (V.loopF Z24.E Tryz.f93.ntmps [1, 0, 1, 0] [] (V.codeOf Tryz.f93) (Z24.kt x0 x1)) n (Z24.s4 x0 v4_1 v4_2) = Z24.l4 x0 n v4_1 v4_2 := by
  intro n
  induction n with
  | zero => intros; rw [V.loopN_z]; rfl
  | succ n ih =>
    intro v4_1 v4_2
    rw [V.loopN_s, Z24.r4]
    simp only [ih]
    first | exact (Z24.u4 ..).symm | rfl
theorem Z24.v (x0 : List Int) (x1 : Int) : V.evBody Z24.E Z24.con Tryz.f93 ((x0, x1) : List Int × Int) = Z24.b x0 x1 (fun v4_1 v4_2 => V.loopN (V.loopF Z24.E Tryz.f93.ntmps [1, 0, 1, 0] [] (V.codeOf Tryz.f93) (Z24.kt x0 x1)) V.KK (Z24.s4 x0 v4_1 v4_2)) := by kernel_rfl
theorem Z24.eq (x0 : List Int) (x1 : Int) : V.evBody Z24.E Z24.con Tryz.f93 ((x0, x1) : List Int × Int) = Z24 x0 x1 := by
  rw [Z24.v]
  simp only [Z24.e4]
  rfl
theorem Z24.ok : V.Valid Tryz.prog 93 Z24.con :=
  V.fo V.tab_nil Tryz.func93 (by kernel_rfl) (fun x y h => (show V.evBody Z24.E Z24.con Tryz.f93 x = _ from Z24.eq x.1 x.2).trans (V.cfl (by kernel_rfl) h))
noncomputable abbrev Z39.con : V.Con := ⟨(.cons (.sl (.cons (.int .i64) (.cons (.int .i64) .nil))) (.cons (.int .i64) .nil)), (.cons (.int .i64) .nil), fun (x : List TSig × Int) => Z39 x.1 x.2, [], [(false, 1), (false, 1)], [(false, 1)], [false], []⟩
noncomputable abbrev Z39.E : V.Env := V.mkE V.tys [] [(4, [0, 1, 5], [])] [] [] [] []
noncomputable abbrev Z39.kt (x0 : List TSig) (x1 : Int) : V.Kt Int := V.ktOf Z39.E Z39.con Tryz.f301 ((x0, x1) : List TSig × Int)
noncomputable abbrev Z39.s4 (x0 : List TSig) (v4_1 : Int) (v4_2 : Int) : V.St := ⟨[(0, .v false [.val (.sl (.cons (.int .i64) (.cons (.int .i64) .nil)) x0)]), (1, .v false [.val (.int .i64 v4_1)]), (5, .v false [.val (.int .i64 v4_2)])], []⟩
theorem Z39.r4 (x0 : List TSig) (x1 : Int) (R : V.St → Option Int) (v4_1 : Int) (v4_2 : Int) : V.loopF Z39.E Tryz.f301.ntmps [1, 0, 1, 0] [] (V.codeOf Tryz.f301) (Z39.kt x0 x1) R (Z39.s4 x0 v4_1 v4_2) = Z39.g4 x0 (fun v4_1 v4_2 => R (Z39.s4 x0 v4_1 v4_2)) v4_1 v4_2 := by kernel_rfl
theorem Z39.e4 (x0 : List TSig) (x1 : Int) : ∀ (n : Nat) (v4_1 : Int) (v4_2 : Int), V.loopN (V.loopF Z39.E Tryz.f301.ntmps [1, 0, 1, 0] [] (V.codeOf Tryz.f301) (Z39.kt x0 x1)) n (Z39.s4 x0 v4_1 v4_2) = Z39.l4 x0 n v4_1 v4_2 := by
  intro n
  induction n with
  | zero => intros; rw [V.loopN_z]; rfl
  | succ n ih =>
    intro v4_1 v4_2
    rw [V.loopN_s, Z39.r4]
    simp only [ih]
    first | exact (Z39.u4 ..).symm | rfl
theorem Z39.v (x0 : List TSig) (x1 : Int) : V.evBody Z39.E Z39.con Tryz.f301 ((x0, x1) : List TSig × Int) = Z39.b x0 x1 (fun v4_1 v4_2 => V.loopN (V.loopF Z39.E Tryz.f301.ntmps [1, 0, 1, 0] [] (V.codeOf Tryz.f301) (Z39.kt x0 x1)) V.KK (Z39.s4 x0 v4_1 v4_2)) := by kernel_rfl
theorem Z39.eq (x0 : List TSig) (x1 : Int) : V.evBody Z39.E Z39.con Tryz.f301 ((x0, x1) : List TSig × Int) = Z39 x0 x1 := by
  rw [Z39.v]
  simp only [Z39.e4]
  rfl
theorem Z39.ok : V.Valid Tryz.prog 301 Z39.con :=
  V.fo V.tab_nil Tryz.func301 (by kernel_rfl) (fun x y h => (show V.evBody Z39.E Z39.con Tryz.f301 x = _ from Z39.eq x.1 x.2).trans (V.cfl (by kernel_rfl) h))
noncomputable abbrev Z40.con : V.Con := ⟨(.cons (.sl V.eSigned) (.cons (.int .i64) .nil)), (.cons (.int .i64) .nil), fun (x : List TSigned × Int) => Z40 x.1 x.2, [], [(false, 1), (false, 1)], [(false, 1)], [false], []⟩
noncomputable abbrev Z40.E : V.Env := V.mkE V.tys [(93, Z24.con), (301, Z39.con)] [(4, [0, 1, 5], [])] [] [] [] []
noncomputable abbrev Z40.kt (x0 : List TSigned) (x1 : Int) : V.Kt Int := V.ktOf Z40.E Z40.con Tryz.f159 ((x0, x1) : List TSigned × Int)
noncomputable abbrev Z40.s4 (x0 : List TSigned) (v4_1 : Int) (v4_2 : Int) : V.St := ⟨[(0, .v false [.val (.sl V.eSigned x0)]), (1, .v false [.val (.int .i64 v4_1)]), (5, .v false [.val (.int .i64 v4_2)])], []⟩
theorem Z40.r4 (x0 : List TSigned) (x1 : Int) (R : V.St → Option Int) (v4_1 : Int) (v4_2 : Int) : V.loopF Z40.E Tryz.f159.ntmps [1, 0, 1, 0] [] (V.codeOf Tryz.f159) (Z40.kt x0 x1) R (Z40.s4 x0 v4_1 v4_2) = Z40.g4 x0 (fun v4_1 v4_2 => R (Z40.s4 x0 v4_1 v4_2)) v4_1 v4_2 := by kernel_rfl
theorem Z40.e4 (x0 : List TSigned) (x1 : Int) : ∀ (n : Nat) (v4_1 : Int) (v4_2 : Int), V.loopN (V.loopF Z40.E Tryz.f159.ntmps [1, 0, 1, 0] [] (V.codeOf Tryz.f159) (Z40.kt x0 x1)) n (Z40.s4 x0 v4_1 v4_2) = Z40.l4 x0 n v4_1 v4_2 := by
  intro n
  induction n with
  | zero => intros; rw [V.loopN_z]; rfl
  | succ n ih =>
    intro v4_1 v4_2
    rw [V.loopN_s, Z40.r4]
    simp only [ih]
    first | exact (Z40.u4 ..).symm | rfl
theorem Z40.v (x0 : List TSigned) (x1 : Int) : V.evBody Z40.E Z40.con Tryz.f159 ((x0, x1) : List TSigned × Int) = Z40.b x0 x1 (fun v4_1 v4_2 => V.loopN (V.loopF Z40.E Tryz.f159.ntmps [1, 0, 1, 0] [] (V.codeOf Tryz.f159) (Z40.kt x0 x1)) V.KK (Z40.s4 x0 v4_1 v4_2)) := by kernel_rfl
theorem Z40.eq (x0 : List TSigned) (x1 : Int) : V.evBody Z40.E Z40.con Tryz.f159 ((x0, x1) : List TSigned × Int) = Z40 x0 x1 := by
  rw [Z40.v]
  simp only [Z40.e4]
  rfl
theorem Z40.ok : V.Valid Tryz.prog 159 Z40.con :=
  V.fo (V.tab_cons Z24.ok (V.tab_cons Z39.ok V.tab_nil)) Tryz.func159 (by kernel_rfl) (fun x y h => (show V.evBody Z40.E Z40.con Tryz.f159 x = _ from Z40.eq x.1 x.2).trans (V.cfl (by kernel_rfl) h))
noncomputable abbrev Z41.con : V.Con := ⟨(.cons (.sl (.cons .str .nil)) (.cons (.int .i64) .nil)), (.cons (.int .i64) .nil), fun (x : List ByteArray × Int) => Z41 x.1 x.2, [], [(false, 1), (false, 1)], [(false, 1)], [false], []⟩
noncomputable abbrev Z41.E : V.Env := V.mkE V.tys [(163, Z13.con)] [(4, [0, 1, 5], [])] [(4, 6)] [] [] []
noncomputable abbrev Z41.kt (x0 : List ByteArray) (x1 : Int) : V.Kt Int := V.ktOf Z41.E Z41.con Tryz.f165 ((x0, x1) : List ByteArray × Int)
noncomputable abbrev Z41.s4 (x0 : List ByteArray) (v4_1 : Int) (v4_2 : Int) : V.St := ⟨[(0, .v false [.val (.sl (.cons .str .nil) x0)]), (1, .v false [.val (.int .i64 v4_1)]), (5, .v false [.val (.int .i64 v4_2)])], []⟩
theorem Z41.r4 (x0 : List ByteArray) (x1 : Int) (R : V.St → Option Int) (v4_1 : Int) (v4_2 : Int) : V.loopF Z41.E Tryz.f165.ntmps [1, 0, 1, 0] [] (V.codeOf Tryz.f165) (Z41.kt x0 x1) R (Z41.s4 x0 v4_1 v4_2) = Z41.g4 x0 (fun v4_1 v4_2 => R (Z41.s4 x0 v4_1 v4_2)) v4_1 v4_2 := by kernel_rfl
theorem Z41.e4 (x0 : List ByteArray) (x1 : Int) : ∀ (n : Nat) (v4_1 : Int) (v4_2 : Int), V.loopN (V.loopF Z41.E Tryz.f165.ntmps [1, 0, 1, 0] [] (V.codeOf Tryz.f165) (Z41.kt x0 x1)) n (Z41.s4 x0 v4_1 v4_2) = Z41.l4 x0 n v4_1 v4_2 := by
  intro n
  induction n with
  | zero => intros; rw [V.loopN_z]; rfl
  | succ n ih =>
    intro v4_1 v4_2
    rw [V.loopN_s, Z41.r4]
    simp only [ih]
    first | exact (Z41.u4 ..).symm | rfl
theorem Z41.v (x0 : List ByteArray) (x1 : Int) : V.evBody Z41.E Z41.con Tryz.f165 ((x0, x1) : List ByteArray × Int) = Z41.b x0 x1 (fun v4_1 v4_2 => V.loopN (V.loopF Z41.E Tryz.f165.ntmps [1, 0, 1, 0] [] (V.codeOf Tryz.f165) (Z41.kt x0 x1)) V.KK (Z41.s4 x0 v4_1 v4_2)) := by kernel_rfl
theorem Z41.eq (x0 : List ByteArray) (x1 : Int) : V.evBody Z41.E Z41.con Tryz.f165 ((x0, x1) : List ByteArray × Int) = Z41 x0 x1 := by
  rw [Z41.v]
  simp only [Z41.e4]
  rfl
theorem Z41.ok : V.Valid Tryz.prog 165 Z41.con :=
  V.fo (V.tab_cons Z13.ok V.tab_nil) Tryz.func165 (by kernel_rfl) (fun x y h => (show V.evBody Z41.E Z41.con Tryz.f165 x = _ from Z41.eq x.1 x.2).trans (V.cfl (by kernel_rfl) h))
noncomputable abbrev Z38.con : V.Con := ⟨(.cons (.sl V.eEntry) (.cons (.int .i64) .nil)), (.cons (.int .i64) .nil), fun (x : List TEntry × Int) => Z38 x.1 x.2, [], [(false, 1), (false, 1)], [(false, 1)], [false], []⟩
noncomputable abbrev Z38.E : V.Env := V.mkE V.tys [(163, Z13.con), (165, Z41.con)] [(4, [0, 1, 5], [])] [(4, 7)] [] [] []
noncomputable abbrev Z38.kt (x0 : List TEntry) (x1 : Int) : V.Kt Int := V.ktOf Z38.E Z38.con Tryz.f268 ((x0, x1) : List TEntry × Int)
noncomputable abbrev Z38.s4 (x0 : List TEntry) (v4_1 : Int) (v4_2 : Int) : V.St := ⟨[(0, .v false [.val (.sl V.eEntry x0)]), (1, .v false [.val (.int .i64 v4_1)]), (5, .v false [.val (.int .i64 v4_2)])], []⟩
theorem Z38.r4 (x0 : List TEntry) (x1 : Int) (R : V.St → Option Int) (v4_1 : Int) (v4_2 : Int) : V.loopF Z38.E Tryz.f268.ntmps [1, 0, 1, 0] [] (V.codeOf Tryz.f268) (Z38.kt x0 x1) R (Z38.s4 x0 v4_1 v4_2) = Z38.g4 x0 (fun v4_1 v4_2 => R (Z38.s4 x0 v4_1 v4_2)) v4_1 v4_2 := by kernel_rfl
theorem Z38.e4 (x0 : List TEntry) (x1 : Int) : ∀ (n : Nat) (v4_1 : Int) (v4_2 : Int), V.loopN (V.loopF Z38.E Tryz.f268.ntmps [1, 0, 1, 0] [] (V.codeOf Tryz.f268) (Z38.kt x0 x1)) n (Z38.s4 x0 v4_1 v4_2) = Z38.l4 x0 n v4_1 v4_2 := by
  intro n
  induction n with
  | zero => intros; rw [V.loopN_z]; rfl
  | succ n ih =>
    intro v4_1 v4_2
    rw [V.loopN_s, Z38.r4]
    simp only [ih]
    first | exact (Z38.u4 ..).symm | rfl
theorem Z38.v (x0 : List TEntry) (x1 : Int) : V.evBody Z38.E Z38.con Tryz.f268 ((x0, x1) : List TEntry × Int) = Z38.b x0 x1 (fun v4_1 v4_2 => V.loopN (V.loopF Z38.E Tryz.f268.ntmps [1, 0, 1, 0] [] (V.codeOf Tryz.f268) (Z38.kt x0 x1)) V.KK (Z38.s4 x0 v4_1 v4_2)) := by kernel_rfl
theorem Z38.eq (x0 : List TEntry) (x1 : Int) : V.evBody Z38.E Z38.con Tryz.f268 ((x0, x1) : List TEntry × Int) = Z38 x0 x1 := by
  rw [Z38.v]
  simp only [Z38.e4]
  rfl
theorem Z38.ok : V.Valid Tryz.prog 268 Z38.con :=
  V.fo (V.tab_cons Z13.ok (V.tab_cons Z41.ok V.tab_nil)) Tryz.func268 (by kernel_rfl) (fun x y h => (show V.evBody Z38.E Z38.con Tryz.f268 x = _ from Z38.eq x.1 x.2).trans (V.cfl (by kernel_rfl) h))
noncomputable abbrev Z150.con : V.Con := ⟨(.cons (.sl V.eSigned) (.cons (.sl V.eEntry) (.cons (.int .i64) .nil))), (.cons (.int .i64) .nil), fun (x : List TSigned × List TEntry × Int) => Z150 (x.1, x.2.1) x.2.2, [], [(true, 2), (false, 1)], [(false, 1)], [false], []⟩
noncomputable abbrev Z150.E : V.Env := V.mkE V.tys [(159, Z40.con), (268, Z38.con)] [] [] [] [] []
theorem Z150.eq (x0 : TZone) (x1 : Int) : V.evBody Z150.E Z150.con Tryz.f119 ((x0.1, x0.2, x1) : List TSigned × List TEntry × Int) = Z150 x0 x1 := by kernel_rfl
theorem Z150.ok : V.Valid Tryz.prog 119 Z150.con :=
  V.fo (V.tab_cons Z40.ok (V.tab_cons Z38.ok V.tab_nil)) Tryz.func119 (by kernel_rfl) (fun x y h => (show V.evBody Z150.E Z150.con Tryz.f119 x = _ from Z150.eq (x.1, x.2.1) x.2.2).trans (V.cfl (by kernel_rfl) h))
noncomputable abbrev Z5.con : V.Con := ⟨(.cons (.sl V.eSigned) (.cons (.sl V.eEntry) (.cons (.sl (.cons (.int .i64) .nil)) (.cons (.int .i64) (.cons (.int .i64) .nil))))), (.cons .bool .nil), fun (x : List TSigned × List TEntry × List Int × Int × Int) => Z5 (x.1, x.2.1) x.2.2.1 x.2.2.2.1 x.2.2.2.2, [], [(true, 2), (false, 1), (false, 1), (false, 1)], [(false, 1)], [false], []⟩
noncomputable abbrev Z5.E : V.Env := V.mkE V.tys [(89, Z37.con), (92, Z16.con), (105, Z138.con), (110, Z170.con), (112, Z132.con), (113, Z20.con), (115, Z131.con), (117, Z151.con), (119, Z150.con), (120, Z155.con)] [(27, [1, 2, 3, 4, 10, 11, 12, 13, 14, 15], []), (45, [1, 2, 3, 4, 10, 11, 14], []), (67, [14, 17], [])] [(13, 3)] [] [] []
noncomputable abbrev Z5.kt (x0 : TZone) (x1 : List Int) (x2 : Int) (x3 : Int) : V.Kt Bool := V.ktOf Z5.E Z5.con Tryz.f11 ((x0.1, x0.2, x1, x2, x3) : List TSigned × List TEntry × List Int × Int × Int)
noncomputable abbrev Z5.s67 (y16 : TRZoneInt) : V.St := ⟨[(14, .v false [.ptr 704512 0]), (17, .v false [.val (.int .i64 y16.2.2)])], [(704512, .box [.ref 64000000000045088768, .ref 64000000000045088769]), (64000000000045088768, .row V.eSigned true y16.1), (64000000000045088769, .row V.eEntry true y16.2.1)]⟩
noncomputable abbrev Z5.s45 (x0 : TZone) (x1 : List Int) (x2 : Int) (x3 : Int) (y4 : TRZoneInt) (y7 : TRZoneInt) : V.St := ⟨[(1, .v false [.val (.sl (.cons (.int .i64) .nil) x1)]), (2, .v false [.val (.int .i64 x2)]), (3, .v false [.val (.int .i64 x3)]), (4, .v false [.ptr 64000 0]), (10, .v false [.ptr 512640 0]), (11, .v false [.val (.int .i64 y4.2.2)]), (14, .v false [.ptr 704512 0])], [(64000, .box [.val (.sl V.eSigned x0.1), .val (.sl V.eEntry x0.2)]), (512640, .box [.ref 64000000000032808960, .ref 64000000000032808961]), (64000000000032808960, .row V.eSigned true y4.1), (64000000000032808961, .row V.eEntry true y4.2.1), (704512, .box [.ref 64000000000045088768, .ref 64000000000045088769]), (64000000000045088768, .row V.eSigned true y7.1), (64000000000045088769, .row V.eEntry true y7.2.1)]⟩
noncomputable abbrev Z5.s27 (x0 : TZone) (x1 : List Int) (x2 : Int) (x3 : Int) (y4 : TRZoneInt) (y5 : TZone) (y6 : List Int) (y7 : TRZoneInt) : V.St := ⟨[(1, .v false [.val (.sl (.cons (.int .i64) .nil) x1)]), (2, .v false [.val (.int .i64 x2)]), (3, .v false [.val (.int .i64 x3)]), (4, .v false [.ptr 64000 0]), (10, .v false [.ptr 512640 0]), (11, .v false [.val (.int .i64 y4.2.2)]), (12, .v false [.ptr 576128 0]), (13, .v false [.ref 64000172800832]), (14, .v false [.ptr 704512 0]), (15, .v false [.val (.int .i64 y7.2.2)])], [(64000, .box [.val (.sl V.eSigned x0.1), .val (.sl V.eEntry x0.2)]), (512640, .box [.ref 64000000000032808960, .ref 64000000000032808961]), (64000000000032808960, .row V.eSigned true y4.1), (64000000000032808961, .row V.eEntry true y4.2.1), (576128, .box [.ref 64000000000036872192, .ref 64000000000036872193]), (64000000000036872192, .row V.eSigned true y5.1), (64000000000036872193, .row V.eEntry true y5.2), (64000172800832, .row (.cons (.int .i64) .nil) true y6), (704512, .box [.ref 64000000000045088768, .ref 64000000000045088769]), (64000000000045088768, .row V.eSigned true y7.1), (64000000000045088769, .row V.eEntry true y7.2.1)]⟩
theorem Z5.r67 (x0 : TZone) (x1 : List Int) (x2 : Int) (x3 : Int) (y16 : TRZoneInt) : V.joinF Z5.E Tryz.f11.ntmps [1, 1, 1, 1, 1, 1, 1, 1, 1, 1, 1, 1, 1, 1, 1, 1, 1, 1, 1, 1, 1, 1, 1] [] (V.codeOf Tryz.f11) (Z5.kt x0 x1 x2 x3) (Z5.s67 y16) = Z5.g67 y16 := by kernel_rfl
theorem Z5.e67 (x0 : TZone) (x1 : List Int) (x2 : Int) (x3 : Int) (y16 : TRZoneInt) : V.jn (V.joinF Z5.E Tryz.f11.ntmps [1, 1, 1, 1, 1, 1, 1, 1, 1, 1, 1, 1, 1, 1, 1, 1, 1, 1, 1, 1, 1, 1, 1] [] (V.codeOf Tryz.f11) (Z5.kt x0 x1 x2 x3)) (Z5.s67 y16) = Z5.l67 y16 := by
  rw [V.jn_eq, Z5.r67]
  rfl
theorem Z5.r45 (x0 : TZone) (x1 : List Int) (x2 : Int) (x3 : Int) (y4 : TRZoneInt) (y7 : TRZoneInt) : V.joinF Z5.E Tryz.f11.ntmps [1, 1, 1, 1, 1, 1, 1, 1, 1, 1, 1, 1, 1, 1, 1] [] (V.codeOf Tryz.f11) (Z5.kt x0 x1 x2 x3) (Z5.s45 x0 x1 x2 x3 y4 y7) = Z5.g45 x0 x1 x2 x3 y4 y7 (fun y16 => V.jn (V.joinF Z5.E Tryz.f11.ntmps [1, 1, 1, 1, 1, 1, 1, 1, 1, 1, 1, 1, 1, 1, 1, 1, 1, 1, 1, 1, 1, 1, 1] [] (V.codeOf Tryz.f11) (Z5.kt x0 x1 x2 x3)) (Z5.s67 y16)) := by kernel_rfl
theorem Z5.e45 (x0 : TZone) (x1 : List Int) (x2 : Int) (x3 : Int) (y4 : TRZoneInt) (y7 : TRZoneInt) : V.jn (V.joinF Z5.E Tryz.f11.ntmps [1, 1, 1, 1, 1, 1, 1, 1, 1, 1, 1, 1, 1, 1, 1] [] (V.codeOf Tryz.f11) (Z5.kt x0 x1 x2 x3)) (Z5.s45 x0 x1 x2 x3 y4 y7) = Z5.l45 x0 x1 x2 x3 y4 y7 := by
  rw [V.jn_eq, Z5.r45]
  simp only [Z5.e67]
  rfl
theorem Z5.r27 (x0 : TZone) (x1 : List Int) (x2 : Int) (x3 : Int) (y4 : TRZoneInt) (y5 : TZone) (y6 : List Int) (y7 : TRZoneInt) : V.joinF Z5.E Tryz.f11.ntmps [1, 1, 1, 1, 1, 1, 1, 1, 1] [] (V.codeOf Tryz.f11) (Z5.kt x0 x1 x2 x3) (Z5.s27 x0 x1 x2 x3 y4 y5 y6 y7) = Z5.g27 x0 x1 x2 x3 y4 y5 y6 y7 (fun y4 y7 => V.jn (V.joinF Z5.E Tryz.f11.ntmps [1, 1, 1, 1, 1, 1, 1, 1, 1, 1, 1, 1, 1, 1, 1] [] (V.codeOf Tryz.f11) (Z5.kt x0 x1 x2 x3)) (Z5.s45 x0 x1 x2 x3 y4 y7)) := by kernel_rfl
theorem Z5.e27 (x0 : TZone) (x1 : List Int) (x2 : Int) (x3 : Int) (y4 : TRZoneInt) (y5 : TZone) (y6 : List Int) (y7 : TRZoneInt) : V.jn (V.joinF Z5.E Tryz.f11.ntmps [1, 1, 1, 1, 1, 1, 1, 1, 1] [] (V.codeOf Tryz.f11) (Z5.kt x0 x1 x2 x3)) (Z5.s27 x0 x1 x2 x3 y4 y5 y6 y7) = Z5.l27 x0 x1 x2 x3 y4 y5 y6 y7 := by
  rw [V.jn_eq, Z5.r27]
  simp only [Z5.e45]
  rfl
theorem Z5.v (x0 : TZone) (x1 : List Int) (x2 : Int) (x3 : Int) : V.evBody Z5.E Z5.con Tryz.f11 ((x0.1, x0.2, x1, x2, x3) : List TSigned × List TEntry × List Int × Int × Int) = Z5.b x0 x1 x2 x3 (fun y4 y5 y6 y7 => V.jn (V.joinF Z5.E Tryz.f11.ntmps [1, 1, 1, 1, 1, 1, 1, 1, 1] [] (V.codeOf Tryz.f11) (Z5.kt x0 x1 x2 x3)) (Z5.s27 x0 x1 x2 x3 y4 y5 y6 y7)) := by kernel_rfl
theorem Z5.eq (x0 : TZone) (x1 : List Int) (x2 : Int) (x3 : Int) : V.evBody Z5.E Z5.con Tryz.f11 ((x0.1, x0.2, x1, x2, x3) : List TSigned × List TEntry × List Int × Int × Int) = Z5 x0 x1 x2 x3 := by
  rw [Z5.v]
  simp only [Z5.e27]
  rfl
theorem Z5.ok : V.Valid Tryz.prog 11 Z5.con :=
  V.fo (V.tab_cons Z37.ok (V.tab_cons Z16.ok (V.tab_cons Z138.ok (V.tab_cons Z170.ok (V.tab_cons Z132.ok (V.tab_cons Z20.ok (V.tab_cons Z131.ok (V.tab_cons Z151.ok (V.tab_cons Z150.ok (V.tab_cons Z155.ok V.tab_nil)))))))))) Tryz.func11 (by kernel_rfl) (fun x y h => (show V.evBody Z5.E Z5.con Tryz.f11 x = _ from Z5.eq (x.1, x.2.1) x.2.2.1 x.2.2.2.1 x.2.2.2.2).trans (V.cfl (by kernel_rfl) h))
end Go.Proofs.YtmplinobompncaaGreat
