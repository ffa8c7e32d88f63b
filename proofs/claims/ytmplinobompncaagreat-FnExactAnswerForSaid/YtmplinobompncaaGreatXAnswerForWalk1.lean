/- That the functions compute it, part 1. -/
import Derived.Test.YtmplinobompncaaGreatXAnswerForWalk0
namespace Go.Proofs.YtmplinobompncaaGreat
set_option linter.unusedVariables false
set_option maxRecDepth 100000
noncomputable abbrev zq21.con : V.Con := ⟨(.cons .str .nil), (.cons .bool .nil), fun (x : ByteArray) => zq21 x, [], [(false, 1)], [(false, 1)], [false], []⟩
noncomputable abbrev zq21.E : V.Env := V.mkE V.tys [(178, zq15.con)] [(4, [0, 6, 7], [])] [] [] [] []
noncomputable abbrev zq21.kt (x0 : ByteArray) : V.Kt Bool := V.ktOf zq21.E zq21.con Tryz.f280 ((x0) : ByteArray)
noncomputable abbrev zq21.s4 (x0 : ByteArray) (v4_1 : Int) (v4_2 : Int) : V.St := ⟨[(0, .v false [.val (.str x0)]), (6, .v false [.val (.int .i64 v4_1)]), (7, .v false [.val (.int .i64 v4_2)])], []⟩
theorem zq21.r4 (x0 : ByteArray) (R : V.St → Option Bool) (v4_1 : Int) (v4_2 : Int) : V.loopF zq21.E Tryz.f280.ntmps [1, 0, 1, 0] [] (V.codeOf Tryz.f280) (zq21.kt x0) R (zq21.s4 x0 v4_1 v4_2) = zq21.g4 x0 (fun v4_1 v4_2 => R (zq21.s4 x0 v4_1 v4_2)) v4_1 v4_2 := by kernel_rfl
theorem zq21.e4 (x0 : ByteArray) : ∀ (n : Nat) (v4_1 : Int) (v4_2 : Int), V.loopN (V.loopF zq21.E Tryz.f280.ntmps [1, 0, 1, 0] [] (V.codeOf Tryz.f280) (zq21.kt x0)) n (zq21.s4 x0 v4_1 v4_2) = zq21.l4 x0 n v4_1 v4_2 := by
  intro n
  induction n with
  | zero => intros; rw [V.loopN_z]; rfl
  | succ n ih =>
    intro v4_1 v4_2
    rw [V.loopN_s, zq21.r4]
    simp only [ih]
    first | exact (zq21.u4 ..).symm | rfl
theorem zq21.v (x0 : ByteArray) : V.evBody zq21.E zq21.con Tryz.f280 ((x0) : ByteArray) = zq21.b x0 (fun v4_1 v4_2 => V.loopN (V.loopF zq21.E Tryz.f280.ntmps [1, 0, 1, 0] [] (V.codeOf Tryz.f280) (zq21.kt x0)) V.KK (zq21.s4 x0 v4_1 v4_2)) := by kernel_rfl
theorem zq21.eq (x0 : ByteArray) : V.evBody zq21.E zq21.con Tryz.f280 ((x0) : ByteArray) = zq21 x0 := by
  rw [zq21.v]
  simp only [zq21.e4]
  rfl
theorem zq21.ok : V.Valid Tryz.prog 280 zq21.con :=
  V.fo (V.tab_cons zq15.ok V.tab_nil) Tryz.func280 (by kernel_rfl) (fun x y h => (show V.evBody zq21.E zq21.con Tryz.f280 x = _ from zq21.eq x).trans (V.cfl (by kernel_rfl) h))
noncomputable abbrev zq23.con : V.Con := ⟨(.cons .str .nil), (.cons .bool .nil), fun (x : ByteArray) => zq23 x, [], [(false, 1)], [(false, 1)], [false], []⟩
noncomputable abbrev zq23.E : V.Env := V.mkE V.tys [(280, zq21.con)] [] [] [] [] []
theorem zq23.eq (x0 : ByteArray) : V.evBody zq23.E zq23.con Tryz.f439 ((x0) : ByteArray) = zq23 x0 := by kernel_rfl
theorem zq23.ok : V.Valid Tryz.prog 439 zq23.con :=
  V.fo (V.tab_cons zq21.ok V.tab_nil) Tryz.func439 (by kernel_rfl) (fun x y h => (show V.evBody zq23.E zq23.con Tryz.f439 x = _ from zq23.eq x).trans (V.cfl (by kernel_rfl) h))
noncomputable abbrev zq133.con : V.Con := ⟨(.cons (.sl (.cons .str .nil)) (.cons (.fn 439 false .nil .nil) .nil)), (.cons (.int .i64) .nil), fun (x : List ByteArray × (Unit) × (Unit)) => zq133 x.1 x.2, [], [(false, 1), (false, 1)], [(false, 1)], [false], []⟩
noncomputable abbrev zq133.E : V.Env := V.mkE V.tys [(439, zq23.con)] [(4, [0, 1, 7, 8], [])] [] [] [] []
noncomputable abbrev zq133.kt (x0 : List ByteArray) (x1 : (Unit) × (Unit)) : V.Kt Int := V.ktOf zq133.E zq133.con Tryz.f453 ((x0, x1) : List ByteArray × (Unit) × (Unit))
noncomputable abbrev zq133.s4 (x0 : List ByteArray) (v4_1 : Int) (v4_2 : Int) : V.St := ⟨[(0, .v false [.val (.sl (.cons .str .nil) x0)]), (1, .v false [.val (.fn 439 false .nil .nil () ())]), (7, .v false [.val (.int .i64 v4_1)]), (8, .v false [.val (.int .i64 v4_2)])], []⟩
theorem zq133.r4 (x0 : List ByteArray) (x1 : (Unit) × (Unit)) (R : V.St → Option Int) (v4_1 : Int) (v4_2 : Int) : V.loopF zq133.E Tryz.f453.ntmps [1, 0, 1, 0] [] (V.codeOf Tryz.f453) (zq133.kt x0 x1) R (zq133.s4 x0 v4_1 v4_2) = zq133.g4 x0 (fun v4_1 v4_2 => R (zq133.s4 x0 v4_1 v4_2)) v4_1 v4_2 := by kernel_rfl
theorem zq133.e4 (x0 : List ByteArray) (x1 : (Unit) × (Unit)) : ∀ (n : Nat) (v4_1 : Int) (v4_2 : Int), V.loopN (V.loopF zq133.E Tryz.f453.ntmps [1, 0, 1, 0] [] (V.codeOf Tryz.f453) (zq133.kt x0 x1)) n (zq133.s4 x0 v4_1 v4_2) = zq133.l4 x0 n v4_1 v4_2 := by
  intro n
  induction n with
  | zero => intros; rw [V.loopN_z]; rfl
  | succ n ih =>
    intro v4_1 v4_2
    rw [V.loopN_s, zq133.r4]
    simp only [ih]
    first | exact (zq133.u4 ..).symm | rfl
theorem zq133.v (x0 : List ByteArray) (x1 : (Unit) × (Unit)) : V.evBody zq133.E zq133.con Tryz.f453 ((x0, x1) : List ByteArray × (Unit) × (Unit)) = zq133.b x0 x1 (fun v4_1 v4_2 => V.loopN (V.loopF zq133.E Tryz.f453.ntmps [1, 0, 1, 0] [] (V.codeOf Tryz.f453) (zq133.kt x0 x1)) V.KK (zq133.s4 x0 v4_1 v4_2)) := by kernel_rfl
theorem zq133.eq (x0 : List ByteArray) (x1 : (Unit) × (Unit)) : V.evBody zq133.E zq133.con Tryz.f453 ((x0, x1) : List ByteArray × (Unit) × (Unit)) = zq133 x0 x1 := by
  rw [zq133.v]
  simp only [zq133.e4]
  rfl
theorem zq133.ok : V.Valid Tryz.prog 453 zq133.con :=
  V.fo (V.tab_cons zq23.ok V.tab_nil) Tryz.func453 (by kernel_rfl) (fun x y h => (show V.evBody zq133.E zq133.con Tryz.f453 x = _ from zq133.eq x.1 x.2).trans (V.cfl (by kernel_rfl) h))
noncomputable abbrev zq128.con : V.Con := ⟨(.cons (.sl (.cons .str .nil)) (.cons (.fn 439 false .nil .nil) .nil)), (.cons .bool .nil), fun (x : List ByteArray × (Unit) × (Unit)) => zq128 x.1 x.2, [], [(false, 1), (false, 1)], [(false, 1)], [false], []⟩
noncomputable abbrev zq128.E : V.Env := V.mkE V.tys [(453, zq133.con)] [] [] [] [] []
theorem zq128.eq (x0 : List ByteArray) (x1 : (Unit) × (Unit)) : V.evBody zq128.E zq128.con Tryz.f438 ((x0, x1) : List ByteArray × (Unit) × (Unit)) = zq128 x0 x1 := by kernel_rfl
theorem zq128.ok : V.Valid Tryz.prog 438 zq128.con :=
  V.fo (V.tab_cons zq133.ok V.tab_nil) Tryz.func438 (by kernel_rfl) (fun x y h => (show V.evBody zq128.E zq128.con Tryz.f438 x = _ from zq128.eq x.1 x.2).trans (V.cfl (by kernel_rfl) h))
noncomputable abbrev zq22.con : V.Con := ⟨(.cons (.sl (.cons .str .nil)) .nil), (.cons .bool .nil), fun (x : List ByteArray) => zq22 x, [], [(false, 1)], [(false, 1)], [false], []⟩
noncomputable abbrev zq22.E : V.Env := V.mkE V.tys [(178, zq15.con), (438, zq128.con)] [] [] [] [] []
theorem zq22.eq (x0 : List ByteArray) : V.evBody zq22.E zq22.con Tryz.f405 ((x0) : List ByteArray) = zq22 x0 := by kernel_rfl
theorem zq22.ok : V.Valid Tryz.prog 405 zq22.con :=
  V.fo (V.tab_cons zq15.ok (V.tab_cons zq128.ok V.tab_nil)) Tryz.func405 (by kernel_rfl) (fun x y h => (show V.evBody zq22.E zq22.con Tryz.f405 x = _ from zq22.eq x).trans (V.cfl (by kernel_rfl) h))
noncomputable abbrev zq17.con : V.Con := ⟨V.eEntry, (.cons .bool .nil), fun (x : ByteArray × Int × Int × List ByteArray) => zq17 x, [], [(true, 4)], [(false, 1)], [false], []⟩
noncomputable abbrev zq17.E : V.Env := V.mkE V.tys [(178, zq15.con), (206, zq57.con), (280, zq21.con), (405, zq22.con)] [] [] [] [] []
theorem zq17.eq (x0 : TEntry) : V.evBody zq17.E zq17.con Tryz.f341 ((x0.1, x0.2.1, x0.2.2.1, x0.2.2.2) : ByteArray × Int × Int × List ByteArray) = zq17 x0 := by kernel_rfl
theorem zq17.ok : V.Valid Tryz.prog 341 zq17.con :=
  V.fo (V.tab_cons zq15.ok (V.tab_cons zq57.ok (V.tab_cons zq21.ok (V.tab_cons zq22.ok V.tab_nil)))) Tryz.func341 (by kernel_rfl) (fun x y h => (show V.evBody zq17.E zq17.con Tryz.f341 x = _ from zq17.eq x).trans (V.cfl (by kernel_rfl) h))
noncomputable abbrev zq67.con : V.Con := ⟨.cons .str (.cons .str .nil), .cons (.int .i64) .nil, fun (x : ByteArray × ByteArray) => zq67 x.1 x.2, [], [(false, 1), (false, 1)], [(false, 1)], [false], []⟩
theorem zq67.ok : V.Valid Tryz.prog 440 zq67.con :=
  V.cmp_valid (ρ := ⟨fun n => bif Nat.beq n 213 then 440 else 454, fun t => bif Nat.beq t 3 then 3 else 9, fun x => x⟩) { mixed := V.mixed, f213 := by kernel_rfl, f265 := by kernel_rfl, t3 := by kernel_rfl, a3 := fun w => rfl, z3 := fun w => rfl, v3 := fun w => rfl, t9 := by kernel_rfl, a9 := fun w => rfl, z9 := fun w => rfl, v9 := fun w => rfl }
noncomputable abbrev zq190.con : V.Con := ⟨(.cons .str (.cons .str .nil)), (.cons (.int .i64) .nil), fun (x : ByteArray × ByteArray) => zq190 x.1 x.2, [], [(false, 1), (false, 1)], [(false, 1)], [false], []⟩
noncomputable abbrev zq190.E : V.Env := V.mkE V.tys [(440, zq67.con)] [] [] [] [] []
theorem zq190.eq (x0 : ByteArray) (x1 : ByteArray) : V.evBody zq190.E zq190.con Tryz.f406 ((x0, x1) : ByteArray × ByteArray) = zq190 x0 x1 := by kernel_rfl
theorem zq190.ok : V.Valid Tryz.prog 406 zq190.con :=
  V.fo (V.tab_cons zq67.ok V.tab_nil) Tryz.func406 (by kernel_rfl) (fun x y h => (show V.evBody zq190.E zq190.con Tryz.f406 x = _ from zq190.eq x.1 x.2).trans (V.cfl (by kernel_rfl) h))
noncomputable abbrev zq4.con : V.Con := ⟨(.cons .str (.cons .str .nil)), (.cons (.int .i64) .nil), fun (x : ByteArray × ByteArray) => zq4 x.1 x.2, [], [(false, 1), (false, 1)], [(false, 1)], [false], []⟩
noncomputable abbrev zq4.E : V.Env := V.mkE V.tys [(406, zq190.con)] [] [] [] [] []
theorem zq4.eq (x0 : ByteArray) (x1 : ByteArray) : V.evBody zq4.E zq4.con Tryz.f342 ((x0, x1) : ByteArray × ByteArray) = zq4 x0 x1 := by kernel_rfl
theorem zq4.ok : V.Valid Tryz.prog 342 zq4.con :=
  V.fo (V.tab_cons zq190.ok V.tab_nil) Tryz.func342 (by kernel_rfl) (fun x y h => (show V.evBody zq4.E zq4.con Tryz.f342 x = _ from zq4.eq x.1 x.2).trans (V.cfl (by kernel_rfl) h))
noncomputable abbrev zq1.con : V.Con := ⟨(.cons (.sl V.eEntry) .nil), (.cons .bool .nil), fun (x : List TEntry) => zq1 x, [], [(false, 1)], [(false, 1)], [false], []⟩
noncomputable abbrev zq1.E : V.Env := V.mkE V.tys [(341, zq17.con), (342, zq4.con)] [(4, [0, 5, 6, 7], [])] [(4, 15)] [] [] []
noncomputable abbrev zq1.kt (x0 : List TEntry) : V.Kt Bool := V.ktOf zq1.E zq1.con Tryz.f220 ((x0) : List TEntry)
noncomputable abbrev zq1.s4 (x0 : List TEntry) (v4_2 : Int) (v4_3 : Int) : V.St := ⟨[(0, .v false [.val (.sl V.eEntry x0)]), (5, .v false [.val (.sl V.eEntry x0)]), (6, .v false [.val (.int .i64 v4_2)]), (7, .v false [.val (.int .i64 v4_3)])], []⟩
theorem zq1.r4 (x0 : List TEntry) (R : V.St → Option Bool) (v4_2 : Int) (v4_3 : Int) : V.loopF zq1.E Tryz.f220.ntmps [1, 0, 1, 0] [] (V.codeOf Tryz.f220) (zq1.kt x0) R (zq1.s4 x0 v4_2 v4_3) = zq1.g4 x0 (fun v4_2 v4_3 => R (zq1.s4 x0 v4_2 v4_3)) v4_2 v4_3 := by kernel_rfl
theorem zq1.e4 (x0 : List TEntry) : ∀ (n : Nat) (v4_2 : Int) (v4_3 : Int), V.loopN (V.loopF zq1.E Tryz.f220.ntmps [1, 0, 1, 0] [] (V.codeOf Tryz.f220) (zq1.kt x0)) n (zq1.s4 x0 v4_2 v4_3) = zq1.l4 x0 n v4_2 v4_3 := by
  intro n
  induction n with
  | zero => intros; rw [V.loopN_z]; rfl
  | succ n ih =>
    intro v4_2 v4_3
    rw [V.loopN_s, zq1.r4]
    simp only [ih]
    first | exact (zq1.u4 ..).symm | rfl
theorem zq1.v (x0 : List TEntry) : V.evBody zq1.E zq1.con Tryz.f220 ((x0) : List TEntry) = zq1.b x0 (fun v4_2 v4_3 => V.loopN (V.loopF zq1.E Tryz.f220.ntmps [1, 0, 1, 0] [] (V.codeOf Tryz.f220) (zq1.kt x0)) V.KK (zq1.s4 x0 v4_2 v4_3)) := by kernel_rfl
theorem zq1.eq (x0 : List TEntry) : V.evBody zq1.E zq1.con Tryz.f220 ((x0) : List TEntry) = zq1 x0 := by
  rw [zq1.v]
  simp only [zq1.e4]
  rfl
theorem zq1.ok : V.Valid Tryz.prog 220 zq1.con :=
  V.fo (V.tab_cons zq17.ok (V.tab_cons zq4.ok V.tab_nil)) Tryz.func220 (by kernel_rfl) (fun x y h => (show V.evBody zq1.E zq1.con Tryz.f220 x = _ from zq1.eq x).trans (V.cfl (by kernel_rfl) h))
noncomputable abbrev zq2.con : V.Con := ⟨(.cons (.sl (.cons (.int .u8) .nil)) .nil), (.cons (.sl (.cons (.int .i64) .nil)) .nil), fun (x : List Int) => zq2 x, [], [(false, 1)], [(false, 1)], [true], []⟩
noncomputable abbrev zq2.E : V.Env := V.mkE V.tys [] [(6, [3, 9, 10, 11], [])] [] [] [] []
noncomputable abbrev zq2.kt (x0 : List Int) : V.Kt (List Int) := V.ktOf zq2.E zq2.con Tryz.f458 ((x0) : List Int)
noncomputable abbrev zq2.s6 (x0 : List Int) (v6_1 : Int) (v6_2 : Int) (v6_3 : List Int) : V.St := ⟨[(3, .v false [.ref 64000038400192]), (9, .v false [.val (.sl (.cons (.int .u8) .nil) x0)]), (10, .v false [.val (.int .i64 v6_1)]), (11, .v false [.val (.int .i64 v6_2)])], [(64000038400192, .row (.cons (.int .i64) .nil) true v6_3)]⟩
theorem zq2.r6 (x0 : List Int) (R : V.St → Option (List Int)) (v6_1 : Int) (v6_2 : Int) (v6_3 : List Int) : V.loopF zq2.E Tryz.f458.ntmps [1, 1, 0, 1, 0] [] (V.codeOf Tryz.f458) (zq2.kt x0) R (zq2.s6 x0 v6_1 v6_2 v6_3) = zq2.g6 x0 (fun v6_1 v6_2 v6_3 => R (zq2.s6 x0 v6_1 v6_2 v6_3)) v6_1 v6_2 v6_3 := by kernel_rfl
theorem zq2.e6 (x0 : List Int) : ∀ (n : Nat) (v6_1 : Int) (v6_2 : Int) (v6_3 : List Int), V.loopN (V.loopF zq2.E Tryz.f458.ntmps [1, 1, 0, 1, 0] [] (V.codeOf Tryz.f458) (zq2.kt x0)) n (zq2.s6 x0 v6_1 v6_2 v6_3) = zq2.l6 x0 n v6_1 v6_2 v6_3 := by
  intro n
  induction n with
  | zero => intros; rw [V.loopN_z]; rfl
  | succ n ih =>
    intro v6_1 v6_2 v6_3
    rw [V.loopN_s, zq2.r6]
    simp only [ih]
    first | exact (zq2.u6 ..).symm | rfl
theorem zq2.v (x0 : List Int) : V.evBody zq2.E zq2.con Tryz.f458 ((x0) : List Int) = zq2.b x0 (fun v6_1 v6_2 v6_3 => V.loopN (V.loopF zq2.E Tryz.f458.ntmps [1, 1, 0, 1, 0] [] (V.codeOf Tryz.f458) (zq2.kt x0)) V.KK (zq2.s6 x0 v6_1 v6_2 v6_3)) := by kernel_rfl
theorem zq2.eq (x0 : List Int) : V.evBody zq2.E zq2.con Tryz.f458 ((x0) : List Int) = zq2 x0 := by
  rw [zq2.v]
  simp only [zq2.e6]
  rfl
theorem zq2.ok : V.Valid Tryz.prog 458 zq2.con :=
  V.fo V.tab_nil Tryz.func458 (by kernel_rfl) (fun x y h => (show V.evBody zq2.E zq2.con Tryz.f458 x = _ from zq2.eq x).trans (V.cfl (by kernel_rfl) h))
noncomputable abbrev zq29.con : V.Con := ⟨(.cons .str .nil), (.cons (.sl (.cons (.int .i64) .nil)) .nil), fun (x : ByteArray) => zq29 x, [], [(false, 1)], [(false, 1)], [true], []⟩
noncomputable abbrev zq29.E : V.Env := V.mkE V.tys [(458, zq2.con)] [] [] [] [] []
theorem zq29.eq (x0 : ByteArray) : V.evBody zq29.E zq29.con Tryz.f455 ((x0) : ByteArray) = zq29 x0 := by kernel_rfl
theorem zq29.ok : V.Valid Tryz.prog 455 zq29.con :=
  V.fo (V.tab_cons zq2.ok V.tab_nil) Tryz.func455 (by kernel_rfl) (fun x y h => (show V.evBody zq29.E zq29.con Tryz.f455 x = _ from zq29.eq x).trans (V.cfl (by kernel_rfl) h))
noncomputable abbrev zq7.con : V.Con := ⟨V.eEntry, (.cons (.sl (.cons (.int .i64) .nil)) .nil), fun (x : ByteArray × Int × Int × List ByteArray) => zq7 x, [], [(true, 4)], [(false, 1)], [true], []⟩
noncomputable abbrev zq7.E : V.Env := V.mkE V.tys [(455, zq29.con)] [(6, [3, 19, 20, 21], [])] [(1, 11)] [] [] []
noncomputable abbrev zq7.kt (x0 : TEntry) : V.Kt (List Int) := V.ktOf zq7.E zq7.con Tryz.f442 ((x0.1, x0.2.1, x0.2.2.1, x0.2.2.2) : ByteArray × Int × Int × List ByteArray)
noncomputable abbrev zq7.s6 (x0 : TEntry) (v6_1 : Int) (v6_2 : Int) (v6_3 : List Int) : V.St := ⟨[(3, .v false [.ref 64000038400192]), (19, .v false [.val (.sl (.cons .str .nil) x0.2.2.2)]), (20, .v false [.val (.int .i64 v6_1)]), (21, .v false [.val (.int .i64 v6_2)])], [(64000038400192, .row (.cons (.int .i64) .nil) true v6_3)]⟩
theorem zq7.r6 (x0 : TEntry) (R : V.St → Option (List Int)) (v6_1 : Int) (v6_2 : Int) (v6_3 : List Int) : V.loopF zq7.E Tryz.f442.ntmps [1, 1, 0, 1, 0] [] (V.codeOf Tryz.f442) (zq7.kt x0) R (zq7.s6 x0 v6_1 v6_2 v6_3) = zq7.g6 x0 (fun v6_1 v6_2 v6_3 => R (zq7.s6 x0 v6_1 v6_2 v6_3)) v6_1 v6_2 v6_3 := by kernel_rfl
theorem zq7.e6 (x0 : TEntry) : ∀ (n : Nat) (v6_1 : Int) (v6_2 : Int) (v6_3 : List Int), V.loopN (V.loopF zq7.E Tryz.f442.ntmps [1, 1, 0, 1, 0] [] (V.codeOf Tryz.f442) (zq7.kt x0)) n (zq7.s6 x0 v6_1 v6_2 v6_3) = zq7.l6 x0 n v6_1 v6_2 v6_3 := by
  intro n
  induction n with
  | zero => intros; rw [V.loopN_z]; rfl
  | succ n ih =>
    intro v6_1 v6_2 v6_3
    rw [V.loopN_s, zq7.r6]
    simp only [ih]
    first | exact (zq7.u6 ..).symm | rfl
theorem zq7.v (x0 : TEntry) : V.evBody zq7.E zq7.con Tryz.f442 ((x0.1, x0.2.1, x0.2.2.1, x0.2.2.2) : ByteArray × Int × Int × List ByteArray) = zq7.b x0 (fun v6_1 v6_2 v6_3 => V.loopN (V.loopF zq7.E Tryz.f442.ntmps [1, 1, 0, 1, 0] [] (V.codeOf Tryz.f442) (zq7.kt x0)) V.KK (zq7.s6 x0 v6_1 v6_2 v6_3)) := by kernel_rfl
theorem zq7.eq (x0 : TEntry) : V.evBody zq7.E zq7.con Tryz.f442 ((x0.1, x0.2.1, x0.2.2.1, x0.2.2.2) : ByteArray × Int × Int × List ByteArray) = zq7 x0 := by
  rw [zq7.v]
  simp only [zq7.e6]
  rfl
theorem zq7.ok : V.Valid Tryz.prog 442 zq7.con :=
  V.fo (V.tab_cons zq29.ok V.tab_nil) Tryz.func442 (by kernel_rfl) (fun x y h => (show V.evBody zq7.E zq7.con Tryz.f442 x = _ from zq7.eq x).trans (V.cfl (by kernel_rfl) h))
noncomputable abbrev zq30.con : V.Con := ⟨V.eEntry, (.cons (.int .i64) .nil), fun (x : ByteArray × Int × Int × List ByteArray) => zq30 x, [], [(true, 4)], [(false, 1)], [false], []⟩
noncomputable abbrev zq30.E : V.Env := V.mkE V.tys [(262, zq12.con), (442, zq7.con)] [] [] [] [] []
theorem zq30.eq (x0 : TEntry) : V.evBody zq30.E zq30.con Tryz.f409 ((x0.1, x0.2.1, x0.2.2.1, x0.2.2.2) : ByteArray × Int × Int × List ByteArray) = zq30 x0 := by kernel_rfl
theorem zq30.ok : V.Valid Tryz.prog 409 zq30.con :=
  V.fo (V.tab_cons zq12.ok (V.tab_cons zq7.ok V.tab_nil)) Tryz.func409 (by kernel_rfl) (fun x y h => (show V.evBody zq30.E zq30.con Tryz.f409 x = _ from zq30.eq x).trans (V.cfl (by kernel_rfl) h))
noncomputable abbrev zq31.con : V.Con := ⟨(.cons (.sl V.eEntry) .nil), (.cons (.sl (.cons (.int .i64) .nil)) .nil), fun (x : List TEntry) => zq31 x, [], [(false, 1)], [(false, 1)], [true], []⟩
noncomputable abbrev zq31.E : V.Env := V.mkE V.tys [(409, zq30.con)] [(6, [3, 7, 8, 9], [(64000038400192, (.cons (.int .i64) .nil), true)])] [] [] [] []
noncomputable abbrev zq31.kt (x0 : List TEntry) : V.Kt (List Int) := V.ktOf zq31.E zq31.con Tryz.f346 ((x0) : List TEntry)
noncomputable abbrev zq31.s6 (x0 : List TEntry) (v6_1 : Int) (v6_2 : Int) (v6_3 : List Int) : V.St := ⟨[(3, .v false [.ref 64000038400192]), (7, .v false [.val (.sl V.eEntry x0)]), (8, .v false [.val (.int .i64 v6_1)]), (9, .v false [.val (.int .i64 v6_2)])], [(64000038400192, .row (.cons (.int .i64) .nil) true v6_3)]⟩
theorem zq31.r6 (x0 : List TEntry) (R : V.St → Option (List Int)) (v6_1 : Int) (v6_2 : Int) (v6_3 : List Int) : V.loopF zq31.E Tryz.f346.ntmps [1, 1, 0, 1, 0] [] (V.codeOf Tryz.f346) (zq31.kt x0) R (zq31.s6 x0 v6_1 v6_2 v6_3) = zq31.g6 x0 (fun v6_1 v6_2 v6_3 => R (zq31.s6 x0 v6_1 v6_2 v6_3)) v6_1 v6_2 v6_3 := by kernel_rfl
theorem zq31.e6 (x0 : List TEntry) : ∀ (n : Nat) (v6_1 : Int) (v6_2 : Int) (v6_3 : List Int), V.loopN (V.loopF zq31.E Tryz.f346.ntmps [1, 1, 0, 1, 0] [] (V.codeOf Tryz.f346) (zq31.kt x0)) n (zq31.s6 x0 v6_1 v6_2 v6_3) = zq31.l6 x0 n v6_1 v6_2 v6_3 := by
  intro n
  induction n with
  | zero => intros; rw [V.loopN_z]; rfl
  | succ n ih =>
    intro v6_1 v6_2 v6_3
    rw [V.loopN_s, zq31.r6]
    simp only [ih]
    first | exact (zq31.u6 ..).symm | rfl
theorem zq31.v (x0 : List TEntry) : V.evBody zq31.E zq31.con Tryz.f346 ((x0) : List TEntry) = zq31.b x0 (fun v6_1 v6_2 v6_3 => V.loopN (V.loopF zq31.E Tryz.f346.ntmps [1, 1, 0, 1, 0] [] (V.codeOf Tryz.f346) (zq31.kt x0)) V.KK (zq31.s6 x0 v6_1 v6_2 v6_3)) := by kernel_rfl
theorem zq31.eq (x0 : List TEntry) : V.evBody zq31.E zq31.con Tryz.f346 ((x0) : List TEntry) = zq31 x0 := by
  rw [zq31.v]
  simp only [zq31.e6]
  rfl
theorem zq31.ok : V.Valid Tryz.prog 346 zq31.con :=
  V.fo (V.tab_cons zq30.ok V.tab_nil) Tryz.func346 (by kernel_rfl) (fun x y h => (show V.evBody zq31.E zq31.con Tryz.f346 x = _ from zq31.eq x).trans (V.cfl (by kernel_rfl) h))
noncomputable abbrev zq55.con : V.Con := ⟨(.cons (.sl (.cons (.int .i64) .nil)) .nil), (.cons (.int .i64) .nil), fun (x : List Int) => zq55 x, [], [(false, 1)], [(false, 1)], [false], []⟩
noncomputable abbrev zq55.E : V.Env := V.mkE V.tys [(262, zq12.con)] [] [] [] [] []
theorem zq55.eq (x0 : List Int) : V.evBody zq55.E zq55.con Tryz.f407 ((x0) : List Int) = zq55 x0 := by kernel_rfl
theorem zq55.ok : V.Valid Tryz.prog 407 zq55.con :=
  V.fo (V.tab_cons zq12.ok V.tab_nil) Tryz.func407 (by kernel_rfl) (fun x y h => (show V.evBody zq55.E zq55.con Tryz.f407 x = _ from zq55.eq x).trans (V.cfl (by kernel_rfl) h))
noncomputable abbrev zq36.con : V.Con := ⟨(.cons (.int .i64) (.cons (.int .i64) .nil)), (.cons (.int .i64) .nil), fun (x : Int × Int) => zq36 x.1 x.2, [], [(false, 1), (false, 1)], [(false, 1)], [false], []⟩
noncomputable abbrev zq36.E : V.Env := V.mkE V.tys [(407, zq55.con)] [] [] [] [] []
theorem zq36.eq (x0 : Int) (x1 : Int) : V.evBody zq36.E zq36.con Tryz.f441 ((x0, x1) : Int × Int) = zq36 x0 x1 := by kernel_rfl
theorem zq36.ok : V.Valid Tryz.prog 441 zq36.con :=
  V.fo (V.tab_cons zq55.ok V.tab_nil) Tryz.func441 (by kernel_rfl) (fun x y h => (show V.evBody zq36.E zq36.con Tryz.f441 x = _ from zq36.eq x.1 x.2).trans (V.cfl (by kernel_rfl) h))
noncomputable abbrev zq47.con : V.Con := ⟨(.cons (.sl (.cons (.int .i64) .nil)) .nil), (.cons (.sl (.cons (.int .i64) .nil)) .nil), fun (x : List Int) => zq47 x, [], [(false, 1)], [(false, 1)], [true], []⟩
noncomputable abbrev zq47.E : V.Env := V.mkE V.tys [(441, zq36.con)] [(6, [0, 3, 4], [(64000038400192, (.cons (.int .i64) .nil), true)])] [(6, 12)] [] [] []
noncomputable abbrev zq47.kt (x0 : List Int) : V.Kt (List Int) := V.ktOf zq47.E zq47.con Tryz.f408 ((x0) : List Int)
noncomputable abbrev zq47.s6 (x0 : List Int) (v6_1 : Int) (v6_2 : List Int) : V.St := ⟨[(0, .v false [.val (.sl (.cons (.int .i64) .nil) x0)]), (3, .v false [.ref 64000038400192]), (4, .v false [.val (.int .i64 v6_1)])], [(64000038400192, .row (.cons (.int .i64) .nil) true v6_2)]⟩
theorem zq47.r6 (x0 : List Int) (R : V.St → Option (List Int)) (v6_1 : Int) (v6_2 : List Int) : V.loopF zq47.E Tryz.f408.ntmps [1, 1, 0, 1, 0] [] (V.codeOf Tryz.f408) (zq47.kt x0) R (zq47.s6 x0 v6_1 v6_2) = zq47.g6 x0 (fun v6_1 v6_2 => R (zq47.s6 x0 v6_1 v6_2)) v6_1 v6_2 := by kernel_rfl
theorem zq47.e6 (x0 : List Int) : ∀ (n : Nat) (v6_1 : Int) (v6_2 : List Int), V.loopN (V.loopF zq47.E Tryz.f408.ntmps [1, 1, 0, 1, 0] [] (V.codeOf Tryz.f408) (zq47.kt x0)) n (zq47.s6 x0 v6_1 v6_2) = zq47.l6 x0 n v6_1 v6_2 := by
  intro n
  induction n with
  | zero => intros; rw [V.loopN_z]; rfl
  | succ n ih =>
    intro v6_1 v6_2
    rw [V.loopN_s, zq47.r6]
    simp only [ih]
    first | exact (zq47.u6 ..).symm | rfl
theorem zq47.v (x0 : List Int) : V.evBody zq47.E zq47.con Tryz.f408 ((x0) : List Int) = zq47.b x0 (fun v6_1 v6_2 => V.loopN (V.loopF zq47.E Tryz.f408.ntmps [1, 1, 0, 1, 0] [] (V.codeOf Tryz.f408) (zq47.kt x0)) V.KK (zq47.s6 x0 v6_1 v6_2)) := by kernel_rfl
theorem zq47.eq (x0 : List Int) : V.evBody zq47.E zq47.con Tryz.f408 ((x0) : List Int) = zq47 x0 := by
  rw [zq47.v]
  simp only [zq47.e6]
  rfl
theorem zq47.ok : V.Valid Tryz.prog 408 zq47.con :=
  V.fo (V.tab_cons zq36.ok V.tab_nil) Tryz.func408 (by kernel_rfl) (fun x y h => (show V.evBody zq47.E zq47.con Tryz.f408 x = _ from zq47.eq x).trans (V.cfl (by kernel_rfl) h))
noncomputable abbrev zq45.con : V.Con := ⟨(.cons (.sl (.cons (.int .i64) .nil)) .nil), (.cons (.int .i64) .nil), fun (x : List Int) => zq45 x, [], [(false, 1)], [(false, 1)], [false], []⟩
noncomputable abbrev zq45.E : V.Env := V.mkE V.tys [(407, zq55.con), (408, zq47.con)] [(6, [0], [(0, (.cons (.int .i64) .nil), false)])] [] [] [] []
noncomputable abbrev zq45.kt (x0 : List Int) : V.Kt Int := V.ktOf zq45.E zq45.con Tryz.f345 ((x0) : List Int)
noncomputable abbrev zq45.s6 (v6_0 : List Int) : V.St := ⟨[(0, .v false [.val (.sl (.cons (.int .i64) .nil) v6_0)])], []⟩
theorem zq45.r6 (x0 : List Int) (R : V.St → Option Int) (v6_0 : List Int) : V.loopF zq45.E Tryz.f345.ntmps [1, 1, 0, 0] [] (V.codeOf Tryz.f345) (zq45.kt x0) R (zq45.s6 v6_0) = zq45.g6 (fun v6_0 => R (zq45.s6 v6_0)) v6_0 := by kernel_rfl
theorem zq45.e6 (x0 : List Int) : ∀ (n : Nat) (v6_0 : List Int), V.loopN (V.loopF zq45.E Tryz.f345.ntmps [1, 1, 0, 0] [] (V.codeOf Tryz.f345) (zq45.kt x0)) n (zq45.s6 v6_0) = zq45.l6 n v6_0 := by
  intro n
  induction n with
  | zero => intros; rw [V.loopN_z]; rfl
  | succ n ih =>
    intro v6_0
    rw [V.loopN_s, zq45.r6]
    simp only [ih]
    first | exact (zq45.u6 ..).symm | rfl
theorem zq45.v (x0 : List Int) : V.evBody zq45.E zq45.con Tryz.f345 ((x0) : List Int) = zq45.b x0 (fun v6_0 => V.loopN (V.loopF zq45.E Tryz.f345.ntmps [1, 1, 0, 0] [] (V.codeOf Tryz.f345) (zq45.kt x0)) V.KK (zq45.s6 v6_0)) := by kernel_rfl
theorem zq45.eq (x0 : List Int) : V.evBody zq45.E zq45.con Tryz.f345 ((x0) : List Int) = zq45 x0 := by
  rw [zq45.v]
  simp only [zq45.e6]
  rfl
theorem zq45.ok : V.Valid Tryz.prog 345 zq45.con :=
  V.fo (V.tab_cons zq55.ok (V.tab_cons zq47.ok V.tab_nil)) Tryz.func345 (by kernel_rfl) (fun x y h => (show V.evBody zq45.E zq45.con Tryz.f345 x = _ from zq45.eq x).trans (V.cfl (by kernel_rfl) h))
noncomputable abbrev zq66.con : V.Con := ⟨(.cons (.int .i64) (.cons (.int .i64) .nil)), (.cons (.int .i64) .nil), fun (x : Int × Int) => zq66 x.1 x.2, [], [(false, 1), (false, 1)], [(false, 1)], [false], []⟩
noncomputable abbrev zq66.E : V.Env := V.mkE V.tys [(407, zq55.con)] [] [] [] [] []
theorem zq66.eq (x0 : Int) (x1 : Int) : V.evBody zq66.E zq66.con Tryz.f344 ((x0, x1) : Int × Int) = zq66 x0 x1 := by kernel_rfl
theorem zq66.ok : V.Valid Tryz.prog 344 zq66.con :=
  V.fo (V.tab_cons zq55.ok V.tab_nil) Tryz.func344 (by kernel_rfl) (fun x y h => (show V.evBody zq66.E zq66.con Tryz.f344 x = _ from zq66.eq x.1 x.2).trans (V.cfl (by kernel_rfl) h))
noncomputable abbrev zq41.con : V.Con := ⟨(.cons (.sl V.eEntry) .nil), (.cons (.int .i64) .nil), fun (x : List TEntry) => zq41 x, [], [(false, 1)], [(false, 1)], [false], []⟩
noncomputable abbrev zq41.E : V.Env := V.mkE V.tys [(344, zq66.con), (345, zq45.con), (346, zq31.con)] [] [] [] [] []
theorem zq41.eq (x0 : List TEntry) : V.evBody zq41.E zq41.con Tryz.f223 ((x0) : List TEntry) = zq41 x0 := by kernel_rfl
theorem zq41.ok : V.Valid Tryz.prog 223 zq41.con :=
  V.fo (V.tab_cons zq66.ok (V.tab_cons zq45.ok (V.tab_cons zq31.ok V.tab_nil))) Tryz.func223 (by kernel_rfl) (fun x y h => (show V.evBody zq41.E zq41.con Tryz.f223 x = _ from zq41.eq x).trans (V.cfl (by kernel_rfl) h))
noncomputable abbrev zq3.con : V.Con := ⟨(.cons (.int .i64) (.cons (.sl V.eEntry) .nil)), (.cons .bool .nil), fun (x : Int × List TEntry) => zq3 x.1 x.2, [], [(false, 1), (false, 1)], [(false, 1)], [false], []⟩
noncomputable abbrev zq3.E : V.Env := V.mkE V.tys [(220, zq1.con), (223, zq41.con)] [] [] [] [] []
theorem zq3.eq (x0 : Int) (x1 : List TEntry) : V.evBody zq3.E zq3.con Tryz.f257 ((x0, x1) : Int × List TEntry) = zq3 x0 x1 := by kernel_rfl
theorem zq3.ok : V.Valid Tryz.prog 257 zq3.con :=
  V.fo (V.tab_cons zq1.ok (V.tab_cons zq41.ok V.tab_nil)) Tryz.func257 (by kernel_rfl) (fun x y h => (show V.evBody zq3.E zq3.con Tryz.f257 x = _ from zq3.eq x.1 x.2).trans (V.cfl (by kernel_rfl) h))
noncomputable abbrev zq26.con : V.Con := ⟨(.cons (.sl V.eSigned) (.cons (.sl V.eEntry) .nil)), (.cons .bool .nil), fun (x : List TSigned × List TEntry) => zq26 x, [], [(true, 2)], [(false, 1)], [false], []⟩
noncomputable abbrev zq26.E : V.Env := V.mkE V.tys [(37, zq16.con), (173, zq64.con), (257, zq3.con)] [] [] [] [] []
theorem zq26.eq (x0 : TZone) : V.evBody zq26.E zq26.con Tryz.f98 ((x0.1, x0.2) : List TSigned × List TEntry) = zq26 x0 := by kernel_rfl
theorem zq26.ok : V.Valid Tryz.prog 98 zq26.con :=
  V.fo (V.tab_cons zq16.ok (V.tab_cons zq64.ok (V.tab_cons zq3.ok V.tab_nil))) Tryz.func98 (by kernel_rfl) (fun x y h => (show V.evBody zq26.E zq26.con Tryz.f98 x = _ from zq26.eq x).trans (V.cfl (by kernel_rfl) h))
noncomputable abbrev zq124.con : V.Con := ⟨(.cons (.sl (.cons (.int .i64) .nil)) .nil), (.cons (.sl (.cons (.int .i64) .nil)) .nil), fun (x : List Int) => zq124 x, [], [(false, 1)], [(false, 1)], [true], []⟩
noncomputable abbrev zq124.E : V.Env := V.mkE V.tys [] [] [] [] [] []
theorem zq124.eq (x0 : List Int) : V.evBody zq124.E zq124.con Tryz.f319 ((x0) : List Int) = zq124 x0 := by kernel_rfl
theorem zq124.ok : V.Valid Tryz.prog 319 zq124.con :=
  V.fo V.tab_nil Tryz.func319 (by kernel_rfl) (fun x y h => (show V.evBody zq124.E zq124.con Tryz.f319 x = _ from zq124.eq x).trans (V.cfl (by kernel_rfl) h))
noncomputable abbrev zq53.con : V.Con := ⟨(.cons (.sl (.cons (.int .i64) .nil)) (.cons (.int .i64) .nil)), (.cons (.sl (.cons (.int .i64) .nil)) (.cons (.int .i64) .nil)), fun (x : List Int × Int) => zq53 x, [], [(true, 2)], [(true, 2)], [true, false], []⟩
noncomputable abbrev zq53.E : V.Env := V.mkE V.tys [(319, zq124.con)] [] [(1, 5)] [] [] []
theorem zq53.eq (x0 : TKeys) : V.evBody zq53.E zq53.con Tryz.f184 ((x0.1, x0.2) : List Int × Int) = zq53 x0 := by kernel_rfl
theorem zq53.ok : V.Valid Tryz.prog 184 zq53.con :=
  V.fo (V.tab_cons zq124.ok V.tab_nil) Tryz.func184 (by kernel_rfl) (fun x y h => (show V.evBody zq53.E zq53.con Tryz.f184 x = _ from zq53.eq x).trans (V.cfl (by kernel_rfl) h))
noncomputable abbrev zq52.con : V.Con := ⟨V.A2, V.eHead, fun (x : V.D2) => zq52 (V.p2_0 x), [], [(true, 16)], [(true, 16)], [false, false, false, false, false, false, false, false, true, false, true, false, false, true, false, false], []⟩
noncomputable abbrev zq52.E : V.Env := V.mkE V.tys [(184, zq53.con)] [] [(1, 10)] [] [] []
noncomputable abbrev zq52.kt (x0 : THead) : V.Kt THead := V.ktOf zq52.E zq52.con Tryz.f183 (V.fl2 x0)
noncomputable abbrev zq52.s (x0 : THead) : V.St := ⟨[(0, .v true [.val (.int .i64 x0.1), .val (.int .i64 x0.2.1), .val (.int .i64 x0.2.2.1), .val (.int .i64 x0.2.2.2.1), .val (.int .i64 x0.2.2.2.2.1), .val (.int .i64 x0.2.2.2.2.2.1), .val (.int .i64 x0.2.2.2.2.2.2.1), .val (.int .i64 x0.2.2.2.2.2.2.2.1), .val (.sl (.cons (.int .i64) .nil) x0.2.2.2.2.2.2.2.2.1), .val (.int .i64 x0.2.2.2.2.2.2.2.2.2.1), .val (.sl (.cons (.int .i64) .nil) x0.2.2.2.2.2.2.2.2.2.2.1), .val (.int .i64 x0.2.2.2.2.2.2.2.2.2.2.2.1), .val (.int .i64 x0.2.2.2.2.2.2.2.2.2.2.2.2.1), .val (.sl (.cons (.int .i64) .nil) x0.2.2.2.2.2.2.2.2.2.2.2.2.2.1), .val (.int .i64 x0.2.2.2.2.2.2.2.2.2.2.2.2.2.2.1), .val (.bool x0.2.2.2.2.2.2.2.2.2.2.2.2.2.2.2)])], []⟩
theorem zq52.v0 (x0 : THead) : V.evBody zq52.E zq52.con Tryz.f183 (V.fl2 x0) = V.evC zq52.E Tryz.f183.ntmps (V.codeOf Tryz.f183) (zq52.kt x0) (zq52.s x0) := by kernel_rfl
theorem zq52.v (x0 : THead) : V.evC zq52.E Tryz.f183.ntmps (V.codeOf Tryz.f183) (zq52.kt x0) (zq52.s x0) = zq52 x0 := by kernel_rfl
theorem zq52.eq (x0 : THead) : V.evBody zq52.E zq52.con Tryz.f183 (V.fl2 x0) = zq52 x0 := (zq52.v0 x0).trans (zq52.v x0)
theorem zq52.ok : V.Valid Tryz.prog 183 zq52.con :=
  V.fo (V.tab_cons zq53.ok V.tab_nil) Tryz.func183 (by kernel_rfl) (fun x y h => (show V.evBody zq52.E zq52.con Tryz.f183 x = _ from zq52.eq (V.p2_0 x)).trans (V.cfl (by kernel_rfl) h))
noncomputable abbrev zq123.con : V.Con := ⟨(.cons (.sl (.cons (.int .i64) (.cons (.int .i64) .nil))) .nil), (.cons (.sl (.cons (.int .i64) (.cons (.int .i64) .nil))) .nil), fun (x : List TSig) => zq123 x, [], [(false, 1)], [(false, 1)], [true], []⟩
noncomputable abbrev zq123.E : V.Env := V.mkE V.tys [] [] [] [] [] []
theorem zq123.eq (x0 : List TSig) : V.evBody zq123.E zq123.con Tryz.f311 ((x0) : List TSig) = zq123 x0 := by kernel_rfl
theorem zq123.ok : V.Valid Tryz.prog 311 zq123.con :=
  V.fo V.tab_nil Tryz.func311 (by kernel_rfl) (fun x y h => (show V.evBody zq123.E zq123.con Tryz.f311 x = _ from zq123.eq x).trans (V.cfl (by kernel_rfl) h))
noncomputable abbrev zq54.con : V.Con := ⟨V.A3, V.eSigned, fun (x : V.D3) => zq54 (V.p3_0 x), [], [(true, 17)], [(true, 17)], [false, false, false, false, false, false, false, false, true, false, true, false, false, true, false, false, true], []⟩
noncomputable abbrev zq54.E : V.Env := V.mkE V.tys [(183, zq52.con), (311, zq123.con)] [] [(1, 5)] [] [] []
noncomputable abbrev zq54.kt (x0 : TSigned) : V.Kt TSigned := V.ktOf zq54.E zq54.con Tryz.f174 (V.fl3 x0)
noncomputable abbrev zq54.s (x0 : TSigned) : V.St := ⟨[(0, .v true [.val (.int .i64 x0.1), .val (.int .i64 x0.2.1), .val (.int .i64 x0.2.2.1), .val (.int .i64 x0.2.2.2.1), .val (.int .i64 x0.2.2.2.2.1), .val (.int .i64 x0.2.2.2.2.2.1), .val (.int .i64 x0.2.2.2.2.2.2.1), .val (.int .i64 x0.2.2.2.2.2.2.2.1), .val (.sl (.cons (.int .i64) .nil) x0.2.2.2.2.2.2.2.2.1), .val (.int .i64 x0.2.2.2.2.2.2.2.2.2.1), .val (.sl (.cons (.int .i64) .nil) x0.2.2.2.2.2.2.2.2.2.2.1), .val (.int .i64 x0.2.2.2.2.2.2.2.2.2.2.2.1), .val (.int .i64 x0.2.2.2.2.2.2.2.2.2.2.2.2.1), .val (.sl (.cons (.int .i64) .nil) x0.2.2.2.2.2.2.2.2.2.2.2.2.2.1), .val (.int .i64 x0.2.2.2.2.2.2.2.2.2.2.2.2.2.2.1), .val (.bool x0.2.2.2.2.2.2.2.2.2.2.2.2.2.2.2.1), .val (.sl (.cons (.int .i64) (.cons (.int .i64) .nil)) x0.2.2.2.2.2.2.2.2.2.2.2.2.2.2.2.2)])], []⟩
theorem zq54.v0 (x0 : TSigned) : V.evBody zq54.E zq54.con Tryz.f174 (V.fl3 x0) = V.evC zq54.E Tryz.f174.ntmps (V.codeOf Tryz.f174) (zq54.kt x0) (zq54.s x0) := by kernel_rfl
theorem zq54.v (x0 : TSigned) : V.evC zq54.E Tryz.f174.ntmps (V.codeOf Tryz.f174) (zq54.kt x0) (zq54.s x0) = zq54 x0 := by kernel_rfl
theorem zq54.eq (x0 : TSigned) : V.evBody zq54.E zq54.con Tryz.f174 (V.fl3 x0) = zq54 x0 := (zq54.v0 x0).trans (zq54.v x0)
theorem zq54.ok : V.Valid Tryz.prog 174 zq54.con :=
  V.fo (V.tab_cons zq52.ok (V.tab_cons zq123.ok V.tab_nil)) Tryz.func174 (by kernel_rfl) (fun x y h => (show V.evBody zq54.E zq54.con Tryz.f174 x = _ from zq54.eq (V.p3_0 x)).trans (V.cfl (by kernel_rfl) h))
noncomputable abbrev zq50.con : V.Con := ⟨(.cons (.sl V.eSigned) .nil), (.cons (.sl V.eSigned) .nil), fun (x : List TSigned) => zq50 x, [], [(false, 1)], [(false, 1)], [true], []⟩
noncomputable abbrev zq50.E : V.Env := V.mkE V.tys [(174, zq54.con)] [(6, [3, 7, 8, 9], [(64000038400192, V.eSigned, true)])] [] [] [] []
noncomputable abbrev zq50.kt (x0 : List TSigned) : V.Kt (List TSigned) := V.ktOf zq50.E zq50.con Tryz.f171 ((x0) : List TSigned)
noncomputable abbrev zq50.s6 (x0 : List TSigned) (v6_1 : Int) (v6_2 : Int) (v6_3 : List TSigned) : V.St := ⟨[(3, .v false [.ref 64000038400192]), (7, .v false [.val (.sl V.eSigned x0)]), (8, .v false [.val (.int .i64 v6_1)]), (9, .v false [.val (.int .i64 v6_2)])], [(64000038400192, .row V.eSigned true v6_3)]⟩
theorem zq50.r6 (x0 : List TSigned) (R : V.St → Option (List TSigned)) (v6_1 : Int) (v6_2 : Int) (v6_3 : List TSigned) : V.loopF zq50.E Tryz.f171.ntmps [1, 1, 0, 1, 0] [] (V.codeOf Tryz.f171) (zq50.kt x0) R (zq50.s6 x0 v6_1 v6_2 v6_3) = zq50.g6 x0 (fun v6_1 v6_2 v6_3 => R (zq50.s6 x0 v6_1 v6_2 v6_3)) v6_1 v6_2 v6_3 := by kernel_rfl
theorem zq50.e6 (x0 : List TSigned) : ∀ (n : Nat) (v6_1 : Int) (v6_2 : Int) (v6_3 : List TSigned), V.loopN (V.loopF zq50.E Tryz.f171.ntmps [1, 1, 0, 1, 0] [] (V.codeOf Tryz.f171) (zq50.kt x0)) n (zq50.s6 x0 v6_1 v6_2 v6_3) = zq50.l6 x0 n v6_1 v6_2 v6_3 := by
  intro n
  induction n with
  | zero => intros; rw [V.loopN_z]; rfl
  | succ n ih =>
    intro v6_1 v6_2 v6_3
    rw [V.loopN_s, zq50.r6]
    simp only [ih]
    first | exact (zq50.u6 ..).symm | rfl
theorem zq50.v (x0 : List TSigned) : V.evBody zq50.E zq50.con Tryz.f171 ((x0) : List TSigned) = zq50.b x0 (fun v6_1 v6_2 v6_3 => V.loopN (V.loopF zq50.E Tryz.f171.ntmps [1, 1, 0, 1, 0] [] (V.codeOf Tryz.f171) (zq50.kt x0)) V.KK (zq50.s6 x0 v6_1 v6_2 v6_3)) := by kernel_rfl
theorem zq50.eq (x0 : List TSigned) : V.evBody zq50.E zq50.con Tryz.f171 ((x0) : List TSigned) = zq50 x0 := by
  rw [zq50.v]
  simp only [zq50.e6]
  rfl
theorem zq50.ok : V.Valid Tryz.prog 171 zq50.con :=
  V.fo (V.tab_cons zq54.ok V.tab_nil) Tryz.func171 (by kernel_rfl) (fun x y h => (show V.evBody zq50.E zq50.con Tryz.f171 x = _ from zq50.eq x).trans (V.cfl (by kernel_rfl) h))
noncomputable abbrev zq10.con : V.Con := ⟨(.cons .str (.cons (.int .i64) (.cons (.int .i64) (.cons (.sl (.cons .str .nil)) (.cons (.ptr (.cons .str .nil)) .nil))))), (.cons .bool .nil), fun (x : ByteArray × Int × Int × List ByteArray × ByteArray) => zq10 (x.1, x.2.1, x.2.2.1, x.2.2.2.1) x.2.2.2.2, [], [(true, 4), (false, 1)], [(false, 1)], [false], []⟩
noncomputable abbrev zq10.E : V.Env := V.mkE V.tys [] [] [] [] [] []
theorem zq10.eq (x0 : TEntry) (x1 : ByteArray) : V.evBody zq10.E zq10.con Tryz.f374 ((x0.1, x0.2.1, x0.2.2.1, x0.2.2.2, x1) : ByteArray × Int × Int × List ByteArray × ByteArray) = zq10 x0 x1 := by kernel_rfl
theorem zq10.ok : V.Valid Tryz.prog 374 zq10.con :=
  V.fo V.tab_nil Tryz.func374 (by kernel_rfl) (fun x y h => (show V.evBody zq10.E zq10.con Tryz.f374 x = _ from zq10.eq (x.1, x.2.1, x.2.2.1, x.2.2.2.1) x.2.2.2.2).trans (V.cfl (by kernel_rfl) h))
noncomputable abbrev zq131.con : V.Con := ⟨(.cons (.sl V.eEntry) (.cons (.fn 374 false .nil (.cons (.ptr (.cons .str .nil)) .nil)) .nil)), (.cons (.int .i64) .nil), fun (x : List TEntry × (Unit) × (ByteArray)) => zq131 x.1 x.2, [], [(false, 1), (false, 1)], [(false, 1)], [false], []⟩
noncomputable abbrev zq131.E : V.Env := V.mkE V.tys [(374, zq10.con)] [(4, [0, 1, 7, 8], [])] [] [] [] []
noncomputable abbrev zq131.kt (x0 : List TEntry) (x1 : (Unit) × (ByteArray)) : V.Kt Int := V.ktOf zq131.E zq131.con Tryz.f373 ((x0, x1) : List TEntry × (Unit) × (ByteArray))
noncomputable abbrev zq131.s4 (x0 : List TEntry) (x1 : (Unit) × (ByteArray)) (v4_2 : Int) (v4_3 : Int) : V.St := ⟨[(0, .v false [.val (.sl V.eEntry x0)]), (1, .v false [.val (.fn 374 false .nil (.cons (.ptr (.cons .str .nil)) .nil) () x1.2)]), (7, .v false [.val (.int .i64 v4_2)]), (8, .v false [.val (.int .i64 v4_3)])], []⟩
theorem zq131.r4 (x0 : List TEntry) (x1 : (Unit) × (ByteArray)) (R : V.St → Option Int) (v4_2 : Int) (v4_3 : Int) : V.loopF zq131.E Tryz.f373.ntmps [1, 0, 1, 0] [] (V.codeOf Tryz.f373) (zq131.kt x0 x1) R (zq131.s4 x0 x1 v4_2 v4_3) = zq131.g4 x0 x1 (fun v4_2 v4_3 => R (zq131.s4 x0 x1 v4_2 v4_3)) v4_2 v4_3 := by kernel_rfl
theorem zq131.e4 (x0 : List TEntry) (x1 : (Unit) × (ByteArray)) : ∀ (n : Nat) (v4_2 : Int) (v4_3 : Int), V.loopN (V.loopF zq131.E Tryz.f373.ntmps [1, 0, 1, 0] [] (V.codeOf Tryz.f373) (zq131.kt x0 x1)) n (zq131.s4 x0 x1 v4_2 v4_3) = zq131.l4 x0 x1 n v4_2 v4_3 := by
  intro n
  induction n with
  | zero => intros; rw [V.loopN_z]; rfl
  | succ n ih =>
    intro v4_2 v4_3
    rw [V.loopN_s, zq131.r4]
    simp only [ih]
    first | exact (zq131.u4 ..).symm | rfl
theorem zq131.v (x0 : List TEntry) (x1 : (Unit) × (ByteArray)) : V.evBody zq131.E zq131.con Tryz.f373 ((x0, x1) : List TEntry × (Unit) × (ByteArray)) = zq131.b x0 x1 (fun v4_2 v4_3 => V.loopN (V.loopF zq131.E Tryz.f373.ntmps [1, 0, 1, 0] [] (V.codeOf Tryz.f373) (zq131.kt x0 x1)) V.KK (zq131.s4 x0 x1 v4_2 v4_3)) := by kernel_rfl
theorem zq131.eq (x0 : List TEntry) (x1 : (Unit) × (ByteArray)) : V.evBody zq131.E zq131.con Tryz.f373 ((x0, x1) : List TEntry × (Unit) × (ByteArray)) = zq131 x0 x1 := by
  rw [zq131.v]
  simp only [zq131.e4]
  rfl
theorem zq131.ok : V.Valid Tryz.prog 373 zq131.con :=
  V.fo (V.tab_cons zq10.ok V.tab_nil) Tryz.func373 (by kernel_rfl) (fun x y h => (show V.evBody zq131.E zq131.con Tryz.f373 x = _ from zq131.eq x.1 x.2).trans (V.cfl (by kernel_rfl) h))
noncomputable abbrev zq9.con : V.Con := ⟨(.cons (.sl V.eEntry) (.cons .str .nil)), (.cons (.int .i64) .nil), fun (x : List TEntry × ByteArray) => zq9 x.1 x.2, [], [(false, 1), (false, 1)], [(false, 1)], [false], []⟩
noncomputable abbrev zq9.E : V.Env := V.mkE V.tys [(373, zq131.con)] [] [] [] [] []
theorem zq9.eq (x0 : List TEntry) (x1 : ByteArray) : V.evBody zq9.E zq9.con Tryz.f281 ((x0, x1) : List TEntry × ByteArray) = zq9 x0 x1 := by kernel_rfl
theorem zq9.ok : V.Valid Tryz.prog 281 zq9.con :=
  V.fo (V.tab_cons zq131.ok V.tab_nil) Tryz.func281 (by kernel_rfl) (fun x y h => (show V.evBody zq9.E zq9.con Tryz.f281 x = _ from zq9.eq x.1 x.2).trans (V.cfl (by kernel_rfl) h))
noncomputable abbrev zq125.con : V.Con := ⟨(.cons (.sl (.cons .str .nil)) .nil), (.cons (.sl (.cons .str .nil)) .nil), fun (x : List ByteArray) => zq125 x, [], [(false, 1)], [(false, 1)], [true], []⟩
noncomputable abbrev zq125.E : V.Env := V.mkE V.tys [] [] [] [] [] []
theorem zq125.eq (x0 : List ByteArray) : V.evBody zq125.E zq125.con Tryz.f375 ((x0) : List ByteArray) = zq125 x0 := by kernel_rfl
theorem zq125.ok : V.Valid Tryz.prog 375 zq125.con :=
  V.fo V.tab_nil Tryz.func375 (by kernel_rfl) (fun x y h => (show V.evBody zq125.E zq125.con Tryz.f375 x = _ from zq125.eq x).trans (V.cfl (by kernel_rfl) h))
noncomputable abbrev zq51.con : V.Con := ⟨V.eEntry, V.eEntry, fun (x : ByteArray × Int × Int × List ByteArray) => zq51 x, [], [(true, 4)], [(true, 4)], [false, false, false, true], []⟩
noncomputable abbrev zq51.E : V.Env := V.mkE V.tys [(375, zq125.con)] [] [] [] [] []
theorem zq51.eq (x0 : TEntry) : V.evBody zq51.E zq51.con Tryz.f282 ((x0.1, x0.2.1, x0.2.2.1, x0.2.2.2) : ByteArray × Int × Int × List ByteArray) = zq51 x0 := by kernel_rfl
theorem zq51.ok : V.Valid Tryz.prog 282 zq51.con :=
  V.fo (V.tab_cons zq125.ok V.tab_nil) Tryz.func282 (by kernel_rfl) (fun x y h => (show V.evBody zq51.E zq51.con Tryz.f282 x = _ from zq51.eq x).trans (V.cfl (by kernel_rfl) h))
noncomputable abbrev zq37.con : V.Con := ⟨(.cons (.sl (.cons (.int .i64) .nil)) (.cons (.int .i64) .nil)), (.cons (.sl (.cons (.int .i64) .nil)) .nil), fun (x : List Int × Int) => zq37 x.1 x.2, [], [(false, 1), (false, 1)], [(false, 1)], [true], []⟩
noncomputable abbrev zq37.E : V.Env := V.mkE V.tys [(178, zq15.con), (408, zq47.con)] [(8, [0, 1, 5], [(0, (.cons (.int .i64) .nil), false), (64000051200320, (.cons (.int .i64) .nil), true)])] [] [] [] []
noncomputable abbrev zq37.kt (x0 : List Int) (x1 : Int) : V.Kt (List Int) := V.ktOf zq37.E zq37.con Tryz.f376 ((x0, x1) : List Int × Int)
noncomputable abbrev zq37.s8 (v8_0 : List Int) (v8_1 : Int) (v8_2 : List Int) : V.St := ⟨[(0, .v false [.val (.sl (.cons (.int .i64) .nil) v8_0)]), (1, .v false [.val (.int .i64 v8_1)]), (5, .v false [.ref 64000051200320])], [(64000051200320, .row (.cons (.int .i64) .nil) true v8_2)]⟩
theorem zq37.r8 (x0 : List Int) (x1 : Int) (R : V.St → Option (List Int)) (v8_0 : List Int) (v8_1 : Int) (v8_2 : List Int) : V.loopF zq37.E Tryz.f376.ntmps [1, 1, 1, 0, 0] [] (V.codeOf Tryz.f376) (zq37.kt x0 x1) R (zq37.s8 v8_0 v8_1 v8_2) = zq37.g8 (fun v8_0 v8_1 v8_2 => R (zq37.s8 v8_0 v8_1 v8_2)) v8_0 v8_1 v8_2 := by kernel_rfl
theorem zq37.e8 (x0 : List Int) (x1 : Int) : ∀ (n : Nat) (v8_0 : List Int) (v8_1 : Int) (v8_2 : List Int), V.loopN (V.loopF zq37.E Tryz.f376.ntmps [1, 1, 1, 0, 0] [] (V.codeOf Tryz.f376) (zq37.kt x0 x1)) n (zq37.s8 v8_0 v8_1 v8_2) = zq37.l8 n v8_0 v8_1 v8_2 := by
  intro n
  induction n with
  | zero => intros; rw [V.loopN_z]; rfl
  | succ n ih =>
    intro v8_0 v8_1 v8_2
    rw [V.loopN_s, zq37.r8]
    simp only [ih]
    first | exact (zq37.u8 ..).symm | rfl
theorem zq37.v (x0 : List Int) (x1 : Int) : V.evBody zq37.E zq37.con Tryz.f376 ((x0, x1) : List Int × Int) = zq37.b x0 x1 (fun v8_0 v8_1 v8_2 => V.loopN (V.loopF zq37.E Tryz.f376.ntmps [1, 1, 1, 0, 0] [] (V.codeOf Tryz.f376) (zq37.kt x0 x1)) V.KK (zq37.s8 v8_0 v8_1 v8_2)) := by kernel_rfl
theorem zq37.eq (x0 : List Int) (x1 : Int) : V.evBody zq37.E zq37.con Tryz.f376 ((x0, x1) : List Int × Int) = zq37 x0 x1 := by
  rw [zq37.v]
  simp only [zq37.e8]
  rfl
theorem zq37.ok : V.Valid Tryz.prog 376 zq37.con :=
  V.fo (V.tab_cons zq15.ok (V.tab_cons zq47.ok V.tab_nil)) Tryz.func376 (by kernel_rfl) (fun x y h => (show V.evBody zq37.E zq37.con Tryz.f376 x = _ from zq37.eq x.1 x.2).trans (V.cfl (by kernel_rfl) h))
noncomputable abbrev zq39.con : V.Con := ⟨(.cons (.sl V.eEntry) (.cons .str .nil)), (.cons (.int .i64) (.cons (.sl (.cons (.int .i64) .nil)) (.cons .bool .nil))), fun (x : List TEntry × ByteArray) => zq39 x.1 x.2, [], [(false, 1), (false, 1)], [(true, 2), (false, 1)], [false, true, false], []⟩
noncomputable abbrev zq39.E : V.Env := V.mkE V.tys [(281, zq9.con), (346, zq31.con), (376, zq37.con)] [] [] [] [] []
theorem zq39.eq (x0 : List TEntry) (x1 : ByteArray) : V.evBody zq39.E zq39.con Tryz.f283 ((x0, x1) : List TEntry × ByteArray) = zq39 x0 x1 := by kernel_rfl
theorem zq39.ok : V.Valid Tryz.prog 283 zq39.con :=
  V.fo (V.tab_cons zq9.ok (V.tab_cons zq31.ok (V.tab_cons zq37.ok V.tab_nil))) Tryz.func283 (by kernel_rfl) (fun x y h => (show V.evBody zq39.E zq39.con Tryz.f283 x = _ from zq39.eq x.1 x.2).trans (V.cfl (by kernel_rfl) h))
noncomputable abbrev zq40.con : V.Con := ⟨(.cons (.sl V.eEntry) (.cons .str .nil)), (.cons (.int .i64) .nil), fun (x : List TEntry × ByteArray) => zq40 x.1 x.2, [], [(false, 1), (false, 1)], [(false, 1)], [false], []⟩
noncomputable abbrev zq40.E : V.Env := V.mkE V.tys [(342, zq4.con)] [(6, [1, 5, 8, 9, 10], [])] [] [] [] []
noncomputable abbrev zq40.kt (x0 : List TEntry) (x1 : ByteArray) : V.Kt Int := V.ktOf zq40.E zq40.con Tryz.f377 ((x0, x1) : List TEntry × ByteArray)
noncomputable abbrev zq40.s6 (x0 : List TEntry) (x1 : ByteArray) (v6_1 : Int) (v6_3 : Int) (v6_4 : Int) : V.St := ⟨[(1, .v false [.val (.str x1)]), (5, .v false [.val (.int .i64 v6_1)]), (8, .v false [.val (.sl V.eEntry x0)]), (9, .v false [.val (.int .i64 v6_3)]), (10, .v false [.val (.int .i64 v6_4)])], []⟩
theorem zq40.r6 (x0 : List TEntry) (x1 : ByteArray) (R : V.St → Option Int) (v6_1 : Int) (v6_3 : Int) (v6_4 : Int) : V.loopF zq40.E Tryz.f377.ntmps [1, 1, 0, 1, 0] [] (V.codeOf Tryz.f377) (zq40.kt x0 x1) R (zq40.s6 x0 x1 v6_1 v6_3 v6_4) = zq40.g6 x0 x1 (fun v6_1 v6_3 v6_4 => R (zq40.s6 x0 x1 v6_1 v6_3 v6_4)) v6_1 v6_3 v6_4 := by kernel_rfl
theorem zq40.e6 (x0 : List TEntry) (x1 : ByteArray) : ∀ (n : Nat) (v6_1 : Int) (v6_3 : Int) (v6_4 : Int), V.loopN (V.loopF zq40.E Tryz.f377.ntmps [1, 1, 0, 1, 0] [] (V.codeOf Tryz.f377) (zq40.kt x0 x1)) n (zq40.s6 x0 x1 v6_1 v6_3 v6_4) = zq40.l6 x0 x1 n v6_1 v6_3 v6_4 := by
  intro n
  induction n with
  | zero => intros; rw [V.loopN_z]; rfl
  | succ n ih =>
    intro v6_1 v6_3 v6_4
    rw [V.loopN_s, zq40.r6]
    simp only [ih]
    first | exact (zq40.u6 ..).symm | rfl
theorem zq40.v (x0 : List TEntry) (x1 : ByteArray) : V.evBody zq40.E zq40.con Tryz.f377 ((x0, x1) : List TEntry × ByteArray) = zq40.b x0 x1 (fun v6_1 v6_3 v6_4 => V.loopN (V.loopF zq40.E Tryz.f377.ntmps [1, 1, 0, 1, 0] [] (V.codeOf Tryz.f377) (zq40.kt x0 x1)) V.KK (zq40.s6 x0 x1 v6_1 v6_3 v6_4)) := by kernel_rfl
theorem zq40.eq (x0 : List TEntry) (x1 : ByteArray) : V.evBody zq40.E zq40.con Tryz.f377 ((x0, x1) : List TEntry × ByteArray) = zq40 x0 x1 := by
  rw [zq40.v]
  simp only [zq40.e6]
  rfl
theorem zq40.ok : V.Valid Tryz.prog 377 zq40.con :=
  V.fo (V.tab_cons zq4.ok V.tab_nil) Tryz.func377 (by kernel_rfl) (fun x y h => (show V.evBody zq40.E zq40.con Tryz.f377 x = _ from zq40.eq x.1 x.2).trans (V.cfl (by kernel_rfl) h))
noncomputable abbrev zq38.con : V.Con := ⟨(.cons (.sl V.eEntry) (.cons .str .nil)), V.eRGapBool, fun (x : List TEntry × ByteArray) => zq38 x.1 x.2, [], [(false, 1), (false, 1)], [(true, 13), (false, 1)], [false, false, false, false, true, false, false, false, true, false, true, false, true, false], []⟩
noncomputable abbrev zq38.E : V.Env := V.mkE V.tys [(220, zq1.con), (280, zq21.con), (281, zq9.con), (282, zq51.con), (283, zq39.con), (377, zq40.con)] [(5, [0, 1, 4, 20], []), (15, [0, 4, 6], [(64000000000016400388, (.cons .str .nil), true), (64000000000016400394, (.cons (.int .i64) .nil), true)])] [] [] [] []
noncomputable abbrev zq38.kt (x0 : List TEntry) (x1 : ByteArray) : V.Kt TRGapBool := V.ktOf zq38.E zq38.con Tryz.f284 ((x0, x1) : List TEntry × ByteArray)
noncomputable abbrev zq38.s15 (x0 : List TEntry) (y2 : Int) (v15_11 : ByteArray) (v15_12 : Int) (v15_13 : Int) (v15_17 : Int) (v15_19 : List ByteArray) (v15_20 : List Int) : V.St := ⟨[(0, .v false [.val (.sl V.eEntry x0)]), (4, .v false [.ptr 64000 0]), (6, .v false [.ptr 256256 0])], [(64000, .box [.val (.int .i64 (0 : Int)), .val (.str (⟨#[]⟩ : ByteArray)), .val (.int .i64 (0 : Int)), .val (.int .i64 (0 : Int)), .nil0, .val (.str (⟨#[]⟩ : ByteArray)), .val (.int .i64 (0 : Int)), .val (.int .i64 (0 : Int)), .nil0, .val (.int .i64 (0 : Int)), .nil0, .val (.int .i64 (0 : Int)), .nil0]), (256256, .box [.val (.int .i64 y2), .val (.str v15_11), .val (.int .i64 v15_12), .val (.int .i64 v15_13), .ref 64000000000016400388, .val (.str (⟨#[]⟩ : ByteArray)), .val (.int .i64 (0 : Int)), .val (.int .i64 (0 : Int)), .nil0, .val (.int .i64 v15_17), .ref 64000000000016400394, .val (.int .i64 (0 : Int)), .nil0]), (64000000000016400388, .row (.cons .str .nil) true v15_19), (64000000000016400394, .row (.cons (.int .i64) .nil) true v15_20)]⟩
noncomputable abbrev zq38.s5 (x0 : List TEntry) (x1 : ByteArray) (v5_2 : Bool) : V.St := ⟨[(0, .v false [.val (.sl V.eEntry x0)]), (1, .v false [.val (.str x1)]), (4, .v false [.ptr 64000 0]), (20, .v false [.val (.bool v5_2)])], [(64000, .box [.val (.int .i64 (0 : Int)), .val (.str (⟨#[]⟩ : ByteArray)), .val (.int .i64 (0 : Int)), .val (.int .i64 (0 : Int)), .nil0, .val (.str (⟨#[]⟩ : ByteArray)), .val (.int .i64 (0 : Int)), .val (.int .i64 (0 : Int)), .nil0, .val (.int .i64 (0 : Int)), .nil0, .val (.int .i64 (0 : Int)), .nil0])]⟩
theorem zq38.r15 (x0 : List TEntry) (x1 : ByteArray) (y2 : Int) (v15_11 : ByteArray) (v15_12 : Int) (v15_13 : Int) (v15_17 : Int) (v15_19 : List ByteArray) (v15_20 : List Int) : V.joinF zq38.E Tryz.f284.ntmps [1, 1, 1] [] (V.codeOf Tryz.f284) (zq38.kt x0 x1) (zq38.s15 x0 y2 v15_11 v15_12 v15_13 v15_17 v15_19 v15_20) = zq38.g15 x0 y2 v15_11 v15_12 v15_13 v15_17 v15_19 v15_20 := by kernel_rfl
theorem zq38.e15 (x0 : List TEntry) (x1 : ByteArray) (y2 : Int) (v15_11 : ByteArray) (v15_12 : Int) (v15_13 : Int) (v15_17 : Int) (v15_19 : List ByteArray) (v15_20 : List Int) : V.jn (V.joinF zq38.E Tryz.f284.ntmps [1, 1, 1] [] (V.codeOf Tryz.f284) (zq38.kt x0 x1)) (zq38.s15 x0 y2 v15_11 v15_12 v15_13 v15_17 v15_19 v15_20) = zq38.l15 x0 y2 v15_11 v15_12 v15_13 v15_17 v15_19 v15_20 := by
  rw [V.jn_eq, zq38.r15]
  rfl
theorem zq38.r5 (x0 : List TEntry) (x1 : ByteArray) (v5_2 : Bool) : V.joinF zq38.E Tryz.f284.ntmps [1, 0] [] (V.codeOf Tryz.f284) (zq38.kt x0 x1) (zq38.s5 x0 x1 v5_2) = zq38.g5 x0 x1 (fun y2 v15_11 v15_12 v15_13 v15_17 v15_19 v15_20 => V.jn (V.joinF zq38.E Tryz.f284.ntmps [1, 1, 1] [] (V.codeOf Tryz.f284) (zq38.kt x0 x1)) (zq38.s15 x0 y2 v15_11 v15_12 v15_13 v15_17 v15_19 v15_20)) v5_2 := by kernel_rfl
theorem zq38.e5 (x0 : List TEntry) (x1 : ByteArray) (v5_2 : Bool) : V.jn (V.joinF zq38.E Tryz.f284.ntmps [1, 0] [] (V.codeOf Tryz.f284) (zq38.kt x0 x1)) (zq38.s5 x0 x1 v5_2) = zq38.l5 x0 x1 v5_2 := by
  rw [V.jn_eq, zq38.r5]
  simp only [zq38.e15]
  rfl
theorem zq38.v (x0 : List TEntry) (x1 : ByteArray) : V.evBody zq38.E zq38.con Tryz.f284 ((x0, x1) : List TEntry × ByteArray) = zq38.b x0 x1 (fun v5_2 => V.jn (V.joinF zq38.E Tryz.f284.ntmps [1, 0] [] (V.codeOf Tryz.f284) (zq38.kt x0 x1)) (zq38.s5 x0 x1 v5_2)) := by kernel_rfl
theorem zq38.eq (x0 : List TEntry) (x1 : ByteArray) : V.evBody zq38.E zq38.con Tryz.f284 ((x0, x1) : List TEntry × ByteArray) = zq38 x0 x1 := by
  rw [zq38.v]
  simp only [zq38.e5]
  rfl
theorem zq38.ok : V.Valid Tryz.prog 284 zq38.con :=
  V.fo (V.tab_cons zq1.ok (V.tab_cons zq21.ok (V.tab_cons zq9.ok (V.tab_cons zq51.ok (V.tab_cons zq39.ok (V.tab_cons zq40.ok V.tab_nil)))))) Tryz.func284 (by kernel_rfl) (fun x y h => (show V.evBody zq38.E zq38.con Tryz.f284 x = _ from zq38.eq x.1 x.2).trans (V.cfl (by kernel_rfl) h))
noncomputable abbrev zq0.con : V.Con := ⟨(.cons (.sl V.eSigned) (.cons (.sl V.eEntry) (.cons .str .nil))), V.eAnswer, fun (x : List TSigned × List TEntry × ByteArray) => zq0 (x.1, x.2.1) x.2.2, [], [(true, 2), (false, 1)], [(true, 21)], [true, false, false, false, false, true, false, true, false, false, false, false, true, false, false, false, true, false, true, false, true], []⟩
noncomputable abbrev zq0.E : V.Env := V.mkE V.tys [(98, zq26.con), (171, zq50.con), (280, zq21.con), (281, zq9.con), (282, zq51.con), (283, zq39.con), (284, zq38.con)] [(7, [1, 2, 4], [])] [] [] [] []
noncomputable abbrev zq0.kt (x0 : TZone) (x1 : ByteArray) : V.Kt TAnswer := V.ktOf zq0.E zq0.con Tryz.f133 ((x0.1, x0.2, x1) : List TSigned × List TEntry × ByteArray)
noncomputable abbrev zq0.s7 (x0 : TZone) (x1 : ByteArray) : V.St := ⟨[(1, .v false [.val (.str x1)]), (2, .v false [.ptr 64000 0]), (4, .v false [.ptr 64064 0])], [(64000, .box [.val (.sl V.eSigned x0.1), .val (.sl V.eEntry x0.2)]), (64064, .box [.nil0, .val (.bool false), .val (.str (⟨#[]⟩ : ByteArray)), .val (.int .i64 (0 : Int)), .val (.int .i64 (0 : Int)), .nil0, .val (.int .i64 (0 : Int)), .nil0, .val (.int .i64 (0 : Int)), .val (.str (⟨#[]⟩ : ByteArray)), .val (.int .i64 (0 : Int)), .val (.int .i64 (0 : Int)), .nil0, .val (.str (⟨#[]⟩ : ByteArray)), .val (.int .i64 (0 : Int)), .val (.int .i64 (0 : Int)), .nil0, .val (.int .i64 (0 : Int)), .nil0, .val (.int .i64 (0 : Int)), .nil0])]⟩
theorem zq0.r7 (x0 : TZone) (x1 : ByteArray) : V.joinF zq0.E Tryz.f133.ntmps [1] [] (V.codeOf Tryz.f133) (zq0.kt x0 x1) (zq0.s7 x0 x1) = zq0.g7 x0 x1 := by kernel_rfl
theorem zq0.e7 (x0 : TZone) (x1 : ByteArray) : V.jn (V.joinF zq0.E Tryz.f133.ntmps [1] [] (V.codeOf Tryz.f133) (zq0.kt x0 x1)) (zq0.s7 x0 x1) = zq0.l7 x0 x1 := by
  rw [V.jn_eq, zq0.r7]
  rfl
theorem zq0.v (x0 : TZone) (x1 : ByteArray) : V.evBody zq0.E zq0.con Tryz.f133 ((x0.1, x0.2, x1) : List TSigned × List TEntry × ByteArray) = zq0.b x0 x1 (V.jn (V.joinF zq0.E Tryz.f133.ntmps [1] [] (V.codeOf Tryz.f133) (zq0.kt x0 x1)) (zq0.s7 x0 x1)) := by kernel_rfl
theorem zq0.eq (x0 : TZone) (x1 : ByteArray) : V.evBody zq0.E zq0.con Tryz.f133 ((x0.1, x0.2, x1) : List TSigned × List TEntry × ByteArray) = zq0 x0 x1 := by
  rw [zq0.v]
  simp only [zq0.e7]
  rfl
theorem zq0.ok : V.Valid Tryz.prog 133 zq0.con :=
  V.fo (V.tab_cons zq26.ok (V.tab_cons zq50.ok (V.tab_cons zq21.ok (V.tab_cons zq9.ok (V.tab_cons zq51.ok (V.tab_cons zq39.ok (V.tab_cons zq38.ok V.tab_nil))))))) Tryz.func133 (by kernel_rfl) (fun x y h => (show V.evBody zq0.E zq0.con Tryz.f133 x = _ from zq0.eq (x.1, x.2.1) x.2.2).trans (V.cfl (by kernel_rfl) h))
noncomputable abbrev zq74.con : V.Con := ⟨(.cons (.sl (.cons (.int .i64) .nil)) (.cons (.sl (.cons (.int .i64) .nil)) .nil)), (.cons .bool .nil), fun (x : List Int × List Int) => zq74 x.1 x.2, [], [(false, 1), (false, 1)], [(false, 1)], [false], []⟩
noncomputable abbrev zq74.E : V.Env := V.mkE V.tys [] [(8, [0, 1, 5], [])] [(6, 8)] [] [] []
noncomputable abbrev zq74.kt (x0 : List Int) (x1 : List Int) : V.Kt Bool := V.ktOf zq74.E zq74.con Tryz.f89 ((x0, x1) : List Int × List Int)
noncomputable abbrev zq74.s8 (x0 : List Int) (x1 : List Int) (v8_2 : Int) : V.St := ⟨[(0, .v false [.val (.sl (.cons (.int .i64) .nil) x0)]), (1, .v false [.val (.sl (.cons (.int .i64) .nil) x1)]), (5, .v false [.val (.int .i64 v8_2)])], []⟩
theorem zq74.r8 (x0 : List Int) (x1 : List Int) (R : V.St → Option Bool) (v8_2 : Int) : V.loopF zq74.E Tryz.f89.ntmps [1, 1, 0, 1, 0] [] (V.codeOf Tryz.f89) (zq74.kt x0 x1) R (zq74.s8 x0 x1 v8_2) = zq74.g8 x0 x1 (fun v8_2 => R (zq74.s8 x0 x1 v8_2)) v8_2 := by kernel_rfl
theorem zq74.e8 (x0 : List Int) (x1 : List Int) : ∀ (n : Nat) (v8_2 : Int), V.loopN (V.loopF zq74.E Tryz.f89.ntmps [1, 1, 0, 1, 0] [] (V.codeOf Tryz.f89) (zq74.kt x0 x1)) n (zq74.s8 x0 x1 v8_2) = zq74.l8 x0 x1 n v8_2 := by
  intro n
  induction n with
  | zero => intros; rw [V.loopN_z]; rfl
  | succ n ih =>
    intro v8_2
    rw [V.loopN_s, zq74.r8]
    simp only [ih]
    first | exact (zq74.u8 ..).symm | rfl
theorem zq74.v (x0 : List Int) (x1 : List Int) : V.evBody zq74.E zq74.con Tryz.f89 ((x0, x1) : List Int × List Int) = zq74.b x0 x1 (fun v8_2 => V.loopN (V.loopF zq74.E Tryz.f89.ntmps [1, 1, 0, 1, 0] [] (V.codeOf Tryz.f89) (zq74.kt x0 x1)) V.KK (zq74.s8 x0 x1 v8_2)) := by kernel_rfl
theorem zq74.eq (x0 : List Int) (x1 : List Int) : V.evBody zq74.E zq74.con Tryz.f89 ((x0, x1) : List Int × List Int) = zq74 x0 x1 := by
  rw [zq74.v]
  simp only [zq74.e8]
  rfl
theorem zq74.ok : V.Valid Tryz.prog 89 zq74.con :=
  V.fo V.tab_nil Tryz.func89 (by kernel_rfl) (fun x y h => (show V.evBody zq74.E zq74.con Tryz.f89 x = _ from zq74.eq x.1 x.2).trans (V.cfl (by kernel_rfl) h))
noncomputable abbrev zq75.con : V.Con := ⟨(.cons (.sl (.cons (.int .i64) .nil)) (.cons (.int .i64) (.cons (.sl (.cons (.int .i64) .nil)) (.cons (.int .i64) .nil)))), (.cons .bool .nil), fun (x : List Int × Int × List Int × Int) => zq75 (x.1, x.2.1) x.2.2, [], [(true, 2), (true, 2)], [(false, 1)], [false], []⟩
noncomputable abbrev zq75.E : V.Env := V.mkE V.tys [(89, zq74.con)] [] [] [] [] []
theorem zq75.eq (x0 : TKeys) (x1 : TKeys) : V.evBody zq75.E zq75.con Tryz.f416 ((x0.1, x0.2, x1.1, x1.2) : List Int × Int × List Int × Int) = zq75 x0 x1 := by kernel_rfl
theorem zq75.ok : V.Valid Tryz.prog 416 zq75.con :=
  V.fo (V.tab_cons zq74.ok V.tab_nil) Tryz.func416 (by kernel_rfl) (fun x y h => (show V.evBody zq75.E zq75.con Tryz.f416 x = _ from zq75.eq (x.1, x.2.1) x.2.2).trans (V.cfl (by kernel_rfl) h))
noncomputable abbrev zq73.con : V.Con := ⟨V.A4, (.cons .bool .nil), fun (x : V.D4) => zq73 (V.p4_0 x) (V.p4_1 x), [], [(true, 16), (true, 16)], [(false, 1)], [false], []⟩
noncomputable abbrev zq73.E : V.Env := V.mkE V.tys [(416, zq75.con)] [] [] [] [] []
noncomputable abbrev zq73.kt (x0 : THead) (x1 : THead) : V.Kt Bool := V.ktOf zq73.E zq73.con Tryz.f359 (V.fl4 x0 x1)
noncomputable abbrev zq73.s (x0 : THead) (x1 : THead) : V.St := ⟨[(0, .v true [.val (.int .i64 x0.1), .val (.int .i64 x0.2.1), .val (.int .i64 x0.2.2.1), .val (.int .i64 x0.2.2.2.1), .val (.int .i64 x0.2.2.2.2.1), .val (.int .i64 x0.2.2.2.2.2.1), .val (.int .i64 x0.2.2.2.2.2.2.1), .val (.int .i64 x0.2.2.2.2.2.2.2.1), .val (.sl (.cons (.int .i64) .nil) x0.2.2.2.2.2.2.2.2.1), .val (.int .i64 x0.2.2.2.2.2.2.2.2.2.1), .val (.sl (.cons (.int .i64) .nil) x0.2.2.2.2.2.2.2.2.2.2.1), .val (.int .i64 x0.2.2.2.2.2.2.2.2.2.2.2.1), .val (.int .i64 x0.2.2.2.2.2.2.2.2.2.2.2.2.1), .val (.sl (.cons (.int .i64) .nil) x0.2.2.2.2.2.2.2.2.2.2.2.2.2.1), .val (.int .i64 x0.2.2.2.2.2.2.2.2.2.2.2.2.2.2.1), .val (.bool x0.2.2.2.2.2.2.2.2.2.2.2.2.2.2.2)]), (1, .v true [.val (.int .i64 x1.1), .val (.int .i64 x1.2.1), .val (.int .i64 x1.2.2.1), .val (.int .i64 x1.2.2.2.1), .val (.int .i64 x1.2.2.2.2.1), .val (.int .i64 x1.2.2.2.2.2.1), .val (.int .i64 x1.2.2.2.2.2.2.1), .val (.int .i64 x1.2.2.2.2.2.2.2.1), .val (.sl (.cons (.int .i64) .nil) x1.2.2.2.2.2.2.2.2.1), .val (.int .i64 x1.2.2.2.2.2.2.2.2.2.1), .val (.sl (.cons (.int .i64) .nil) x1.2.2.2.2.2.2.2.2.2.2.1), .val (.int .i64 x1.2.2.2.2.2.2.2.2.2.2.2.1), .val (.int .i64 x1.2.2.2.2.2.2.2.2.2.2.2.2.1), .val (.sl (.cons (.int .i64) .nil) x1.2.2.2.2.2.2.2.2.2.2.2.2.2.1), .val (.int .i64 x1.2.2.2.2.2.2.2.2.2.2.2.2.2.2.1), .val (.bool x1.2.2.2.2.2.2.2.2.2.2.2.2.2.2.2)])], []⟩
theorem zq73.v0 (x0 : THead) (x1 : THead) : V.evBody zq73.E zq73.con Tryz.f359 (V.fl4 x0 x1) = V.evC zq73.E Tryz.f359.ntmps (V.codeOf Tryz.f359) (zq73.kt x0 x1) (zq73.s x0 x1) := by kernel_rfl
theorem zq73.v (x0 : THead) (x1 : THead) : V.evC zq73.E Tryz.f359.ntmps (V.codeOf Tryz.f359) (zq73.kt x0 x1) (zq73.s x0 x1) = zq73 x0 x1 := by kernel_rfl
theorem zq73.eq (x0 : THead) (x1 : THead) : V.evBody zq73.E zq73.con Tryz.f359 (V.fl4 x0 x1) = zq73 x0 x1 := (zq73.v0 x0 x1).trans (zq73.v x0 x1)
theorem zq73.ok : V.Valid Tryz.prog 359 zq73.con :=
  V.fo (V.tab_cons zq75.ok V.tab_nil) Tryz.func359 (by kernel_rfl) (fun x y h => (show V.evBody zq73.E zq73.con Tryz.f359 x = _ from zq73.eq (V.p4_0 x) (V.p4_1 x)).trans (V.cfl (by kernel_rfl) h))
noncomputable abbrev zq77.con : V.Con := ⟨(.cons (.int .i64) (.cons (.int .i64) (.cons (.int .i64) (.cons (.int .i64) .nil)))), (.cons .bool .nil), fun (x : Int × Int × Int × Int) => zq77 (x.1, x.2.1) x.2.2, [], [(true, 2), (true, 2)], [(false, 1)], [false], []⟩
noncomputable abbrev zq77.E : V.Env := V.mkE V.tys [] [] [] [] [] []
theorem zq77.eq (x0 : TSig) (x1 : TSig) : V.evBody zq77.E zq77.con Tryz.f417 ((x0.1, x0.2, x1.1, x1.2) : Int × Int × Int × Int) = zq77 x0 x1 := by kernel_rfl
theorem zq77.ok : V.Valid Tryz.prog 417 zq77.con :=
  V.fo V.tab_nil Tryz.func417 (by kernel_rfl) (fun x y h => (show V.evBody zq77.E zq77.con Tryz.f417 x = _ from zq77.eq (x.1, x.2.1) x.2.2).trans (V.cfl (by kernel_rfl) h))
noncomputable abbrev zq78.con : V.Con := ⟨(.cons (.sl (.cons (.int .i64) (.cons (.int .i64) .nil))) (.cons (.sl (.cons (.int .i64) (.cons (.int .i64) .nil))) .nil)), (.cons .bool .nil), fun (x : List TSig × List TSig) => zq78 x.1 x.2, [], [(false, 1), (false, 1)], [(false, 1)], [false], []⟩
noncomputable abbrev zq78.E : V.Env := V.mkE V.tys [(417, zq77.con)] [(8, [0, 1, 5], [])] [(6, 8)] [] [] []
noncomputable abbrev zq78.kt (x0 : List TSig) (x1 : List TSig) : V.Kt Bool := V.ktOf zq78.E zq78.con Tryz.f360 ((x0, x1) : List TSig × List TSig)
noncomputable abbrev zq78.s8 (x0 : List TSig) (x1 : List TSig) (v8_2 : Int) : V.St := ⟨[(0, .v false [.val (.sl (.cons (.int .i64) (.cons (.int .i64) .nil)) x0)]), (1, .v false [.val (.sl (.cons (.int .i64) (.cons (.int .i64) .nil)) x1)]), (5, .v false [.val (.int .i64 v8_2)])], []⟩
theorem zq78.r8 (x0 : List TSig) (x1 : List TSig) (R : V.St → Option Bool) (v8_2 : Int) : V.loopF zq78.E Tryz.f360.ntmps [1, 1, 0, 1, 0] [] (V.codeOf Tryz.f360) (zq78.kt x0 x1) R (zq78.s8 x0 x1 v8_2) = zq78.g8 x0 x1 (fun v8_2 => R (zq78.s8 x0 x1 v8_2)) v8_2 := by kernel_rfl
theorem zq78.e8 (x0 : List TSig) (x1 : List TSig) : ∀ (n : Nat) (v8_2 : Int), V.loopN (V.loopF zq78.E Tryz.f360.ntmps [1, 1, 0, 1, 0] [] (V.codeOf Tryz.f360) (zq78.kt x0 x1)) n (zq78.s8 x0 x1 v8_2) = zq78.l8 x0 x1 n v8_2 := by
  intro n
  induction n with
  | zero => intros; rw [V.loopN_z]; rfl
  | succ n ih =>
    intro v8_2
    rw [V.loopN_s, zq78.r8]
    simp only [ih]
    first | exact (zq78.u8 ..).symm | rfl
theorem zq78.v (x0 : List TSig) (x1 : List TSig) : V.evBody zq78.E zq78.con Tryz.f360 ((x0, x1) : List TSig × List TSig) = zq78.b x0 x1 (fun v8_2 => V.loopN (V.loopF zq78.E Tryz.f360.ntmps [1, 1, 0, 1, 0] [] (V.codeOf Tryz.f360) (zq78.kt x0 x1)) V.KK (zq78.s8 x0 x1 v8_2)) := by kernel_rfl
theorem zq78.eq (x0 : List TSig) (x1 : List TSig) : V.evBody zq78.E zq78.con Tryz.f360 ((x0, x1) : List TSig × List TSig) = zq78 x0 x1 := by
  rw [zq78.v]
  simp only [zq78.e8]
  rfl
theorem zq78.ok : V.Valid Tryz.prog 360 zq78.con :=
  V.fo (V.tab_cons zq77.ok V.tab_nil) Tryz.func360 (by kernel_rfl) (fun x y h => (show V.evBody zq78.E zq78.con Tryz.f360 x = _ from zq78.eq x.1 x.2).trans (V.cfl (by kernel_rfl) h))
noncomputable abbrev zq79.con : V.Con := ⟨V.A7, (.cons .bool .nil), fun (x : V.D7) => zq79 (V.p7_0 x) (V.p7_1 x), [], [(true, 17), (true, 17)], [(false, 1)], [false], []⟩
noncomputable abbrev zq79.E : V.Env := V.mkE V.tys [(359, zq73.con), (360, zq78.con)] [] [] [] [] []
noncomputable abbrev zq79.kt (x0 : TSigned) (x1 : TSigned) : V.Kt Bool := V.ktOf zq79.E zq79.con Tryz.f246 (V.fl7 x0 x1)
noncomputable abbrev zq79.s (x0 : TSigned) (x1 : TSigned) : V.St := ⟨[(0, .v true [.val (.int .i64 x0.1), .val (.int .i64 x0.2.1), .val (.int .i64 x0.2.2.1), .val (.int .i64 x0.2.2.2.1), .val (.int .i64 x0.2.2.2.2.1), .val (.int .i64 x0.2.2.2.2.2.1), .val (.int .i64 x0.2.2.2.2.2.2.1), .val (.int .i64 x0.2.2.2.2.2.2.2.1), .val (.sl (.cons (.int .i64) .nil) x0.2.2.2.2.2.2.2.2.1), .val (.int .i64 x0.2.2.2.2.2.2.2.2.2.1), .val (.sl (.cons (.int .i64) .nil) x0.2.2.2.2.2.2.2.2.2.2.1), .val (.int .i64 x0.2.2.2.2.2.2.2.2.2.2.2.1), .val (.int .i64 x0.2.2.2.2.2.2.2.2.2.2.2.2.1), .val (.sl (.cons (.int .i64) .nil) x0.2.2.2.2.2.2.2.2.2.2.2.2.2.1), .val (.int .i64 x0.2.2.2.2.2.2.2.2.2.2.2.2.2.2.1), .val (.bool x0.2.2.2.2.2.2.2.2.2.2.2.2.2.2.2.1), .val (.sl (.cons (.int .i64) (.cons (.int .i64) .nil)) x0.2.2.2.2.2.2.2.2.2.2.2.2.2.2.2.2)]), (1, .v true [.val (.int .i64 x1.1), .val (.int .i64 x1.2.1), .val (.int .i64 x1.2.2.1), .val (.int .i64 x1.2.2.2.1), .val (.int .i64 x1.2.2.2.2.1), .val (.int .i64 x1.2.2.2.2.2.1), .val (.int .i64 x1.2.2.2.2.2.2.1), .val (.int .i64 x1.2.2.2.2.2.2.2.1), .val (.sl (.cons (.int .i64) .nil) x1.2.2.2.2.2.2.2.2.1), .val (.int .i64 x1.2.2.2.2.2.2.2.2.2.1), .val (.sl (.cons (.int .i64) .nil) x1.2.2.2.2.2.2.2.2.2.2.1), .val (.int .i64 x1.2.2.2.2.2.2.2.2.2.2.2.1), .val (.int .i64 x1.2.2.2.2.2.2.2.2.2.2.2.2.1), .val (.sl (.cons (.int .i64) .nil) x1.2.2.2.2.2.2.2.2.2.2.2.2.2.1), .val (.int .i64 x1.2.2.2.2.2.2.2.2.2.2.2.2.2.2.1), .val (.bool x1.2.2.2.2.2.2.2.2.2.2.2.2.2.2.2.1), .val (.sl (.cons (.int .i64) (.cons (.int .i64) .nil)) x1.2.2.2.2.2.2.2.2.2.2.2.2.2.2.2.2)])], []⟩
theorem zq79.v0 (x0 : TSigned) (x1 : TSigned) : V.evBody zq79.E zq79.con Tryz.f246 (V.fl7 x0 x1) = V.evC zq79.E Tryz.f246.ntmps (V.codeOf Tryz.f246) (zq79.kt x0 x1) (zq79.s x0 x1) := by kernel_rfl
theorem zq79.v (x0 : TSigned) (x1 : TSigned) : V.evC zq79.E Tryz.f246.ntmps (V.codeOf Tryz.f246) (zq79.kt x0 x1) (zq79.s x0 x1) = zq79 x0 x1 := by kernel_rfl
theorem zq79.eq (x0 : TSigned) (x1 : TSigned) : V.evBody zq79.E zq79.con Tryz.f246 (V.fl7 x0 x1) = zq79 x0 x1 := (zq79.v0 x0 x1).trans (zq79.v x0 x1)
theorem zq79.ok : V.Valid Tryz.prog 246 zq79.con :=
  V.fo (V.tab_cons zq73.ok (V.tab_cons zq78.ok V.tab_nil)) Tryz.func246 (by kernel_rfl) (fun x y h => (show V.evBody zq79.E zq79.con Tryz.f246 x = _ from zq79.eq (V.p7_0 x) (V.p7_1 x)).trans (V.cfl (by kernel_rfl) h))
noncomputable abbrev zq80.con : V.Con := ⟨(.cons (.sl V.eSigned) (.cons (.sl V.eSigned) .nil)), (.cons .bool .nil), fun (x : List TSigned × List TSigned) => zq80 x.1 x.2, [], [(false, 1), (false, 1)], [(false, 1)], [false], []⟩
noncomputable abbrev zq80.E : V.Env := V.mkE V.tys [(246, zq79.con)] [(8, [0, 1, 5], [])] [(6, 8)] [] [] []
noncomputable abbrev zq80.kt (x0 : List TSigned) (x1 : List TSigned) : V.Kt Bool := V.ktOf zq80.E zq80.con Tryz.f149 ((x0, x1) : List TSigned × List TSigned)
noncomputable abbrev zq80.s8 (x0 : List TSigned) (x1 : List TSigned) (v8_2 : Int) : V.St := ⟨[(0, .v false [.val (.sl V.eSigned x0)]), (1, .v false [.val (.sl V.eSigned x1)]), (5, .v false [.val (.int .i64 v8_2)])], []⟩
theorem zq80.r8 (x0 : List TSigned) (x1 : List TSigned) (R : V.St → Option Bool) (v8_2 : Int) : V.loopF zq80.E Tryz.f149.ntmps [1, 1, 0, 1, 0] [] (V.codeOf Tryz.f149) (zq80.kt x0 x1) R (zq80.s8 x0 x1 v8_2) = zq80.g8 x0 x1 (fun v8_2 => R (zq80.s8 x0 x1 v8_2)) v8_2 := by kernel_rfl
theorem zq80.e8 (x0 : List TSigned) (x1 : List TSigned) : ∀ (n : Nat) (v8_2 : Int), V.loopN (V.loopF zq80.E Tryz.f149.ntmps [1, 1, 0, 1, 0] [] (V.codeOf Tryz.f149) (zq80.kt x0 x1)) n (zq80.s8 x0 x1 v8_2) = zq80.l8 x0 x1 n v8_2 := by
  intro n
  induction n with
  | zero => intros; rw [V.loopN_z]; rfl
  | succ n ih =>
    intro v8_2
    rw [V.loopN_s, zq80.r8]
    simp only [ih]
    first | exact (zq80.u8 ..).symm | rfl
theorem zq80.v (x0 : List TSigned) (x1 : List TSigned) : V.evBody zq80.E zq80.con Tryz.f149 ((x0, x1) : List TSigned × List TSigned) = zq80.b x0 x1 (fun v8_2 => V.loopN (V.loopF zq80.E Tryz.f149.ntmps [1, 1, 0, 1, 0] [] (V.codeOf Tryz.f149) (zq80.kt x0 x1)) V.KK (zq80.s8 x0 x1 v8_2)) := by kernel_rfl
theorem zq80.eq (x0 : List TSigned) (x1 : List TSigned) : V.evBody zq80.E zq80.con Tryz.f149 ((x0, x1) : List TSigned × List TSigned) = zq80 x0 x1 := by
  rw [zq80.v]
  simp only [zq80.e8]
  rfl
theorem zq80.ok : V.Valid Tryz.prog 149 zq80.con :=
  V.fo (V.tab_cons zq79.ok V.tab_nil) Tryz.func149 (by kernel_rfl) (fun x y h => (show V.evBody zq80.E zq80.con Tryz.f149 x = _ from zq80.eq x.1 x.2).trans (V.cfl (by kernel_rfl) h))
noncomputable abbrev zq81.con : V.Con := ⟨(.cons (.sl (.cons .str .nil)) (.cons (.sl (.cons .str .nil)) .nil)), (.cons .bool .nil), fun (x : List ByteArray × List ByteArray) => zq81 x.1 x.2, [], [(false, 1), (false, 1)], [(false, 1)], [false], []⟩
noncomputable abbrev zq81.E : V.Env := V.mkE V.tys [] [(8, [0, 1, 5], [])] [(6, 8)] [] [] []
noncomputable abbrev zq81.kt (x0 : List ByteArray) (x1 : List ByteArray) : V.Kt Bool := V.ktOf zq81.E zq81.con Tryz.f299 ((x0, x1) : List ByteArray × List ByteArray)
noncomputable abbrev zq81.s8 (x0 : List ByteArray) (x1 : List ByteArray) (v8_2 : Int) : V.St := ⟨[(0, .v false [.val (.sl (.cons .str .nil) x0)]), (1, .v false [.val (.sl (.cons .str .nil) x1)]), (5, .v false [.val (.int .i64 v8_2)])], []⟩
theorem zq81.r8 (x0 : List ByteArray) (x1 : List ByteArray) (R : V.St → Option Bool) (v8_2 : Int) : V.loopF zq81.E Tryz.f299.ntmps [1, 1, 0, 1, 0] [] (V.codeOf Tryz.f299) (zq81.kt x0 x1) R (zq81.s8 x0 x1 v8_2) = zq81.g8 x0 x1 (fun v8_2 => R (zq81.s8 x0 x1 v8_2)) v8_2 := by kernel_rfl
theorem zq81.e8 (x0 : List ByteArray) (x1 : List ByteArray) : ∀ (n : Nat) (v8_2 : Int), V.loopN (V.loopF zq81.E Tryz.f299.ntmps [1, 1, 0, 1, 0] [] (V.codeOf Tryz.f299) (zq81.kt x0 x1)) n (zq81.s8 x0 x1 v8_2) = zq81.l8 x0 x1 n v8_2 := by
  intro n
  induction n with
  | zero => intros; rw [V.loopN_z]; rfl
  | succ n ih =>
    intro v8_2
    rw [V.loopN_s, zq81.r8]
    simp only [ih]
    first | exact (zq81.u8 ..).symm | rfl
theorem zq81.v (x0 : List ByteArray) (x1 : List ByteArray) : V.evBody zq81.E zq81.con Tryz.f299 ((x0, x1) : List ByteArray × List ByteArray) = zq81.b x0 x1 (fun v8_2 => V.loopN (V.loopF zq81.E Tryz.f299.ntmps [1, 1, 0, 1, 0] [] (V.codeOf Tryz.f299) (zq81.kt x0 x1)) V.KK (zq81.s8 x0 x1 v8_2)) := by kernel_rfl
theorem zq81.eq (x0 : List ByteArray) (x1 : List ByteArray) : V.evBody zq81.E zq81.con Tryz.f299 ((x0, x1) : List ByteArray × List ByteArray) = zq81 x0 x1 := by
  rw [zq81.v]
  simp only [zq81.e8]
  rfl
theorem zq81.ok : V.Valid Tryz.prog 299 zq81.con :=
  V.fo V.tab_nil Tryz.func299 (by kernel_rfl) (fun x y h => (show V.evBody zq81.E zq81.con Tryz.f299 x = _ from zq81.eq x.1 x.2).trans (V.cfl (by kernel_rfl) h))
noncomputable abbrev zq70.con : V.Con := ⟨(.cons .str (.cons (.int .i64) (.cons (.int .i64) (.cons (.sl (.cons .str .nil)) (.cons .str (.cons (.int .i64) (.cons (.int .i64) (.cons (.sl (.cons .str .nil)) .nil)))))))), (.cons .bool .nil), fun (x : ByteArray × Int × Int × List ByteArray × ByteArray × Int × Int × List ByteArray) => zq70 (x.1, x.2.1, x.2.2.1, x.2.2.2.1) x.2.2.2.2, [], [(true, 4), (true, 4)], [(false, 1)], [false], []⟩
noncomputable abbrev zq70.E : V.Env := V.mkE V.tys [(299, zq81.con)] [] [] [] [] []
theorem zq70.eq (x0 : TEntry) (x1 : TEntry) : V.evBody zq70.E zq70.con Tryz.f150 ((x0.1, x0.2.1, x0.2.2.1, x0.2.2.2, x1.1, x1.2.1, x1.2.2.1, x1.2.2.2) : ByteArray × Int × Int × List ByteArray × ByteArray × Int × Int × List ByteArray) = zq70 x0 x1 := by kernel_rfl
theorem zq70.ok : V.Valid Tryz.prog 150 zq70.con :=
  V.fo (V.tab_cons zq81.ok V.tab_nil) Tryz.func150 (by kernel_rfl) (fun x y h => (show V.evBody zq70.E zq70.con Tryz.f150 x = _ from zq70.eq (x.1, x.2.1, x.2.2.1, x.2.2.2.1) x.2.2.2.2).trans (V.cfl (by kernel_rfl) h))
noncomputable abbrev zq76.con : V.Con := ⟨(.cons (.int .i64) (.cons (.sl (.cons (.int .i64) .nil)) (.cons (.int .i64) (.cons (.sl (.cons (.int .i64) .nil)) .nil)))), (.cons .bool .nil), fun (x : Int × List Int × Int × List Int) => zq76 (x.1, x.2.1) x.2.2, [], [(true, 2), (true, 2)], [(false, 1)], [false], []⟩
noncomputable abbrev zq76.E : V.Env := V.mkE V.tys [(89, zq74.con)] [] [] [] [] []
theorem zq76.eq (x0 : TProof) (x1 : TProof) : V.evBody zq76.E zq76.con Tryz.f151 ((x0.1, x0.2, x1.1, x1.2) : Int × List Int × Int × List Int) = zq76 x0 x1 := by kernel_rfl
theorem zq76.ok : V.Valid Tryz.prog 151 zq76.con :=
  V.fo (V.tab_cons zq74.ok V.tab_nil) Tryz.func151 (by kernel_rfl) (fun x y h => (show V.evBody zq76.E zq76.con Tryz.f151 x = _ from zq76.eq (x.1, x.2.1) x.2.2).trans (V.cfl (by kernel_rfl) h))
noncomputable abbrev zq72.con : V.Con := ⟨V.A8, (.cons .bool .nil), fun (x : V.D8) => zq72 (V.p8_0 x) (V.p8_1 x), [], [(true, 13), (true, 13)], [(false, 1)], [false], []⟩
noncomputable abbrev zq72.E : V.Env := V.mkE V.tys [(150, zq70.con), (151, zq76.con)] [] [] [] [] []
noncomputable abbrev zq72.kt (x0 : TGap) (x1 : TGap) : V.Kt Bool := V.ktOf zq72.E zq72.con Tryz.f152 (V.fl8 x0 x1)
noncomputable abbrev zq72.s (x0 : TGap) (x1 : TGap) : V.St := ⟨[(0, .v true [.val (.int .i64 x0.1), .val (.str x0.2.1), .val (.int .i64 x0.2.2.1), .val (.int .i64 x0.2.2.2.1), .val (.sl (.cons .str .nil) x0.2.2.2.2.1), .val (.str x0.2.2.2.2.2.1), .val (.int .i64 x0.2.2.2.2.2.2.1), .val (.int .i64 x0.2.2.2.2.2.2.2.1), .val (.sl (.cons .str .nil) x0.2.2.2.2.2.2.2.2.1), .val (.int .i64 x0.2.2.2.2.2.2.2.2.2.1), .val (.sl (.cons (.int .i64) .nil) x0.2.2.2.2.2.2.2.2.2.2.1), .val (.int .i64 x0.2.2.2.2.2.2.2.2.2.2.2.1), .val (.sl (.cons (.int .i64) .nil) x0.2.2.2.2.2.2.2.2.2.2.2.2)]), (1, .v true [.val (.int .i64 x1.1), .val (.str x1.2.1), .val (.int .i64 x1.2.2.1), .val (.int .i64 x1.2.2.2.1), .val (.sl (.cons .str .nil) x1.2.2.2.2.1), .val (.str x1.2.2.2.2.2.1), .val (.int .i64 x1.2.2.2.2.2.2.1), .val (.int .i64 x1.2.2.2.2.2.2.2.1), .val (.sl (.cons .str .nil) x1.2.2.2.2.2.2.2.2.1), .val (.int .i64 x1.2.2.2.2.2.2.2.2.2.1), .val (.sl (.cons (.int .i64) .nil) x1.2.2.2.2.2.2.2.2.2.2.1), .val (.int .i64 x1.2.2.2.2.2.2.2.2.2.2.2.1), .val (.sl (.cons (.int .i64) .nil) x1.2.2.2.2.2.2.2.2.2.2.2.2)])], []⟩
theorem zq72.v0 (x0 : TGap) (x1 : TGap) : V.evBody zq72.E zq72.con Tryz.f152 (V.fl8 x0 x1) = V.evC zq72.E Tryz.f152.ntmps (V.codeOf Tryz.f152) (zq72.kt x0 x1) (zq72.s x0 x1) := by kernel_rfl
theorem zq72.v (x0 : TGap) (x1 : TGap) : V.evC zq72.E Tryz.f152.ntmps (V.codeOf Tryz.f152) (zq72.kt x0 x1) (zq72.s x0 x1) = zq72 x0 x1 := by kernel_rfl
theorem zq72.eq (x0 : TGap) (x1 : TGap) : V.evBody zq72.E zq72.con Tryz.f152 (V.fl8 x0 x1) = zq72 x0 x1 := (zq72.v0 x0 x1).trans (zq72.v x0 x1)
theorem zq72.ok : V.Valid Tryz.prog 152 zq72.con :=
  V.fo (V.tab_cons zq70.ok (V.tab_cons zq76.ok V.tab_nil)) Tryz.func152 (by kernel_rfl) (fun x y h => (show V.evBody zq72.E zq72.con Tryz.f152 x = _ from zq72.eq (V.p8_0 x) (V.p8_1 x)).trans (V.cfl (by kernel_rfl) h))
noncomputable abbrev zq69.con : V.Con := ⟨V.A9, (.cons .bool .nil), fun (x : V.D9) => zq69 (V.p9_0 x) (V.p9_1 x), [], [(true, 21), (true, 21)], [(false, 1)], [false], []⟩
noncomputable abbrev zq69.E : V.Env := V.mkE V.tys [(149, zq80.con), (150, zq70.con), (151, zq76.con), (152, zq72.con)] [] [] [] [] []
noncomputable abbrev zq69.kt (x0 : TAnswer) (x1 : TAnswer) : V.Kt Bool := V.ktOf zq69.E zq69.con Tryz.f19 (V.fl9 x0 x1)
noncomputable abbrev zq69.s (x0 : TAnswer) (x1 : TAnswer) : V.St := ⟨[(0, .v true [.val (.sl V.eSigned x0.1), .val (.bool x0.2.1), .val (.str x0.2.2.1), .val (.int .i64 x0.2.2.2.1), .val (.int .i64 x0.2.2.2.2.1), .val (.sl (.cons .str .nil) x0.2.2.2.2.2.1), .val (.int .i64 x0.2.2.2.2.2.2.1), .val (.sl (.cons (.int .i64) .nil) x0.2.2.2.2.2.2.2.1), .val (.int .i64 x0.2.2.2.2.2.2.2.2.1), .val (.str x0.2.2.2.2.2.2.2.2.2.1), .val (.int .i64 x0.2.2.2.2.2.2.2.2.2.2.1), .val (.int .i64 x0.2.2.2.2.2.2.2.2.2.2.2.1), .val (.sl (.cons .str .nil) x0.2.2.2.2.2.2.2.2.2.2.2.2.1), .val (.str x0.2.2.2.2.2.2.2.2.2.2.2.2.2.1), .val (.int .i64 x0.2.2.2.2.2.2.2.2.2.2.2.2.2.2.1), .val (.int .i64 x0.2.2.2.2.2.2.2.2.2.2.2.2.2.2.2.1), .val (.sl (.cons .str .nil) x0.2.2.2.2.2.2.2.2.2.2.2.2.2.2.2.2.1), .val (.int .i64 x0.2.2.2.2.2.2.2.2.2.2.2.2.2.2.2.2.2.1), .val (.sl (.cons (.int .i64) .nil) x0.2.2.2.2.2.2.2.2.2.2.2.2.2.2.2.2.2.2.1), .val (.int .i64 x0.2.2.2.2.2.2.2.2.2.2.2.2.2.2.2.2.2.2.2.1), .val (.sl (.cons (.int .i64) .nil) x0.2.2.2.2.2.2.2.2.2.2.2.2.2.2.2.2.2.2.2.2)]), (1, .v true [.val (.sl V.eSigned x1.1), .val (.bool x1.2.1), .val (.str x1.2.2.1), .val (.int .i64 x1.2.2.2.1), .val (.int .i64 x1.2.2.2.2.1), .val (.sl (.cons .str .nil) x1.2.2.2.2.2.1), .val (.int .i64 x1.2.2.2.2.2.2.1), .val (.sl (.cons (.int .i64) .nil) x1.2.2.2.2.2.2.2.1), .val (.int .i64 x1.2.2.2.2.2.2.2.2.1), .val (.str x1.2.2.2.2.2.2.2.2.2.1), .val (.int .i64 x1.2.2.2.2.2.2.2.2.2.2.1), .val (.int .i64 x1.2.2.2.2.2.2.2.2.2.2.2.1), .val (.sl (.cons .str .nil) x1.2.2.2.2.2.2.2.2.2.2.2.2.1), .val (.str x1.2.2.2.2.2.2.2.2.2.2.2.2.2.1), .val (.int .i64 x1.2.2.2.2.2.2.2.2.2.2.2.2.2.2.1), .val (.int .i64 x1.2.2.2.2.2.2.2.2.2.2.2.2.2.2.2.1), .val (.sl (.cons .str .nil) x1.2.2.2.2.2.2.2.2.2.2.2.2.2.2.2.2.1), .val (.int .i64 x1.2.2.2.2.2.2.2.2.2.2.2.2.2.2.2.2.2.1), .val (.sl (.cons (.int .i64) .nil) x1.2.2.2.2.2.2.2.2.2.2.2.2.2.2.2.2.2.2.1), .val (.int .i64 x1.2.2.2.2.2.2.2.2.2.2.2.2.2.2.2.2.2.2.2.1), .val (.sl (.cons (.int .i64) .nil) x1.2.2.2.2.2.2.2.2.2.2.2.2.2.2.2.2.2.2.2.2)])], []⟩
theorem zq69.v0 (x0 : TAnswer) (x1 : TAnswer) : V.evBody zq69.E zq69.con Tryz.f19 (V.fl9 x0 x1) = V.evC zq69.E Tryz.f19.ntmps (V.codeOf Tryz.f19) (zq69.kt x0 x1) (zq69.s x0 x1) := by kernel_rfl
theorem zq69.v (x0 : TAnswer) (x1 : TAnswer) : V.evC zq69.E Tryz.f19.ntmps (V.codeOf Tryz.f19) (zq69.kt x0 x1) (zq69.s x0 x1) = zq69 x0 x1 := by kernel_rfl
theorem zq69.eq (x0 : TAnswer) (x1 : TAnswer) : V.evBody zq69.E zq69.con Tryz.f19 (V.fl9 x0 x1) = zq69 x0 x1 := (zq69.v0 x0 x1).trans (zq69.v x0 x1)
theorem zq69.ok : V.Valid Tryz.prog 19 zq69.con :=
  V.fo (V.tab_cons zq80.ok (V.tab_cons zq70.ok (V.tab_cons zq76.ok (V.tab_cons zq72.ok V.tab_nil)))) Tryz.func19 (by kernel_rfl) (fun x y h => (show V.evBody zq69.E zq69.con Tryz.f19 x = _ from zq69.eq (V.p9_0 x) (V.p9_1 x)).trans (V.cfl (by kernel_rfl) h))
noncomputable abbrev zq71.con : V.Con := ⟨(.cons (.sl V.eEntry) (.cons (.sl V.eEntry) .nil)), (.cons .bool .nil), fun (x : List TEntry × List TEntry) => zq71 x.1 x.2, [], [(false, 1), (false, 1)], [(false, 1)], [false], []⟩
noncomputable abbrev zq71.E : V.Env := V.mkE V.tys [(150, zq70.con)] [(8, [0, 1, 5], [])] [(6, 8)] [] [] []
noncomputable abbrev zq71.kt (x0 : List TEntry) (x1 : List TEntry) : V.Kt Bool := V.ktOf zq71.E zq71.con Tryz.f116 ((x0, x1) : List TEntry × List TEntry)
noncomputable abbrev zq71.s8 (x0 : List TEntry) (x1 : List TEntry) (v8_2 : Int) : V.St := ⟨[(0, .v false [.val (.sl V.eEntry x0)]), (1, .v false [.val (.sl V.eEntry x1)]), (5, .v false [.val (.int .i64 v8_2)])], []⟩
theorem zq71.r8 (x0 : List TEntry) (x1 : List TEntry) (R : V.St → Option Bool) (v8_2 : Int) : V.loopF zq71.E Tryz.f116.ntmps [1, 1, 0, 1, 0] [] (V.codeOf Tryz.f116) (zq71.kt x0 x1) R (zq71.s8 x0 x1 v8_2) = zq71.g8 x0 x1 (fun v8_2 => R (zq71.s8 x0 x1 v8_2)) v8_2 := by kernel_rfl
theorem zq71.e8 (x0 : List TEntry) (x1 : List TEntry) : ∀ (n : Nat) (v8_2 : Int), V.loopN (V.loopF zq71.E Tryz.f116.ntmps [1, 1, 0, 1, 0] [] (V.codeOf Tryz.f116) (zq71.kt x0 x1)) n (zq71.s8 x0 x1 v8_2) = zq71.l8 x0 x1 n v8_2 := by
  intro n
  induction n with
  | zero => intros; rw [V.loopN_z]; rfl
  | succ n ih =>
    intro v8_2
    rw [V.loopN_s, zq71.r8]
    simp only [ih]
    first | exact (zq71.u8 ..).symm | rfl
theorem zq71.v (x0 : List TEntry) (x1 : List TEntry) : V.evBody zq71.E zq71.con Tryz.f116 ((x0, x1) : List TEntry × List TEntry) = zq71.b x0 x1 (fun v8_2 => V.loopN (V.loopF zq71.E Tryz.f116.ntmps [1, 1, 0, 1, 0] [] (V.codeOf Tryz.f116) (zq71.kt x0 x1)) V.KK (zq71.s8 x0 x1 v8_2)) := by kernel_rfl
theorem zq71.eq (x0 : List TEntry) (x1 : List TEntry) : V.evBody zq71.E zq71.con Tryz.f116 ((x0, x1) : List TEntry × List TEntry) = zq71 x0 x1 := by
  rw [zq71.v]
  simp only [zq71.e8]
  rfl
theorem zq71.ok : V.Valid Tryz.prog 116 zq71.con :=
  V.fo (V.tab_cons zq70.ok V.tab_nil) Tryz.func116 (by kernel_rfl) (fun x y h => (show V.evBody zq71.E zq71.con Tryz.f116 x = _ from zq71.eq x.1 x.2).trans (V.cfl (by kernel_rfl) h))
noncomputable abbrev zq82.con : V.Con := ⟨(.cons (.sl V.eSigned) (.cons (.sl V.eEntry) (.cons (.sl V.eSigned) (.cons (.sl V.eEntry) .nil)))), (.cons .bool .nil), fun (x : List TSigned × List TEntry × List TSigned × List TEntry) => zq82 (x.1, x.2.1) x.2.2, [], [(true, 2), (true, 2)], [(false, 1)], [false], []⟩
noncomputable abbrev zq82.E : V.Env := V.mkE V.tys [(116, zq71.con), (149, zq80.con)] [] [] [] [] []
theorem zq82.eq (x0 : TZone) (x1 : TZone) : V.evBody zq82.E zq82.con Tryz.f115 ((x0.1, x0.2, x1.1, x1.2) : List TSigned × List TEntry × List TSigned × List TEntry) = zq82 x0 x1 := by kernel_rfl
theorem zq82.ok : V.Valid Tryz.prog 115 zq82.con :=
  V.fo (V.tab_cons zq71.ok (V.tab_cons zq80.ok V.tab_nil)) Tryz.func115 (by kernel_rfl) (fun x y h => (show V.evBody zq82.E zq82.con Tryz.f115 x = _ from zq82.eq (x.1, x.2.1) x.2.2).trans (V.cfl (by kernel_rfl) h))
noncomputable abbrev zq95.con : V.Con := ⟨(.cons (.sl (.cons (.int .i64) .nil)) (.cons (.int .i64) .nil)), (.cons (.sl (.cons (.int .i64) .nil)) (.cons (.int .i64) .nil)), fun (x : List Int × Int) => zq95 x.1 x.2, [(0, false)], [(false, 1), (false, 1)], [(false, 1)], [false], []⟩
noncomputable abbrev zq95.E : V.Env := V.mkE V.tys [] [(4, [0, 1, 5], [])] [] [] [] []
noncomputable abbrev zq95.kt (x0 : List Int) (x1 : Int) : V.Kt TKeys := V.ktOf zq95.E zq95.con Tryz.f92 ((x0, x1) : List Int × Int)
noncomputable abbrev zq95.s4 (v4_0 : Int) (v4_1 : Int) (v4_2 : List Int) : V.St := ⟨[(0, .v false [.ref 0]), (1, .v false [.val (.int .i64 v4_0)]), (5, .v false [.val (.int .i64 v4_1)])], [(0, .row (.cons (.int .i64) .nil) true v4_2)]⟩
theorem zq95.r4 (x0 : List Int) (x1 : Int) (R : V.St → Option TKeys) (v4_0 : Int) (v4_1 : Int) (v4_2 : List Int) : V.loopF zq95.E Tryz.f92.ntmps [1, 0, 1, 0] [] (V.codeOf Tryz.f92) (zq95.kt x0 x1) R (zq95.s4 v4_0 v4_1 v4_2) = zq95.g4 (fun v4_0 v4_1 v4_2 => R (zq95.s4 v4_0 v4_1 v4_2)) v4_0 v4_1 v4_2 := by kernel_rfl
theorem zq95.e4 (x0 : List Int) (x1 : Int) : ∀ (n : Nat) (v4_0 : Int) (v4_1 : Int) (v4_2 : List Int), V.loopN (V.loopF zq95.E Tryz.f92.ntmps [1, 0, 1, 0] [] (V.codeOf Tryz.f92) (zq95.kt x0 x1)) n (zq95.s4 v4_0 v4_1 v4_2) = zq95.l4 n v4_0 v4_1 v4_2 := by
  intro n
  induction n with
  | zero => intros; rw [V.loopN_z]; rfl
  | succ n ih =>
    intro v4_0 v4_1 v4_2
    rw [V.loopN_s, zq95.r4]
    simp only [ih]
    first | exact (zq95.u4 ..).symm | rfl
theorem zq95.v (x0 : List Int) (x1 : Int) : V.evBody zq95.E zq95.con Tryz.f92 ((x0, x1) : List Int × Int) = zq95.b x0 x1 (fun v4_0 v4_1 v4_2 => V.loopN (V.loopF zq95.E Tryz.f92.ntmps [1, 0, 1, 0] [] (V.codeOf Tryz.f92) (zq95.kt x0 x1)) V.KK (zq95.s4 v4_0 v4_1 v4_2)) := by kernel_rfl
theorem zq95.eq (x0 : List Int) (x1 : Int) : V.evBody zq95.E zq95.con Tryz.f92 ((x0, x1) : List Int × Int) = zq95 x0 x1 := by
  rw [zq95.v]
  simp only [zq95.e4]
  rfl
theorem zq95.ok : V.Valid Tryz.prog 92 zq95.con :=
  V.fo V.tab_nil Tryz.func92 (by kernel_rfl) (fun x y h => (show V.evBody zq95.E zq95.con Tryz.f92 x = _ from zq95.eq x.1 x.2).trans (V.cfl (by kernel_rfl) h))
noncomputable abbrev zq97.con : V.Con := ⟨(.cons (.sl (.cons (.int .i64) (.cons (.int .i64) .nil))) (.cons (.int .i64) .nil)), (.cons (.sl (.cons (.int .i64) (.cons (.int .i64) .nil))) (.cons (.int .i64) .nil)), fun (x : List TSig × Int) => zq97 x.1 x.2, [(0, false)], [(false, 1), (false, 1)], [(false, 1)], [false], []⟩
noncomputable abbrev zq97.E : V.Env := V.mkE V.tys [] [(4, [0, 1, 5], [])] [] [] [] []
noncomputable abbrev zq97.kt (x0 : List TSig) (x1 : Int) : V.Kt (List TSig × Int) := V.ktOf zq97.E zq97.con Tryz.f300 ((x0, x1) : List TSig × Int)
noncomputable abbrev zq97.s4 (v4_0 : Int) (v4_1 : Int) (v4_2 : List TSig) : V.St := ⟨[(0, .v false [.ref 0]), (1, .v false [.val (.int .i64 v4_0)]), (5, .v false [.val (.int .i64 v4_1)])], [(0, .row (.cons (.int .i64) (.cons (.int .i64) .nil)) true v4_2)]⟩
theorem zq97.r4 (x0 : List TSig) (x1 : Int) (R : V.St → Option (List TSig × Int)) (v4_0 : Int) (v4_1 : Int) (v4_2 : List TSig) : V.loopF zq97.E Tryz.f300.ntmps [1, 0, 1, 0] [] (V.codeOf Tryz.f300) (zq97.kt x0 x1) R (zq97.s4 v4_0 v4_1 v4_2) = zq97.g4 (fun v4_0 v4_1 v4_2 => R (zq97.s4 v4_0 v4_1 v4_2)) v4_0 v4_1 v4_2 := by kernel_rfl
theorem zq97.e4 (x0 : List TSig) (x1 : Int) : ∀ (n : Nat) (v4_0 : Int) (v4_1 : Int) (v4_2 : List TSig), V.loopN (V.loopF zq97.E Tryz.f300.ntmps [1, 0, 1, 0] [] (V.codeOf Tryz.f300) (zq97.kt x0 x1)) n (zq97.s4 v4_0 v4_1 v4_2) = zq97.l4 n v4_0 v4_1 v4_2 := by
  intro n
  induction n with
  | zero => intros; rw [V.loopN_z]; rfl
  | succ n ih =>
    intro v4_0 v4_1 v4_2
    rw [V.loopN_s, zq97.r4]
    simp only [ih]
    first | exact (zq97.u4 ..).symm | rfl
theorem zq97.v (x0 : List TSig) (x1 : Int) : V.evBody zq97.E zq97.con Tryz.f300 ((x0, x1) : List TSig × Int) = zq97.b x0 x1 (fun v4_0 v4_1 v4_2 => V.loopN (V.loopF zq97.E Tryz.f300.ntmps [1, 0, 1, 0] [] (V.codeOf Tryz.f300) (zq97.kt x0 x1)) V.KK (zq97.s4 v4_0 v4_1 v4_2)) := by kernel_rfl
theorem zq97.eq (x0 : List TSig) (x1 : Int) : V.evBody zq97.E zq97.con Tryz.f300 ((x0, x1) : List TSig × Int) = zq97 x0 x1 := by
  rw [zq97.v]
  simp only [zq97.e4]
  rfl
theorem zq97.ok : V.Valid Tryz.prog 300 zq97.con :=
  V.fo V.tab_nil Tryz.func300 (by kernel_rfl) (fun x y h => (show V.evBody zq97.E zq97.con Tryz.f300 x = _ from zq97.eq x.1 x.2).trans (V.cfl (by kernel_rfl) h))
noncomputable abbrev zq98.con : V.Con := ⟨(.cons (.sl V.eSigned) (.cons (.int .i64) .nil)), (.cons (.sl V.eSigned) (.cons (.int .i64) .nil)), fun (x : List TSigned × Int) => zq98 x.1 x.2, [(0, false)], [(false, 1), (false, 1)], [(false, 1)], [false], []⟩
noncomputable abbrev zq98.E : V.Env := V.mkE V.tys [(92, zq95.con), (300, zq97.con)] [(4, [0, 1, 5], [])] [] [] [] []
noncomputable abbrev zq98.kt (x0 : List TSigned) (x1 : Int) : V.Kt (List TSigned × Int) := V.ktOf zq98.E zq98.con Tryz.f155 ((x0, x1) : List TSigned × Int)
noncomputable abbrev zq98.s4 (v4_0 : Int) (v4_1 : Int) (v4_2 : List TSigned) : V.St := ⟨[(0, .v false [.ref 0]), (1, .v false [.val (.int .i64 v4_0)]), (5, .v false [.val (.int .i64 v4_1)])], [(0, .row V.eSigned true v4_2)]⟩
theorem zq98.r4 (x0 : List TSigned) (x1 : Int) (R : V.St → Option (List TSigned × Int)) (v4_0 : Int) (v4_1 : Int) (v4_2 : List TSigned) : V.loopF zq98.E Tryz.f155.ntmps [1, 0, 1, 0] [] (V.codeOf Tryz.f155) (zq98.kt x0 x1) R (zq98.s4 v4_0 v4_1 v4_2) = zq98.g4 (fun v4_0 v4_1 v4_2 => R (zq98.s4 v4_0 v4_1 v4_2)) v4_0 v4_1 v4_2 := by kernel_rfl
theorem zq98.e4 (x0 : List TSigned) (x1 : Int) : ∀ (n : Nat) (v4_0 : Int) (v4_1 : Int) (v4_2 : List TSigned), V.loopN (V.loopF zq98.E Tryz.f155.ntmps [1, 0, 1, 0] [] (V.codeOf Tryz.f155) (zq98.kt x0 x1)) n (zq98.s4 v4_0 v4_1 v4_2) = zq98.l4 n v4_0 v4_1 v4_2 := by
  intro n
  induction n with
  | zero => intros; rw [V.loopN_z]; rfl
  | succ n ih =>
    intro v4_0 v4_1 v4_2
    rw [V.loopN_s, zq98.r4]
    simp only [ih]
    first | exact (zq98.u4 ..).symm | rfl
theorem zq98.v (x0 : List TSigned) (x1 : Int) : V.evBody zq98.E zq98.con Tryz.f155 ((x0, x1) : List TSigned × Int) = zq98.b x0 x1 (fun v4_0 v4_1 v4_2 => V.loopN (V.loopF zq98.E Tryz.f155.ntmps [1, 0, 1, 0] [] (V.codeOf Tryz.f155) (zq98.kt x0 x1)) V.KK (zq98.s4 v4_0 v4_1 v4_2)) := by kernel_rfl
theorem zq98.eq (x0 : List TSigned) (x1 : Int) : V.evBody zq98.E zq98.con Tryz.f155 ((x0, x1) : List TSigned × Int) = zq98 x0 x1 := by
  rw [zq98.v]
  simp only [zq98.e4]
  rfl
theorem zq98.ok : V.Valid Tryz.prog 155 zq98.con :=
  V.fo (V.tab_cons zq95.ok (V.tab_cons zq97.ok V.tab_nil)) Tryz.func155 (by kernel_rfl) (fun x y h => (show V.evBody zq98.E zq98.con Tryz.f155 x = _ from zq98.eq x.1 x.2).trans (V.cfl (by kernel_rfl) h))
noncomputable abbrev zq100.con : V.Con := ⟨(.cons (.int .i64) .nil), (.cons .str .nil), fun (x : Int) => zq100 x, [], [(false, 1)], [(false, 1)], [false], []⟩
noncomputable abbrev zq100.E : V.Env := V.mkE V.tys [] [(8, [0, 3], [])] [] [] [] []
noncomputable abbrev zq100.kt (x0 : Int) : V.Kt ByteArray := V.ktOf zq100.E zq100.con Tryz.f163 ((x0) : Int)
noncomputable abbrev zq100.s8 (v8_0 : Int) (v8_1 : ByteArray) : V.St := ⟨[(0, .v false [.val (.int .i64 v8_0)]), (3, .v false [.val (.str v8_1)])], []⟩
theorem zq100.r8 (x0 : Int) (R : V.St → Option ByteArray) (v8_0 : Int) (v8_1 : ByteArray) : V.loopF zq100.E Tryz.f163.ntmps [1, 1, 1, 0, 0] [] (V.codeOf Tryz.f163) (zq100.kt x0) R (zq100.s8 v8_0 v8_1) = zq100.g8 (fun v8_0 v8_1 => R (zq100.s8 v8_0 v8_1)) v8_0 v8_1 := by kernel_rfl
theorem zq100.e8 (x0 : Int) : ∀ (n : Nat) (v8_0 : Int) (v8_1 : ByteArray), V.loopN (V.loopF zq100.E Tryz.f163.ntmps [1, 1, 1, 0, 0] [] (V.codeOf Tryz.f163) (zq100.kt x0)) n (zq100.s8 v8_0 v8_1) = zq100.l8 n v8_0 v8_1 := by
  intro n
  induction n with
  | zero => intros; rw [V.loopN_z]; rfl
  | succ n ih =>
    intro v8_0 v8_1
    rw [V.loopN_s, zq100.r8]
    simp only [ih]
    first | exact (zq100.u8 ..).symm | rfl
theorem zq100.v (x0 : Int) : V.evBody zq100.E zq100.con Tryz.f163 ((x0) : Int) = zq100.b x0 (fun v8_0 v8_1 => V.loopN (V.loopF zq100.E Tryz.f163.ntmps [1, 1, 1, 0, 0] [] (V.codeOf Tryz.f163) (zq100.kt x0)) V.KK (zq100.s8 v8_0 v8_1)) := by kernel_rfl
theorem zq100.eq (x0 : Int) : V.evBody zq100.E zq100.con Tryz.f163 ((x0) : Int) = zq100 x0 := by
  rw [zq100.v]
  simp only [zq100.e8]
  rfl
theorem zq100.ok : V.Valid Tryz.prog 163 zq100.con :=
  V.fo V.tab_nil Tryz.func163 (by kernel_rfl) (fun x y h => (show V.evBody zq100.E zq100.con Tryz.f163 x = _ from zq100.eq x).trans (V.cfl (by kernel_rfl) h))
noncomputable abbrev zq99.con : V.Con := ⟨(.cons (.sl (.cons .str .nil)) (.cons (.int .i64) .nil)), (.cons (.sl (.cons .str .nil)) (.cons (.int .i64) .nil)), fun (x : List ByteArray × Int) => zq99 x.1 x.2, [(0, false)], [(false, 1), (false, 1)], [(false, 1)], [false], []⟩
noncomputable abbrev zq99.E : V.Env := V.mkE V.tys [(163, zq100.con)] [(4, [0, 1, 5], [])] [] [] [] []
noncomputable abbrev zq99.kt (x0 : List ByteArray) (x1 : Int) : V.Kt (List ByteArray × Int) := V.ktOf zq99.E zq99.con Tryz.f164 ((x0, x1) : List ByteArray × Int)
noncomputable abbrev zq99.s4 (v4_0 : Int) (v4_1 : Int) (v4_2 : List ByteArray) : V.St := ⟨[(0, .v false [.ref 0]), (1, .v false [.val (.int .i64 v4_0)]), (5, .v false [.val (.int .i64 v4_1)])], [(0, .row (.cons .str .nil) true v4_2)]⟩
theorem zq99.r4 (x0 : List ByteArray) (x1 : Int) (R : V.St → Option (List ByteArray × Int)) (v4_0 : Int) (v4_1 : Int) (v4_2 : List ByteArray) : V.loopF zq99.E Tryz.f164.ntmps [1, 0, 1, 0] [] (V.codeOf Tryz.f164) (zq99.kt x0 x1) R (zq99.s4 v4_0 v4_1 v4_2) = zq99.g4 (fun v4_0 v4_1 v4_2 => R (zq99.s4 v4_0 v4_1 v4_2)) v4_0 v4_1 v4_2 := by kernel_rfl
theorem zq99.e4 (x0 : List ByteArray) (x1 : Int) : ∀ (n : Nat) (v4_0 : Int) (v4_1 : Int) (v4_2 : List ByteArray), V.loopN (V.loopF zq99.E Tryz.f164.ntmps [1, 0, 1, 0] [] (V.codeOf Tryz.f164) (zq99.kt x0 x1)) n (zq99.s4 v4_0 v4_1 v4_2) = zq99.l4 n v4_0 v4_1 v4_2 := by
  intro n
  induction n with
  | zero => intros; rw [V.loopN_z]; rfl
  | succ n ih =>
    intro v4_0 v4_1 v4_2
    rw [V.loopN_s, zq99.r4]
    simp only [ih]
    first | exact (zq99.u4 ..).symm | rfl
theorem zq99.v (x0 : List ByteArray) (x1 : Int) : V.evBody zq99.E zq99.con Tryz.f164 ((x0, x1) : List ByteArray × Int) = zq99.b x0 x1 (fun v4_0 v4_1 v4_2 => V.loopN (V.loopF zq99.E Tryz.f164.ntmps [1, 0, 1, 0] [] (V.codeOf Tryz.f164) (zq99.kt x0 x1)) V.KK (zq99.s4 v4_0 v4_1 v4_2)) := by kernel_rfl
theorem zq99.eq (x0 : List ByteArray) (x1 : Int) : V.evBody zq99.E zq99.con Tryz.f164 ((x0, x1) : List ByteArray × Int) = zq99 x0 x1 := by
  rw [zq99.v]
  simp only [zq99.e4]
  rfl
theorem zq99.ok : V.Valid Tryz.prog 164 zq99.con :=
  V.fo (V.tab_cons zq100.ok V.tab_nil) Tryz.func164 (by kernel_rfl) (fun x y h => (show V.evBody zq99.E zq99.con Tryz.f164 x = _ from zq99.eq x.1 x.2).trans (V.cfl (by kernel_rfl) h))
noncomputable abbrev zq93.con : V.Con := ⟨(.cons (.sl V.eEntry) (.cons (.int .i64) .nil)), (.cons (.sl V.eEntry) (.cons (.int .i64) .nil)), fun (x : List TEntry × Int) => zq93 x.1 x.2, [(0, false)], [(false, 1), (false, 1)], [(false, 1)], [false], []⟩
noncomputable abbrev zq93.E : V.Env := V.mkE V.tys [(163, zq100.con), (164, zq99.con)] [(4, [0, 1, 5], [])] [] [] [] []
noncomputable abbrev zq93.kt (x0 : List TEntry) (x1 : Int) : V.Kt (List TEntry × Int) := V.ktOf zq93.E zq93.con Tryz.f118 ((x0, x1) : List TEntry × Int)
noncomputable abbrev zq93.s4 (v4_0 : Int) (v4_1 : Int) (v4_2 : List TEntry) : V.St := ⟨[(0, .v false [.ref 0]), (1, .v false [.val (.int .i64 v4_0)]), (5, .v false [.val (.int .i64 v4_1)])], [(0, .row V.eEntry true v4_2)]⟩
theorem zq93.r4 (x0 : List TEntry) (x1 : Int) (R : V.St → Option (List TEntry × Int)) (v4_0 : Int) (v4_1 : Int) (v4_2 : List TEntry) : V.loopF zq93.E Tryz.f118.ntmps [1, 0, 1, 0] [] (V.codeOf Tryz.f118) (zq93.kt x0 x1) R (zq93.s4 v4_0 v4_1 v4_2) = zq93.g4 (fun v4_0 v4_1 v4_2 => R (zq93.s4 v4_0 v4_1 v4_2)) v4_0 v4_1 v4_2 := by kernel_rfl
theorem zq93.e4 (x0 : List TEntry) (x1 : Int) : ∀ (n : Nat) (v4_0 : Int) (v4_1 : Int) (v4_2 : List TEntry), V.loopN (V.loopF zq93.E Tryz.f118.ntmps [1, 0, 1, 0] [] (V.codeOf Tryz.f118) (zq93.kt x0 x1)) n (zq93.s4 v4_0 v4_1 v4_2) = zq93.l4 n v4_0 v4_1 v4_2 := by
  intro n
  induction n with
  | zero => intros; rw [V.loopN_z]; rfl
  | succ n ih =>
    intro v4_0 v4_1 v4_2
    rw [V.loopN_s, zq93.r4]
    simp only [ih]
    first | exact (zq93.u4 ..).symm | rfl
theorem zq93.v (x0 : List TEntry) (x1 : Int) : V.evBody zq93.E zq93.con Tryz.f118 ((x0, x1) : List TEntry × Int) = zq93.b x0 x1 (fun v4_0 v4_1 v4_2 => V.loopN (V.loopF zq93.E Tryz.f118.ntmps [1, 0, 1, 0] [] (V.codeOf Tryz.f118) (zq93.kt x0 x1)) V.KK (zq93.s4 v4_0 v4_1 v4_2)) := by kernel_rfl
theorem zq93.eq (x0 : List TEntry) (x1 : Int) : V.evBody zq93.E zq93.con Tryz.f118 ((x0, x1) : List TEntry × Int) = zq93 x0 x1 := by
  rw [zq93.v]
  simp only [zq93.e4]
  rfl
theorem zq93.ok : V.Valid Tryz.prog 118 zq93.con :=
  V.fo (V.tab_cons zq100.ok (V.tab_cons zq99.ok V.tab_nil)) Tryz.func118 (by kernel_rfl) (fun x y h => (show V.evBody zq93.E zq93.con Tryz.f118 x = _ from zq93.eq x.1 x.2).trans (V.cfl (by kernel_rfl) h))
noncomputable abbrev zq101.con : V.Con := ⟨(.cons (.sl V.eSigned) (.cons (.sl V.eEntry) (.cons (.int .i64) .nil))), (.cons (.sl V.eSigned) (.cons (.sl V.eEntry) (.cons (.int .i64) .nil))), fun (x : List TSigned × List TEntry × Int) => zq101 (x.1, x.2.1) x.2.2, [(0, false), (1, false)], [(true, 2), (false, 1)], [(false, 1)], [false], []⟩
noncomputable abbrev zq101.E : V.Env := V.mkE V.tys [(118, zq93.con), (155, zq98.con)] [] [] [] [] []
theorem zq101.eq (x0 : TZone) (x1 : Int) : V.evBody zq101.E zq101.con Tryz.f117 ((x0.1, x0.2, x1) : List TSigned × List TEntry × Int) = zq101 x0 x1 := by kernel_rfl
theorem zq101.ok : V.Valid Tryz.prog 117 zq101.con :=
  V.fo (V.tab_cons zq93.ok (V.tab_cons zq98.ok V.tab_nil)) Tryz.func117 (by kernel_rfl) (fun x y h => (show V.evBody zq101.E zq101.con Tryz.f117 x = _ from zq101.eq (x.1, x.2.1) x.2.2).trans (V.cfl (by kernel_rfl) h))
noncomputable abbrev zq92.con : V.Con := ⟨(.cons .str (.cons (.int .i64) (.cons (.int .i64) (.cons (.sl (.cons .str .nil)) (.cons (.int .i64) .nil))))), (.cons (.sl (.cons .str .nil)) (.cons (.int .i64) .nil)), fun (x : ByteArray × Int × Int × List ByteArray × Int) => zq92 (x.1, x.2.1, x.2.2.1, x.2.2.2.1) x.2.2.2.2, [(3, false)], [(true, 4), (false, 1)], [(false, 1)], [false], []⟩
noncomputable abbrev zq92.E : V.Env := V.mkE V.tys [(164, zq99.con)] [] [] [] [] []
theorem zq92.eq (x0 : TEntry) (x1 : Int) : V.evBody zq92.E zq92.con Tryz.f156 ((x0.1, x0.2.1, x0.2.2.1, x0.2.2.2, x1) : ByteArray × Int × Int × List ByteArray × Int) = zq92 x0 x1 := by kernel_rfl
theorem zq92.ok : V.Valid Tryz.prog 156 zq92.con :=
  V.fo (V.tab_cons zq99.ok V.tab_nil) Tryz.func156 (by kernel_rfl) (fun x y h => (show V.evBody zq92.E zq92.con Tryz.f156 x = _ from zq92.eq (x.1, x.2.1, x.2.2.1, x.2.2.2.1) x.2.2.2.2).trans (V.cfl (by kernel_rfl) h))
noncomputable abbrev zq96.con : V.Con := ⟨(.cons (.int .i64) (.cons (.sl (.cons (.int .i64) .nil)) (.cons (.int .i64) .nil))), (.cons (.sl (.cons (.int .i64) .nil)) (.cons (.int .i64) .nil)), fun (x : Int × List Int × Int) => zq96 (x.1, x.2.1) x.2.2, [(1, false)], [(true, 2), (false, 1)], [(false, 1)], [false], []⟩
noncomputable abbrev zq96.E : V.Env := V.mkE V.tys [(92, zq95.con)] [] [] [] [] []
theorem zq96.eq (x0 : TProof) (x1 : Int) : V.evBody zq96.E zq96.con Tryz.f157 ((x0.1, x0.2, x1) : Int × List Int × Int) = zq96 x0 x1 := by kernel_rfl
theorem zq96.ok : V.Valid Tryz.prog 157 zq96.con :=
  V.fo (V.tab_cons zq95.ok V.tab_nil) Tryz.func157 (by kernel_rfl) (fun x y h => (show V.evBody zq96.E zq96.con Tryz.f157 x = _ from zq96.eq (x.1, x.2.1) x.2.2).trans (V.cfl (by kernel_rfl) h))
noncomputable abbrev zq94.con : V.Con := ⟨V.A10, (.cons (.sl (.cons .str .nil)) (.cons (.sl (.cons .str .nil)) (.cons (.sl (.cons (.int .i64) .nil)) (.cons (.sl (.cons (.int .i64) .nil)) (.cons (.int .i64) .nil))))), fun (x : V.D10) => zq94 (V.p10_0 x) (V.p10_1 x), [(4, false), (8, false), (10, false), (12, false)], [(true, 13), (false, 1)], [(false, 1)], [false], []⟩
noncomputable abbrev zq94.E : V.Env := V.mkE V.tys [(156, zq92.con), (157, zq96.con)] [] [] [] [] []
noncomputable abbrev zq94.kt (x0 : TGap) (x1 : Int) : V.Kt (List ByteArray × List ByteArray × List Int × List Int × Int) := V.ktOf zq94.E zq94.con Tryz.f158 (V.fl10 x0 x1)
noncomputable abbrev zq94.s (x0 : TGap) (x1 : Int) : V.St := ⟨[(0, .v true [.val (.int .i64 x0.1), .val (.str x0.2.1), .val (.int .i64 x0.2.2.1), .val (.int .i64 x0.2.2.2.1), .ref 4, .val (.str x0.2.2.2.2.2.1), .val (.int .i64 x0.2.2.2.2.2.2.1), .val (.int .i64 x0.2.2.2.2.2.2.2.1), .ref 8, .val (.int .i64 x0.2.2.2.2.2.2.2.2.2.1), .ref 10, .val (.int .i64 x0.2.2.2.2.2.2.2.2.2.2.2.1), .ref 12]), (1, .v false [.val (.int .i64 x1)])], [(4, .row (.cons .str .nil) true x0.2.2.2.2.1), (8, .row (.cons .str .nil) true x0.2.2.2.2.2.2.2.2.1), (10, .row (.cons (.int .i64) .nil) true x0.2.2.2.2.2.2.2.2.2.2.1), (12, .row (.cons (.int .i64) .nil) true x0.2.2.2.2.2.2.2.2.2.2.2.2)]⟩
theorem zq94.v0 (x0 : TGap) (x1 : Int) : V.evBody zq94.E zq94.con Tryz.f158 (V.fl10 x0 x1) = V.evC zq94.E Tryz.f158.ntmps (V.codeOf Tryz.f158) (zq94.kt x0 x1) (zq94.s x0 x1) := by kernel_rfl
theorem zq94.v (x0 : TGap) (x1 : Int) : V.evC zq94.E Tryz.f158.ntmps (V.codeOf Tryz.f158) (zq94.kt x0 x1) (zq94.s x0 x1) = zq94 x0 x1 := by kernel_rfl
theorem zq94.eq (x0 : TGap) (x1 : Int) : V.evBody zq94.E zq94.con Tryz.f158 (V.fl10 x0 x1) = zq94 x0 x1 := (zq94.v0 x0 x1).trans (zq94.v x0 x1)
theorem zq94.ok : V.Valid Tryz.prog 158 zq94.con :=
  V.fo (V.tab_cons zq92.ok (V.tab_cons zq96.ok V.tab_nil)) Tryz.func158 (by kernel_rfl) (fun x y h => (show V.evBody zq94.E zq94.con Tryz.f158 x = _ from zq94.eq (V.p10_0 x) (V.p10_1 x)).trans (V.cfl (by kernel_rfl) h))
noncomputable abbrev zq91.con : V.Con := ⟨V.A11, (.cons (.sl V.eSigned) (.cons (.sl (.cons .str .nil)) (.cons (.sl (.cons (.int .i64) .nil)) (.cons (.sl (.cons .str .nil)) (.cons (.sl (.cons .str .nil)) (.cons (.sl (.cons (.int .i64) .nil)) (.cons (.sl (.cons (.int .i64) .nil)) (.cons (.int .i64) .nil)))))))), fun (x : V.D11) => zq91 (V.p11_0 x) (V.p11_1 x), [(0, false), (5, false), (7, false), (12, false), (16, false), (18, false), (20, false)], [(true, 21), (false, 1)], [(false, 1)], [false], []⟩
noncomputable abbrev zq91.E : V.Env := V.mkE V.tys [(155, zq98.con), (156, zq92.con), (157, zq96.con), (158, zq94.con)] [] [] [] [] []
noncomputable abbrev zq91.kt (x0 : TAnswer) (x1 : Int) : V.Kt (List TSigned × List ByteArray × List Int × List ByteArray × List ByteArray × List Int × List Int × Int) := V.ktOf zq91.E zq91.con Tryz.f22 (V.fl11 x0 x1)
noncomputable abbrev zq91.s (x0 : TAnswer) (x1 : Int) : V.St := ⟨[(0, .v true [.ref 0, .val (.bool x0.2.1), .val (.str x0.2.2.1), .val (.int .i64 x0.2.2.2.1), .val (.int .i64 x0.2.2.2.2.1), .ref 5, .val (.int .i64 x0.2.2.2.2.2.2.1), .ref 7, .val (.int .i64 x0.2.2.2.2.2.2.2.2.1), .val (.str x0.2.2.2.2.2.2.2.2.2.1), .val (.int .i64 x0.2.2.2.2.2.2.2.2.2.2.1), .val (.int .i64 x0.2.2.2.2.2.2.2.2.2.2.2.1), .ref 12, .val (.str x0.2.2.2.2.2.2.2.2.2.2.2.2.2.1), .val (.int .i64 x0.2.2.2.2.2.2.2.2.2.2.2.2.2.2.1), .val (.int .i64 x0.2.2.2.2.2.2.2.2.2.2.2.2.2.2.2.1), .ref 16, .val (.int .i64 x0.2.2.2.2.2.2.2.2.2.2.2.2.2.2.2.2.2.1), .ref 18, .val (.int .i64 x0.2.2.2.2.2.2.2.2.2.2.2.2.2.2.2.2.2.2.2.1), .ref 20]), (1, .v false [.val (.int .i64 x1)])], [(0, .row V.eSigned true x0.1), (5, .row (.cons .str .nil) true x0.2.2.2.2.2.1), (7, .row (.cons (.int .i64) .nil) true x0.2.2.2.2.2.2.2.1), (12, .row (.cons .str .nil) true x0.2.2.2.2.2.2.2.2.2.2.2.2.1), (16, .row (.cons .str .nil) true x0.2.2.2.2.2.2.2.2.2.2.2.2.2.2.2.2.1), (18, .row (.cons (.int .i64) .nil) true x0.2.2.2.2.2.2.2.2.2.2.2.2.2.2.2.2.2.2.1), (20, .row (.cons (.int .i64) .nil) true x0.2.2.2.2.2.2.2.2.2.2.2.2.2.2.2.2.2.2.2.2)]⟩
theorem zq91.v0 (x0 : TAnswer) (x1 : Int) : V.evBody zq91.E zq91.con Tryz.f22 (V.fl11 x0 x1) = V.evC zq91.E Tryz.f22.ntmps (V.codeOf Tryz.f22) (zq91.kt x0 x1) (zq91.s x0 x1) := by kernel_rfl
theorem zq91.v (x0 : TAnswer) (x1 : Int) : V.evC zq91.E Tryz.f22.ntmps (V.codeOf Tryz.f22) (zq91.kt x0 x1) (zq91.s x0 x1) = zq91 x0 x1 := by kernel_rfl
theorem zq91.eq (x0 : TAnswer) (x1 : Int) : V.evBody zq91.E zq91.con Tryz.f22 (V.fl11 x0 x1) = zq91 x0 x1 := (zq91.v0 x0 x1).trans (zq91.v x0 x1)
theorem zq91.ok : V.Valid Tryz.prog 22 zq91.con :=
  V.fo (V.tab_cons zq98.ok (V.tab_cons zq92.ok (V.tab_cons zq96.ok (V.tab_cons zq94.ok V.tab_nil)))) Tryz.func22 (by kernel_rfl) (fun x y h => (show V.evBody zq91.E zq91.con Tryz.f22 x = _ from zq91.eq (V.p11_0 x) (V.p11_1 x)).trans (V.cfl (by kernel_rfl) h))
noncomputable abbrev zq86.con : V.Con := ⟨(.cons (.sl (.cons (.int .i64) .nil)) (.cons (.int .i64) .nil)), (.cons (.int .i64) .nil), fun (x : List Int × Int) => zq86 x.1 x.2, [], [(false, 1), (false, 1)], [(false, 1)], [false], []⟩
noncomputable abbrev zq86.E : V.Env := V.mkE V.tys [] [(4, [0, 1, 5], [])] [] [] [] []
noncomputable abbrev zq86.kt (x0 : List Int) (x1 : Int) : V.Kt Int := V.ktOf zq86.E zq86.con Tryz.f93 ((x0, x1) : List Int × Int)
noncomputable abbrev zq86.s4 (x0 : List Int) (v4_1 : Int) (v4_2 : Int) : V.St := ⟨[(0, .v false [.val (.sl (.cons (.int .i64) .nil) x0)]), (1, .v false [.val (.int .i64 v4_1)]), (5, .v false [.val (.int .i64 v4_2)])], []⟩
theorem zq86.r4 (x0 : List Int) (x1 : Int) (R : V.St → Option Int) (v4_1 : Int) (v4_2 : Int) : V.loopF zq86.E Tryz.f93.ntmps [1, 0, 1, 0] [] (V.codeOf Tryz.f93) (zq86.kt x0 x1) R (zq86.s4 x0 v4_1 v4_2) = zq86.g4 x0 (fun v4_1 v4_2 => R (zq86.s4 x0 v4_1 v4_2)) v4_1 v4_2 := by kernel_rfl
theorem zq86.e4 (x0 : List Int) (x1 : Int) : ∀ (n : Nat) (v4_1 : Int) (v4_2 : Int), V.loopN (V.loopF zq86.E Tryz.f93.ntmps [1, 0, 1, 0] [] (V.codeOf Tryz.f93) (zq86.kt x0 x1)) n (zq86.s4 x0 v4_1 v4_2) = zq86.l4 x0 n v4_1 v4_2 := by
  intro n
  induction n with
  | zero => intros; rw [V.loopN_z]; rfl
  | succ n ih =>
    intro v4_1 v4_2
    rw [V.loopN_s, zq86.r4]
    simp only [ih]
    first | exact (zq86.u4 ..).symm | rfl
theorem zq86.v (x0 : List Int) (x1 : Int) : V.evBody zq86.E zq86.con Tryz.f93 ((x0, x1) : List Int × Int) = zq86.b x0 x1 (fun v4_1 v4_2 => V.loopN (V.loopF zq86.E Tryz.f93.ntmps [1, 0, 1, 0] [] (V.codeOf Tryz.f93) (zq86.kt x0 x1)) V.KK (zq86.s4 x0 v4_1 v4_2)) := by kernel_rfl
theorem zq86.eq (x0 : List Int) (x1 : Int) : V.evBody zq86.E zq86.con Tryz.f93 ((x0, x1) : List Int × Int) = zq86 x0 x1 := by
  rw [zq86.v]
  simp only [zq86.e4]
  rfl
theorem zq86.ok : V.Valid Tryz.prog 93 zq86.con :=
  V.fo V.tab_nil Tryz.func93 (by kernel_rfl) (fun x y h => (show V.evBody zq86.E zq86.con Tryz.f93 x = _ from zq86.eq x.1 x.2).trans (V.cfl (by kernel_rfl) h))
noncomputable abbrev zq88.con : V.Con := ⟨(.cons (.sl (.cons (.int .i64) (.cons (.int .i64) .nil))) (.cons (.int .i64) .nil)), (.cons (.int .i64) .nil), fun (x : List TSig × Int) => zq88 x.1 x.2, [], [(false, 1), (false, 1)], [(false, 1)], [false], []⟩
noncomputable abbrev zq88.E : V.Env := V.mkE V.tys [] [(4, [0, 1, 5], [])] [] [] [] []
noncomputable abbrev zq88.kt (x0 : List TSig) (x1 : Int) : V.Kt Int := V.ktOf zq88.E zq88.con Tryz.f301 ((x0, x1) : List TSig × Int)
noncomputable abbrev zq88.s4 (x0 : List TSig) (v4_1 : Int) (v4_2 : Int) : V.St := ⟨[(0, .v false [.val (.sl (.cons (.int .i64) (.cons (.int .i64) .nil)) x0)]), (1, .v false [.val (.int .i64 v4_1)]), (5, .v false [.val (.int .i64 v4_2)])], []⟩
theorem zq88.r4 (x0 : List TSig) (x1 : Int) (R : V.St → Option Int) (v4_1 : Int) (v4_2 : Int) : V.loopF zq88.E Tryz.f301.ntmps [1, 0, 1, 0] [] (V.codeOf Tryz.f301) (zq88.kt x0 x1) R (zq88.s4 x0 v4_1 v4_2) = zq88.g4 x0 (fun v4_1 v4_2 => R (zq88.s4 x0 v4_1 v4_2)) v4_1 v4_2 := by kernel_rfl
theorem zq88.e4 (x0 : List TSig) (x1 : Int) : ∀ (n : Nat) (v4_1 : Int) (v4_2 : Int), V.loopN (V.loopF zq88.E Tryz.f301.ntmps [1, 0, 1, 0] [] (V.codeOf Tryz.f301) (zq88.kt x0 x1)) n (zq88.s4 x0 v4_1 v4_2) = zq88.l4 x0 n v4_1 v4_2 := by
  intro n
  induction n with
  | zero => intros; rw [V.loopN_z]; rfl
  | succ n ih =>
    intro v4_1 v4_2
    rw [V.loopN_s, zq88.r4]
    simp only [ih]
    first | exact (zq88.u4 ..).symm | rfl
theorem zq88.v (x0 : List TSig) (x1 : Int) : V.evBody zq88.E zq88.con Tryz.f301 ((x0, x1) : List TSig × Int) = zq88.b x0 x1 (fun v4_1 v4_2 => V.loopN (V.loopF zq88.E Tryz.f301.ntmps [1, 0, 1, 0] [] (V.codeOf Tryz.f301) (zq88.kt x0 x1)) V.KK (zq88.s4 x0 v4_1 v4_2)) := by kernel_rfl
theorem zq88.eq (x0 : List TSig) (x1 : Int) : V.evBody zq88.E zq88.con Tryz.f301 ((x0, x1) : List TSig × Int) = zq88 x0 x1 := by
  rw [zq88.v]
  simp only [zq88.e4]
  rfl
theorem zq88.ok : V.Valid Tryz.prog 301 zq88.con :=
  V.fo V.tab_nil Tryz.func301 (by kernel_rfl) (fun x y h => (show V.evBody zq88.E zq88.con Tryz.f301 x = _ from zq88.eq x.1 x.2).trans (V.cfl (by kernel_rfl) h))
noncomputable abbrev zq89.con : V.Con := ⟨(.cons (.sl V.eSigned) (.cons (.int .i64) .nil)), (.cons (.int .i64) .nil), fun (x : List TSigned × Int) => zq89 x.1 x.2, [], [(false, 1), (false, 1)], [(false, 1)], [false], []⟩
noncomputable abbrev zq89.E : V.Env := V.mkE V.tys [(93, zq86.con), (301, zq88.con)] [(4, [0, 1, 5], [])] [] [] [] []
noncomputable abbrev zq89.kt (x0 : List TSigned) (x1 : Int) : V.Kt Int := V.ktOf zq89.E zq89.con Tryz.f159 ((x0, x1) : List TSigned × Int)
noncomputable abbrev zq89.s4 (x0 : List TSigned) (v4_1 : Int) (v4_2 : Int) : V.St := ⟨[(0, .v false [.val (.sl V.eSigned x0)]), (1, .v false [.val (.int .i64 v4_1)]), (5, .v false [.val (.int .i64 v4_2)])], []⟩
theorem zq89.r4 (x0 : List TSigned) (x1 : Int) (R : V.St → Option Int) (v4_1 : Int) (v4_2 : Int) : V.loopF zq89.E Tryz.f159.ntmps [1, 0, 1, 0] [] (V.codeOf Tryz.f159) (zq89.kt x0 x1) R (zq89.s4 x0 v4_1 v4_2) = zq89.g4 x0 (fun v4_1 v4_2 => R (zq89.s4 x0 v4_1 v4_2)) v4_1 v4_2 := by kernel_rfl
theorem zq89.e4 (x0 : List TSigned) (x1 : Int) : ∀ (n : Nat) (v4_1 : Int) (v4_2 : Int), V.loopN (V.loopF zq89.E Tryz.f159.ntmps [1, 0, 1, 0] [] (V.codeOf Tryz.f159) (zq89.kt x0 x1)) n (zq89.s4 x0 v4_1 v4_2) = zq89.l4 x0 n v4_1 v4_2 := by
  intro n
  induction n with
  | zero => intros; rw [V.loopN_z]; rfl
  | succ n ih =>
    intro v4_1 v4_2
    rw [V.loopN_s, zq89.r4]
    simp only [ih]
    first | exact (zq89.u4 ..).symm | rfl
theorem zq89.v (x0 : List TSigned) (x1 : Int) : V.evBody zq89.E zq89.con Tryz.f159 ((x0, x1) : List TSigned × Int) = zq89.b x0 x1 (fun v4_1 v4_2 => V.loopN (V.loopF zq89.E Tryz.f159.ntmps [1, 0, 1, 0] [] (V.codeOf Tryz.f159) (zq89.kt x0 x1)) V.KK (zq89.s4 x0 v4_1 v4_2)) := by kernel_rfl
theorem zq89.eq (x0 : List TSigned) (x1 : Int) : V.evBody zq89.E zq89.con Tryz.f159 ((x0, x1) : List TSigned × Int) = zq89 x0 x1 := by
  rw [zq89.v]
  simp only [zq89.e4]
  rfl
theorem zq89.ok : V.Valid Tryz.prog 159 zq89.con :=
  V.fo (V.tab_cons zq86.ok (V.tab_cons zq88.ok V.tab_nil)) Tryz.func159 (by kernel_rfl) (fun x y h => (show V.evBody zq89.E zq89.con Tryz.f159 x = _ from zq89.eq x.1 x.2).trans (V.cfl (by kernel_rfl) h))
noncomputable abbrev zq90.con : V.Con := ⟨(.cons (.sl (.cons .str .nil)) (.cons (.int .i64) .nil)), (.cons (.int .i64) .nil), fun (x : List ByteArray × Int) => zq90 x.1 x.2, [], [(false, 1), (false, 1)], [(false, 1)], [false], []⟩
noncomputable abbrev zq90.E : V.Env := V.mkE V.tys [(163, zq100.con)] [(4, [0, 1, 5], [])] [(4, 6)] [] [] []
noncomputable abbrev zq90.kt (x0 : List ByteArray) (x1 : Int) : V.Kt Int := V.ktOf zq90.E zq90.con Tryz.f165 ((x0, x1) : List ByteArray × Int)
noncomputable abbrev zq90.s4 (x0 : List ByteArray) (v4_1 : Int) (v4_2 : Int) : V.St := ⟨[(0, .v false [.val (.sl (.cons .str .nil) x0)]), (1, .v false [.val (.int .i64 v4_1)]), (5, .v false [.val (.int .i64 v4_2)])], []⟩
theorem zq90.r4 (x0 : List ByteArray) (x1 : Int) (R : V.St → Option Int) (v4_1 : Int) (v4_2 : Int) : V.loopF zq90.E Tryz.f165.ntmps [1, 0, 1, 0] [] (V.codeOf Tryz.f165) (zq90.kt x0 x1) R (zq90.s4 x0 v4_1 v4_2) = zq90.g4 x0 (fun v4_1 v4_2 => R (zq90.s4 x0 v4_1 v4_2)) v4_1 v4_2 := by kernel_rfl
theorem zq90.e4 (x0 : List ByteArray) (x1 : Int) : ∀ (n : Nat) (v4_1 : Int) (v4_2 : Int), V.loopN (V.loopF zq90.E Tryz.f165.ntmps [1, 0, 1, 0] [] (V.codeOf Tryz.f165) (zq90.kt x0 x1)) n (zq90.s4 x0 v4_1 v4_2) = zq90.l4 x0 n v4_1 v4_2 := by
  intro n
  induction n with
  | zero => intros; rw [V.loopN_z]; rfl
  | succ n ih =>
    intro v4_1 v4_2
    rw [V.loopN_s, zq90.r4]
    simp only [ih]
    first | exact (zq90.u4 ..).symm | rfl
theorem zq90.v (x0 : List ByteArray) (x1 : Int) : V.evBody zq90.E zq90.con Tryz.f165 ((x0, x1) : List ByteArray × Int) = zq90.b x0 x1 (fun v4_1 v4_2 => V.loopN (V.loopF zq90.E Tryz.f165.ntmps [1, 0, 1, 0] [] (V.codeOf Tryz.f165) (zq90.kt x0 x1)) V.KK (zq90.s4 x0 v4_1 v4_2)) := by kernel_rfl
theorem zq90.eq (x0 : List ByteArray) (x1 : Int) : V.evBody zq90.E zq90.con Tryz.f165 ((x0, x1) : List ByteArray × Int) = zq90 x0 x1 := by
  rw [zq90.v]
  simp only [zq90.e4]
  rfl
theorem zq90.ok : V.Valid Tryz.prog 165 zq90.con :=
  V.fo (V.tab_cons zq100.ok V.tab_nil) Tryz.func165 (by kernel_rfl) (fun x y h => (show V.evBody zq90.E zq90.con Tryz.f165 x = _ from zq90.eq x.1 x.2).trans (V.cfl (by kernel_rfl) h))
noncomputable abbrev zq84.con : V.Con := ⟨(.cons .str (.cons (.int .i64) (.cons (.int .i64) (.cons (.sl (.cons .str .nil)) (.cons (.int .i64) .nil))))), (.cons (.int .i64) .nil), fun (x : ByteArray × Int × Int × List ByteArray × Int) => zq84 (x.1, x.2.1, x.2.2.1, x.2.2.2.1) x.2.2.2.2, [], [(true, 4), (false, 1)], [(false, 1)], [false], []⟩
noncomputable abbrev zq84.E : V.Env := V.mkE V.tys [(165, zq90.con)] [] [] [] [] []
theorem zq84.eq (x0 : TEntry) (x1 : Int) : V.evBody zq84.E zq84.con Tryz.f160 ((x0.1, x0.2.1, x0.2.2.1, x0.2.2.2, x1) : ByteArray × Int × Int × List ByteArray × Int) = zq84 x0 x1 := by kernel_rfl
theorem zq84.ok : V.Valid Tryz.prog 160 zq84.con :=
  V.fo (V.tab_cons zq90.ok V.tab_nil) Tryz.func160 (by kernel_rfl) (fun x y h => (show V.evBody zq84.E zq84.con Tryz.f160 x = _ from zq84.eq (x.1, x.2.1, x.2.2.1, x.2.2.2.1) x.2.2.2.2).trans (V.cfl (by kernel_rfl) h))
noncomputable abbrev zq87.con : V.Con := ⟨(.cons (.int .i64) (.cons (.sl (.cons (.int .i64) .nil)) (.cons (.int .i64) .nil))), (.cons (.int .i64) .nil), fun (x : Int × List Int × Int) => zq87 (x.1, x.2.1) x.2.2, [], [(true, 2), (false, 1)], [(false, 1)], [false], []⟩
noncomputable abbrev zq87.E : V.Env := V.mkE V.tys [(93, zq86.con)] [] [] [] [] []
theorem zq87.eq (x0 : TProof) (x1 : Int) : V.evBody zq87.E zq87.con Tryz.f161 ((x0.1, x0.2, x1) : Int × List Int × Int) = zq87 x0 x1 := by kernel_rfl
theorem zq87.ok : V.Valid Tryz.prog 161 zq87.con :=
  V.fo (V.tab_cons zq86.ok V.tab_nil) Tryz.func161 (by kernel_rfl) (fun x y h => (show V.evBody zq87.E zq87.con Tryz.f161 x = _ from zq87.eq (x.1, x.2.1) x.2.2).trans (V.cfl (by kernel_rfl) h))
noncomputable abbrev zq85.con : V.Con := ⟨V.A10, (.cons (.int .i64) .nil), fun (x : V.D10) => zq85 (V.p10_0 x) (V.p10_1 x), [], [(true, 13), (false, 1)], [(false, 1)], [false], []⟩
noncomputable abbrev zq85.E : V.Env := V.mkE V.tys [(160, zq84.con), (161, zq87.con)] [] [] [] [] []
noncomputable abbrev zq85.kt (x0 : TGap) (x1 : Int) : V.Kt Int := V.ktOf zq85.E zq85.con Tryz.f162 (V.fl10 x0 x1)
noncomputable abbrev zq85.s (x0 : TGap) (x1 : Int) : V.St := ⟨[(0, .v true [.val (.int .i64 x0.1), .val (.str x0.2.1), .val (.int .i64 x0.2.2.1), .val (.int .i64 x0.2.2.2.1), .val (.sl (.cons .str .nil) x0.2.2.2.2.1), .val (.str x0.2.2.2.2.2.1), .val (.int .i64 x0.2.2.2.2.2.2.1), .val (.int .i64 x0.2.2.2.2.2.2.2.1), .val (.sl (.cons .str .nil) x0.2.2.2.2.2.2.2.2.1), .val (.int .i64 x0.2.2.2.2.2.2.2.2.2.1), .val (.sl (.cons (.int .i64) .nil) x0.2.2.2.2.2.2.2.2.2.2.1), .val (.int .i64 x0.2.2.2.2.2.2.2.2.2.2.2.1), .val (.sl (.cons (.int .i64) .nil) x0.2.2.2.2.2.2.2.2.2.2.2.2)]), (1, .v false [.val (.int .i64 x1)])], []⟩
theorem zq85.v0 (x0 : TGap) (x1 : Int) : V.evBody zq85.E zq85.con Tryz.f162 (V.fl10 x0 x1) = V.evC zq85.E Tryz.f162.ntmps (V.codeOf Tryz.f162) (zq85.kt x0 x1) (zq85.s x0 x1) := by kernel_rfl
theorem zq85.v (x0 : TGap) (x1 : Int) : V.evC zq85.E Tryz.f162.ntmps (V.codeOf Tryz.f162) (zq85.kt x0 x1) (zq85.s x0 x1) = zq85 x0 x1 := by kernel_rfl
theorem zq85.eq (x0 : TGap) (x1 : Int) : V.evBody zq85.E zq85.con Tryz.f162 (V.fl10 x0 x1) = zq85 x0 x1 := (zq85.v0 x0 x1).trans (zq85.v x0 x1)
theorem zq85.ok : V.Valid Tryz.prog 162 zq85.con :=
  V.fo (V.tab_cons zq84.ok (V.tab_cons zq87.ok V.tab_nil)) Tryz.func162 (by kernel_rfl) (fun x y h => (show V.evBody zq85.E zq85.con Tryz.f162 x = _ from zq85.eq (V.p10_0 x) (V.p10_1 x)).trans (V.cfl (by kernel_rfl) h))
noncomputable abbrev zq83.con : V.Con := ⟨V.A11, (.cons (.int .i64) .nil), fun (x : V.D11) => zq83 (V.p11_0 x) (V.p11_1 x), [], [(true, 21), (false, 1)], [(false, 1)], [false], []⟩
noncomputable abbrev zq83.E : V.Env := V.mkE V.tys [(159, zq89.con), (160, zq84.con), (161, zq87.con), (162, zq85.con)] [] [] [] [] []
noncomputable abbrev zq83.kt (x0 : TAnswer) (x1 : Int) : V.Kt Int := V.ktOf zq83.E zq83.con Tryz.f23 (V.fl11 x0 x1)
noncomputable abbrev zq83.s (x0 : TAnswer) (x1 : Int) : V.St := ⟨[(0, .v true [.val (.sl V.eSigned x0.1), .val (.bool x0.2.1), .val (.str x0.2.2.1), .val (.int .i64 x0.2.2.2.1), .val (.int .i64 x0.2.2.2.2.1), .val (.sl (.cons .str .nil) x0.2.2.2.2.2.1), .val (.int .i64 x0.2.2.2.2.2.2.1), .val (.sl (.cons (.int .i64) .nil) x0.2.2.2.2.2.2.2.1), .val (.int .i64 x0.2.2.2.2.2.2.2.2.1), .val (.str x0.2.2.2.2.2.2.2.2.2.1), .val (.int .i64 x0.2.2.2.2.2.2.2.2.2.2.1), .val (.int .i64 x0.2.2.2.2.2.2.2.2.2.2.2.1), .val (.sl (.cons .str .nil) x0.2.2.2.2.2.2.2.2.2.2.2.2.1), .val (.str x0.2.2.2.2.2.2.2.2.2.2.2.2.2.1), .val (.int .i64 x0.2.2.2.2.2.2.2.2.2.2.2.2.2.2.1), .val (.int .i64 x0.2.2.2.2.2.2.2.2.2.2.2.2.2.2.2.1), .val (.sl (.cons .str .nil) x0.2.2.2.2.2.2.2.2.2.2.2.2.2.2.2.2.1), .val (.int .i64 x0.2.2.2.2.2.2.2.2.2.2.2.2.2.2.2.2.2.1), .val (.sl (.cons (.int .i64) .nil) x0.2.2.2.2.2.2.2.2.2.2.2.2.2.2.2.2.2.2.1), .val (.int .i64 x0.2.2.2.2.2.2.2.2.2.2.2.2.2.2.2.2.2.2.2.1), .val (.sl (.cons (.int .i64) .nil) x0.2.2.2.2.2.2.2.2.2.2.2.2.2.2.2.2.2.2.2.2)]), (1, .v false [.val (.int .i64 x1)])], []⟩
theorem zq83.v0 (x0 : TAnswer) (x1 : Int) : V.evBody zq83.E zq83.con Tryz.f23 (V.fl11 x0 x1) = V.evC zq83.E Tryz.f23.ntmps (V.codeOf Tryz.f23) (zq83.kt x0 x1) (zq83.s x0 x1) := by kernel_rfl
theorem zq83.v (x0 : TAnswer) (x1 : Int) : V.evC zq83.E Tryz.f23.ntmps (V.codeOf Tryz.f23) (zq83.kt x0 x1) (zq83.s x0 x1) = zq83 x0 x1 := by kernel_rfl
theorem zq83.eq (x0 : TAnswer) (x1 : Int) : V.evBody zq83.E zq83.con Tryz.f23 (V.fl11 x0 x1) = zq83 x0 x1 := (zq83.v0 x0 x1).trans (zq83.v x0 x1)
theorem zq83.ok : V.Valid Tryz.prog 23 zq83.con :=
  V.fo (V.tab_cons zq89.ok (V.tab_cons zq84.ok (V.tab_cons zq87.ok (V.tab_cons zq85.ok V.tab_nil)))) Tryz.func23 (by kernel_rfl) (fun x y h => (show V.evBody zq83.E zq83.con Tryz.f23 x = _ from zq83.eq (V.p11_0 x) (V.p11_1 x)).trans (V.cfl (by kernel_rfl) h))
noncomputable abbrev zq68.con : V.Con := ⟨(.cons (.sl V.eSigned) (.cons (.sl V.eEntry) (.cons .str .nil))), (.cons .bool .nil), fun (x : List TSigned × List TEntry × ByteArray) => zq68 (x.1, x.2.1) x.2.2, [], [(true, 2), (false, 1)], [(false, 1)], [false], []⟩
noncomputable abbrev zq68.E : V.Env := V.mkE V.tys [(19, zq69.con), (22, zq91.con), (23, zq83.con), (110, zq111.con), (112, zq122.con), (115, zq82.con), (117, zq101.con), (132, zq134.con), (133, zq0.con)] [(37, [1, 2, 6, 8], [])] [(12, 3)] [] [] []
noncomputable abbrev zq68.kt (x0 : TZone) (x1 : ByteArray) : V.Kt Bool := V.ktOf zq68.E zq68.con Tryz.f13 ((x0.1, x0.2, x1) : List TSigned × List TEntry × ByteArray)
noncomputable abbrev zq68.s37 (x0 : TZone) (x1 : ByteArray) (y3 : TAnswer) (y5 : TAnswer) : V.St := ⟨[(1, .v false [.val (.str x1)]), (2, .v false [.ptr 64000 0]), (6, .v false [.ptr 512256 0]), (8, .v false [.ptr 640192 0])], [(64000, .box [.val (.sl V.eSigned x0.1), .val (.sl V.eEntry x0.2)]), (512256, .box [.ref 64000000000032784384, .val (.bool y3.2.1), .val (.str y3.2.2.1), .val (.int .i64 y3.2.2.2.1), .val (.int .i64 y3.2.2.2.2.1), .ref 64000000000032784389, .val (.int .i64 y3.2.2.2.2.2.2.1), .ref 64000000000032784391, .val (.int .i64 y3.2.2.2.2.2.2.2.2.1), .val (.str y3.2.2.2.2.2.2.2.2.2.1), .val (.int .i64 y3.2.2.2.2.2.2.2.2.2.2.1), .val (.int .i64 y3.2.2.2.2.2.2.2.2.2.2.2.1), .ref 64000000000032784396, .val (.str y3.2.2.2.2.2.2.2.2.2.2.2.2.2.1), .val (.int .i64 y3.2.2.2.2.2.2.2.2.2.2.2.2.2.2.1), .val (.int .i64 y3.2.2.2.2.2.2.2.2.2.2.2.2.2.2.2.1), .ref 64000000000032784400, .val (.int .i64 y3.2.2.2.2.2.2.2.2.2.2.2.2.2.2.2.2.2.1), .ref 64000000000032784402, .val (.int .i64 y3.2.2.2.2.2.2.2.2.2.2.2.2.2.2.2.2.2.2.2.1), .ref 64000000000032784404]), (64000000000032784384, .row V.eSigned true y3.1), (64000000000032784389, .row (.cons .str .nil) true y3.2.2.2.2.2.1), (64000000000032784391, .row (.cons (.int .i64) .nil) true y3.2.2.2.2.2.2.2.1), (64000000000032784396, .row (.cons .str .nil) true y3.2.2.2.2.2.2.2.2.2.2.2.2.1), (64000000000032784400, .row (.cons .str .nil) true y3.2.2.2.2.2.2.2.2.2.2.2.2.2.2.2.2.1), (64000000000032784402, .row (.cons (.int .i64) .nil) true y3.2.2.2.2.2.2.2.2.2.2.2.2.2.2.2.2.2.2.1), (64000000000032784404, .row (.cons (.int .i64) .nil) true y3.2.2.2.2.2.2.2.2.2.2.2.2.2.2.2.2.2.2.2.2), (640192, .box [.ref 64000000000040972288, .val (.bool y5.2.1), .val (.str y5.2.2.1), .val (.int .i64 y5.2.2.2.1), .val (.int .i64 y5.2.2.2.2.1), .ref 64000000000040972293, .val (.int .i64 y5.2.2.2.2.2.2.1), .ref 64000000000040972295, .val (.int .i64 y5.2.2.2.2.2.2.2.2.1), .val (.str y5.2.2.2.2.2.2.2.2.2.1), .val (.int .i64 y5.2.2.2.2.2.2.2.2.2.2.1), .val (.int .i64 y5.2.2.2.2.2.2.2.2.2.2.2.1), .ref 64000000000040972300, .val (.str y5.2.2.2.2.2.2.2.2.2.2.2.2.2.1), .val (.int .i64 y5.2.2.2.2.2.2.2.2.2.2.2.2.2.2.1), .val (.int .i64 y5.2.2.2.2.2.2.2.2.2.2.2.2.2.2.2.1), .ref 64000000000040972304, .val (.int .i64 y5.2.2.2.2.2.2.2.2.2.2.2.2.2.2.2.2.2.1), .ref 64000000000040972306, .val (.int .i64 y5.2.2.2.2.2.2.2.2.2.2.2.2.2.2.2.2.2.2.2.1), .ref 64000000000040972308]), (64000000000040972288, .row V.eSigned true y5.1), (64000000000040972293, .row (.cons .str .nil) true y5.2.2.2.2.2.1), (64000000000040972295, .row (.cons (.int .i64) .nil) true y5.2.2.2.2.2.2.2.1), (64000000000040972300, .row (.cons .str .nil) true y5.2.2.2.2.2.2.2.2.2.2.2.2.1), (64000000000040972304, .row (.cons .str .nil) true y5.2.2.2.2.2.2.2.2.2.2.2.2.2.2.2.2.1), (64000000000040972306, .row (.cons (.int .i64) .nil) true y5.2.2.2.2.2.2.2.2.2.2.2.2.2.2.2.2.2.2.1), (64000000000040972308, .row (.cons (.int .i64) .nil) true y5.2.2.2.2.2.2.2.2.2.2.2.2.2.2.2.2.2.2.2.2)]⟩
theorem zq68.r37 (x0 : TZone) (x1 : ByteArray) (y3 : TAnswer) (y5 : TAnswer) : V.joinF zq68.E Tryz.f13.ntmps [1, 1, 1, 1, 1, 1, 1, 1, 1, 1, 1, 1] [] (V.codeOf Tryz.f13) (zq68.kt x0 x1) (zq68.s37 x0 x1 y3 y5) = zq68.g37 x0 x1 y3 y5 := by kernel_rfl
theorem zq68.e37 (x0 : TZone) (x1 : ByteArray) (y3 : TAnswer) (y5 : TAnswer) : V.jn (V.joinF zq68.E Tryz.f13.ntmps [1, 1, 1, 1, 1, 1, 1, 1, 1, 1, 1, 1] [] (V.codeOf Tryz.f13) (zq68.kt x0 x1)) (zq68.s37 x0 x1 y3 y5) = zq68.l37 x0 x1 y3 y5 := by
  rw [V.jn_eq, zq68.r37]
  rfl
theorem zq68.v (x0 : TZone) (x1 : ByteArray) : V.evBody zq68.E zq68.con Tryz.f13 ((x0.1, x0.2, x1) : List TSigned × List TEntry × ByteArray) = zq68.b x0 x1 (fun y3 y5 => V.jn (V.joinF zq68.E Tryz.f13.ntmps [1, 1, 1, 1, 1, 1, 1, 1, 1, 1, 1, 1] [] (V.codeOf Tryz.f13) (zq68.kt x0 x1)) (zq68.s37 x0 x1 y3 y5)) := by kernel_rfl
theorem zq68.eq (x0 : TZone) (x1 : ByteArray) : V.evBody zq68.E zq68.con Tryz.f13 ((x0.1, x0.2, x1) : List TSigned × List TEntry × ByteArray) = zq68 x0 x1 := by
  rw [zq68.v]
  simp only [zq68.e37]
  rfl
theorem zq68.ok : V.Valid Tryz.prog 13 zq68.con :=
  V.fo (V.tab_cons zq69.ok (V.tab_cons zq91.ok (V.tab_cons zq83.ok (V.tab_cons zq111.ok (V.tab_cons zq122.ok (V.tab_cons zq82.ok (V.tab_cons zq101.ok (V.tab_cons zq134.ok (V.tab_cons zq0.ok V.tab_nil))))))))) Tryz.func13 (by kernel_rfl) (fun x y h => (show V.evBody zq68.E zq68.con Tryz.f13 x = _ from zq68.eq (x.1, x.2.1) x.2.2).trans (V.cfl (by kernel_rfl) h))
end Go.Proofs.YtmplinobompncaaGreat
