/- That the functions compute it, part 1. -/
import Derived.Test.YtpioofmdambjoaaGreatXPublishWalk0
namespace Go.Proofs.YtpioofmdambjoaaGreat
set_option linter.unusedVariables false
set_option maxRecDepth 100000
noncomputable abbrev zq19.con : V.Con := ⟨(.cons .str .nil), (.cons .bool .nil), fun (x : ByteArray) => zq19 x, [], [(false, 1)], [(false, 1)], [false], []⟩
noncomputable abbrev zq19.E : V.Env := V.mkE V.tys [(151, zq13.con)] [(4, [0, 6, 7], [])] [] [] [] []
noncomputable abbrev zq19.kt (x0 : ByteArray) : V.Kt Bool := V.ktOf zq19.E zq19.con Tryz.f252 ((x0) : ByteArray)
noncomputable abbrev zq19.s4 (x0 : ByteArray) (v4_1 : Int) (v4_2 : Int) : V.St := ⟨[(0, .v false [.val (.str x0)]), (6, .v false [.val (.int .i64 v4_1)]), (7, .v false [.val (.int .i64 v4_2)])], []⟩
theorem zq19.r4 (x0 : ByteArray) (R : V.St → Option Bool) (v4_1 : Int) (v4_2 : Int) : V.loopF zq19.E Tryz.f252.ntmps [1, 0, 1, 0] [] (V.codeOf Tryz.f252) (zq19.kt x0) R (zq19.s4 x0 v4_1 v4_2) = zq19.g4 x0 (fun v4_1 v4_2 => R (zq19.s4 x0 v4_1 v4_2)) v4_1 v4_2 := by kernel_rfl
theorem zq19.e4 (x0 : ByteArray) : ∀ (n : Nat) (v4_1 : Int) (v4_2 : Int), V.loopN (V.loopF zq19.E Tryz.f252.ntmps [1, 0, 1, 0] [] (V.codeOf Tryz.f252) (zq19.kt x0)) n (zq19.s4 x0 v4_1 v4_2) = zq19.l4 x0 n v4_1 v4_2 := by
  intro n
  induction n with
  | zero => intros; rw [V.loopN_z]; rfl
  | succ n ih =>
    intro v4_1 v4_2
    rw [V.loopN_s, zq19.r4]
    simp only [ih]
    first | exact (zq19.u4 ..).symm | rfl
theorem zq19.v (x0 : ByteArray) : V.evBody zq19.E zq19.con Tryz.f252 ((x0) : ByteArray) = zq19.b x0 (fun v4_1 v4_2 => V.loopN (V.loopF zq19.E Tryz.f252.ntmps [1, 0, 1, 0] [] (V.codeOf Tryz.f252) (zq19.kt x0)) V.KK (zq19.s4 x0 v4_1 v4_2)) := by kernel_rfl
theorem zq19.eq (x0 : ByteArray) : V.evBody zq19.E zq19.con Tryz.f252 ((x0) : ByteArray) = zq19 x0 := by
  rw [zq19.v]
  simp only [zq19.e4]
  rfl
theorem zq19.ok : V.Valid Tryz.prog 252 zq19.con :=
  V.fo (V.tab_cons zq13.ok V.tab_nil) Tryz.func252 (by kernel_rfl) (fun x y h => (show V.evBody zq19.E zq19.con Tryz.f252 x = _ from zq19.eq x).trans (V.cfl (by kernel_rfl) h))
noncomputable abbrev zq21.con : V.Con := ⟨(.cons .str .nil), (.cons .bool .nil), fun (x : ByteArray) => zq21 x, [], [(false, 1)], [(false, 1)], [false], []⟩
noncomputable abbrev zq21.E : V.Env := V.mkE V.tys [(252, zq19.con)] [] [] [] [] []
theorem zq21.eq (x0 : ByteArray) : V.evBody zq21.E zq21.con Tryz.f296 ((x0) : ByteArray) = zq21 x0 := by kernel_rfl
theorem zq21.ok : V.Valid Tryz.prog 296 zq21.con :=
  V.fo (V.tab_cons zq19.ok V.tab_nil) Tryz.func296 (by kernel_rfl) (fun x y h => (show V.evBody zq21.E zq21.con Tryz.f296 x = _ from zq21.eq x).trans (V.cfl (by kernel_rfl) h))
noncomputable abbrev zq126.con : V.Con := ⟨(.cons (.sl (.cons .str .nil)) (.cons (.fn 296 false .nil .nil) .nil)), (.cons (.int .i64) .nil), fun (x : List ByteArray × (Unit) × (Unit)) => zq126 x.1 x.2, [], [(false, 1), (false, 1)], [(false, 1)], [false], []⟩
noncomputable abbrev zq126.E : V.Env := V.mkE V.tys [(296, zq21.con)] [(4, [0, 1, 7, 8], [])] [] [] [] []
noncomputable abbrev zq126.kt (x0 : List ByteArray) (x1 : (Unit) × (Unit)) : V.Kt Int := V.ktOf zq126.E zq126.con Tryz.f312 ((x0, x1) : List ByteArray × (Unit) × (Unit))
noncomputable abbrev zq126.s4 (x0 : List ByteArray) (v4_1 : Int) (v4_2 : Int) : V.St := ⟨[(0, .v false [.val (.sl (.cons .str .nil) x0)]), (1, .v false [.val (.fn 296 false .nil .nil () ())]), (7, .v false [.val (.int .i64 v4_1)]), (8, .v false [.val (.int .i64 v4_2)])], []⟩
theorem zq126.r4 (x0 : List ByteArray) (x1 : (Unit) × (Unit)) (R : V.St → Option Int) (v4_1 : Int) (v4_2 : Int) : V.loopF zq126.E Tryz.f312.ntmps [1, 0, 1, 0] [] (V.codeOf Tryz.f312) (zq126.kt x0 x1) R (zq126.s4 x0 v4_1 v4_2) = zq126.g4 x0 (fun v4_1 v4_2 => R (zq126.s4 x0 v4_1 v4_2)) v4_1 v4_2 := by kernel_rfl
theorem zq126.e4 (x0 : List ByteArray) (x1 : (Unit) × (Unit)) : ∀ (n : Nat) (v4_1 : Int) (v4_2 : Int), V.loopN (V.loopF zq126.E Tryz.f312.ntmps [1, 0, 1, 0] [] (V.codeOf Tryz.f312) (zq126.kt x0 x1)) n (zq126.s4 x0 v4_1 v4_2) = zq126.l4 x0 n v4_1 v4_2 := by
  intro n
  induction n with
  | zero => intros; rw [V.loopN_z]; rfl
  | succ n ih =>
    intro v4_1 v4_2
    rw [V.loopN_s, zq126.r4]
    simp only [ih]
    first | exact (zq126.u4 ..).symm | rfl
theorem zq126.v (x0 : List ByteArray) (x1 : (Unit) × (Unit)) : V.evBody zq126.E zq126.con Tryz.f312 ((x0, x1) : List ByteArray × (Unit) × (Unit)) = zq126.b x0 x1 (fun v4_1 v4_2 => V.loopN (V.loopF zq126.E Tryz.f312.ntmps [1, 0, 1, 0] [] (V.codeOf Tryz.f312) (zq126.kt x0 x1)) V.KK (zq126.s4 x0 v4_1 v4_2)) := by kernel_rfl
theorem zq126.eq (x0 : List ByteArray) (x1 : (Unit) × (Unit)) : V.evBody zq126.E zq126.con Tryz.f312 ((x0, x1) : List ByteArray × (Unit) × (Unit)) = zq126 x0 x1 := by
  rw [zq126.v]
  simp only [zq126.e4]
  rfl
theorem zq126.ok : V.Valid Tryz.prog 312 zq126.con :=
  V.fo (V.tab_cons zq21.ok V.tab_nil) Tryz.func312 (by kernel_rfl) (fun x y h => (show V.evBody zq126.E zq126.con Tryz.f312 x = _ from zq126.eq x.1 x.2).trans (V.cfl (by kernel_rfl) h))
noncomputable abbrev zq121.con : V.Con := ⟨(.cons (.sl (.cons .str .nil)) (.cons (.fn 296 false .nil .nil) .nil)), (.cons .bool .nil), fun (x : List ByteArray × (Unit) × (Unit)) => zq121 x.1 x.2, [], [(false, 1), (false, 1)], [(false, 1)], [false], []⟩
noncomputable abbrev zq121.E : V.Env := V.mkE V.tys [(312, zq126.con)] [] [] [] [] []
theorem zq121.eq (x0 : List ByteArray) (x1 : (Unit) × (Unit)) : V.evBody zq121.E zq121.con Tryz.f295 ((x0, x1) : List ByteArray × (Unit) × (Unit)) = zq121 x0 x1 := by kernel_rfl
theorem zq121.ok : V.Valid Tryz.prog 295 zq121.con :=
  V.fo (V.tab_cons zq126.ok V.tab_nil) Tryz.func295 (by kernel_rfl) (fun x y h => (show V.evBody zq121.E zq121.con Tryz.f295 x = _ from zq121.eq x.1 x.2).trans (V.cfl (by kernel_rfl) h))
noncomputable abbrev zq20.con : V.Con := ⟨(.cons (.sl (.cons .str .nil)) .nil), (.cons .bool .nil), fun (x : List ByteArray) => zq20 x, [], [(false, 1)], [(false, 1)], [false], []⟩
noncomputable abbrev zq20.E : V.Env := V.mkE V.tys [(151, zq13.con), (295, zq121.con)] [] [] [] [] []
theorem zq20.eq (x0 : List ByteArray) : V.evBody zq20.E zq20.con Tryz.f253 ((x0) : List ByteArray) = zq20 x0 := by kernel_rfl
theorem zq20.ok : V.Valid Tryz.prog 253 zq20.con :=
  V.fo (V.tab_cons zq13.ok (V.tab_cons zq121.ok V.tab_nil)) Tryz.func253 (by kernel_rfl) (fun x y h => (show V.evBody zq20.E zq20.con Tryz.f253 x = _ from zq20.eq x).trans (V.cfl (by kernel_rfl) h))
noncomputable abbrev zq15.con : V.Con := ⟨V.eEntry, (.cons .bool .nil), fun (x : ByteArray × Int × Int × List ByteArray) => zq15 x, [], [(true, 4)], [(false, 1)], [false], []⟩
noncomputable abbrev zq15.E : V.Env := V.mkE V.tys [(151, zq13.con), (217, zq57.con), (252, zq19.con), (253, zq20.con)] [] [] [] [] []
theorem zq15.eq (x0 : TEntry) : V.evBody zq15.E zq15.con Tryz.f192 ((x0.1, x0.2.1, x0.2.2.1, x0.2.2.2) : ByteArray × Int × Int × List ByteArray) = zq15 x0 := by kernel_rfl
theorem zq15.ok : V.Valid Tryz.prog 192 zq15.con :=
  V.fo (V.tab_cons zq13.ok (V.tab_cons zq57.ok (V.tab_cons zq19.ok (V.tab_cons zq20.ok V.tab_nil)))) Tryz.func192 (by kernel_rfl) (fun x y h => (show V.evBody zq15.E zq15.con Tryz.f192 x = _ from zq15.eq x).trans (V.cfl (by kernel_rfl) h))
noncomputable abbrev zq67.con : V.Con := ⟨.cons .str (.cons .str .nil), .cons (.int .i64) .nil, fun (x : ByteArray × ByteArray) => zq67 x.1 x.2, [], [(false, 1), (false, 1)], [(false, 1)], [false], []⟩
theorem zq67.ok : V.Valid Tryz.prog 297 zq67.con :=
  V.cmp_valid (ρ := ⟨fun n => bif Nat.beq n 213 then 297 else 313, fun t => bif Nat.beq t 3 then 3 else 9, fun x => x⟩) { mixed := V.mixed, f213 := by kernel_rfl, f265 := by kernel_rfl, t3 := by kernel_rfl, a3 := fun w => rfl, z3 := fun w => rfl, v3 := fun w => rfl, t9 := by kernel_rfl, a9 := fun w => rfl, z9 := fun w => rfl, v9 := fun w => rfl }
noncomputable abbrev zq186.con : V.Con := ⟨(.cons .str (.cons .str .nil)), (.cons (.int .i64) .nil), fun (x : ByteArray × ByteArray) => zq186 x.1 x.2, [], [(false, 1), (false, 1)], [(false, 1)], [false], []⟩
noncomputable abbrev zq186.E : V.Env := V.mkE V.tys [(297, zq67.con)] [] [] [] [] []
theorem zq186.eq (x0 : ByteArray) (x1 : ByteArray) : V.evBody zq186.E zq186.con Tryz.f254 ((x0, x1) : ByteArray × ByteArray) = zq186 x0 x1 := by kernel_rfl
theorem zq186.ok : V.Valid Tryz.prog 254 zq186.con :=
  V.fo (V.tab_cons zq67.ok V.tab_nil) Tryz.func254 (by kernel_rfl) (fun x y h => (show V.evBody zq186.E zq186.con Tryz.f254 x = _ from zq186.eq x.1 x.2).trans (V.cfl (by kernel_rfl) h))
noncomputable abbrev zq3.con : V.Con := ⟨(.cons .str (.cons .str .nil)), (.cons (.int .i64) .nil), fun (x : ByteArray × ByteArray) => zq3 x.1 x.2, [], [(false, 1), (false, 1)], [(false, 1)], [false], []⟩
noncomputable abbrev zq3.E : V.Env := V.mkE V.tys [(254, zq186.con)] [] [] [] [] []
theorem zq3.eq (x0 : ByteArray) (x1 : ByteArray) : V.evBody zq3.E zq3.con Tryz.f193 ((x0, x1) : ByteArray × ByteArray) = zq3 x0 x1 := by kernel_rfl
theorem zq3.ok : V.Valid Tryz.prog 193 zq3.con :=
  V.fo (V.tab_cons zq186.ok V.tab_nil) Tryz.func193 (by kernel_rfl) (fun x y h => (show V.evBody zq3.E zq3.con Tryz.f193 x = _ from zq3.eq x.1 x.2).trans (V.cfl (by kernel_rfl) h))
noncomputable abbrev zq0.con : V.Con := ⟨(.cons (.sl V.eEntry) .nil), (.cons .bool .nil), fun (x : List TEntry) => zq0 x, [], [(false, 1)], [(false, 1)], [false], []⟩
noncomputable abbrev zq0.E : V.Env := V.mkE V.tys [(192, zq15.con), (193, zq3.con)] [(4, [0, 5, 6, 7], [])] [(4, 15)] [] [] []
noncomputable abbrev zq0.kt (x0 : List TEntry) : V.Kt Bool := V.ktOf zq0.E zq0.con Tryz.f91 ((x0) : List TEntry)
noncomputable abbrev zq0.s4 (x0 : List TEntry) (v4_2 : Int) (v4_3 : Int) : V.St := ⟨[(0, .v false [.val (.sl V.eEntry x0)]), (5, .v false [.val (.sl V.eEntry x0)]), (6, .v false [.val (.int .i64 v4_2)]), (7, .v false [.val (.int .i64 v4_3)])], []⟩
theorem zq0.r4 (x0 : List TEntry) (R : V.St → Option Bool) (v4_2 : Int) (v4_3 : Int) : V.loopF zq0.E Tryz.f91.ntmps [1, 0, 1, 0] [] (V.codeOf Tryz.f91) (zq0.kt x0) R (zq0.s4 x0 v4_2 v4_3) = zq0.g4 x0 (fun v4_2 v4_3 => R (zq0.s4 x0 v4_2 v4_3)) v4_2 v4_3 := by kernel_rfl
theorem zq0.e4 (x0 : List TEntry) : ∀ (n : Nat) (v4_2 : Int) (v4_3 : Int), V.loopN (V.loopF zq0.E Tryz.f91.ntmps [1, 0, 1, 0] [] (V.codeOf Tryz.f91) (zq0.kt x0)) n (zq0.s4 x0 v4_2 v4_3) = zq0.l4 x0 n v4_2 v4_3 := by
  intro n
  induction n with
  | zero => intros; rw [V.loopN_z]; rfl
  | succ n ih =>
    intro v4_2 v4_3
    rw [V.loopN_s, zq0.r4]
    simp only [ih]
    first | exact (zq0.u4 ..).symm | rfl
theorem zq0.v (x0 : List TEntry) : V.evBody zq0.E zq0.con Tryz.f91 ((x0) : List TEntry) = zq0.b x0 (fun v4_2 v4_3 => V.loopN (V.loopF zq0.E Tryz.f91.ntmps [1, 0, 1, 0] [] (V.codeOf Tryz.f91) (zq0.kt x0)) V.KK (zq0.s4 x0 v4_2 v4_3)) := by kernel_rfl
theorem zq0.eq (x0 : List TEntry) : V.evBody zq0.E zq0.con Tryz.f91 ((x0) : List TEntry) = zq0 x0 := by
  rw [zq0.v]
  simp only [zq0.e4]
  rfl
theorem zq0.ok : V.Valid Tryz.prog 91 zq0.con :=
  V.fo (V.tab_cons zq15.ok (V.tab_cons zq3.ok V.tab_nil)) Tryz.func91 (by kernel_rfl) (fun x y h => (show V.evBody zq0.E zq0.con Tryz.f91 x = _ from zq0.eq x).trans (V.cfl (by kernel_rfl) h))
noncomputable abbrev zq1.con : V.Con := ⟨(.cons (.sl (.cons (.int .u8) .nil)) .nil), (.cons (.sl (.cons (.int .i64) .nil)) .nil), fun (x : List Int) => zq1 x, [], [(false, 1)], [(false, 1)], [true], []⟩
noncomputable abbrev zq1.E : V.Env := V.mkE V.tys [] [(6, [3, 9, 10, 11], [])] [] [] [] []
noncomputable abbrev zq1.kt (x0 : List Int) : V.Kt (List Int) := V.ktOf zq1.E zq1.con Tryz.f318 ((x0) : List Int)
noncomputable abbrev zq1.s6 (x0 : List Int) (v6_1 : Int) (v6_2 : Int) (v6_3 : List Int) : V.St := ⟨[(3, .v false [.ref 64000038400192]), (9, .v false [.val (.sl (.cons (.int .u8) .nil) x0)]), (10, .v false [.val (.int .i64 v6_1)]), (11, .v false [.val (.int .i64 v6_2)])], [(64000038400192, .row (.cons (.int .i64) .nil) true v6_3)]⟩
theorem zq1.r6 (x0 : List Int) (R : V.St → Option (List Int)) (v6_1 : Int) (v6_2 : Int) (v6_3 : List Int) : V.loopF zq1.E Tryz.f318.ntmps [1, 1, 0, 1, 0] [] (V.codeOf Tryz.f318) (zq1.kt x0) R (zq1.s6 x0 v6_1 v6_2 v6_3) = zq1.g6 x0 (fun v6_1 v6_2 v6_3 => R (zq1.s6 x0 v6_1 v6_2 v6_3)) v6_1 v6_2 v6_3 := by kernel_rfl
theorem zq1.e6 (x0 : List Int) : ∀ (n : Nat) (v6_1 : Int) (v6_2 : Int) (v6_3 : List Int), V.loopN (V.loopF zq1.E Tryz.f318.ntmps [1, 1, 0, 1, 0] [] (V.codeOf Tryz.f318) (zq1.kt x0)) n (zq1.s6 x0 v6_1 v6_2 v6_3) = zq1.l6 x0 n v6_1 v6_2 v6_3 := by
  intro n
  induction n with
  | zero => intros; rw [V.loopN_z]; rfl
  | succ n ih =>
    intro v6_1 v6_2 v6_3
    rw [V.loopN_s, zq1.r6]
    simp only [ih]
    first | exact (zq1.u6 ..).symm | rfl
theorem zq1.v (x0 : List Int) : V.evBody zq1.E zq1.con Tryz.f318 ((x0) : List Int) = zq1.b x0 (fun v6_1 v6_2 v6_3 => V.loopN (V.loopF zq1.E Tryz.f318.ntmps [1, 1, 0, 1, 0] [] (V.codeOf Tryz.f318) (zq1.kt x0)) V.KK (zq1.s6 x0 v6_1 v6_2 v6_3)) := by kernel_rfl
theorem zq1.eq (x0 : List Int) : V.evBody zq1.E zq1.con Tryz.f318 ((x0) : List Int) = zq1 x0 := by
  rw [zq1.v]
  simp only [zq1.e6]
  rfl
theorem zq1.ok : V.Valid Tryz.prog 318 zq1.con :=
  V.fo V.tab_nil Tryz.func318 (by kernel_rfl) (fun x y h => (show V.evBody zq1.E zq1.con Tryz.f318 x = _ from zq1.eq x).trans (V.cfl (by kernel_rfl) h))
noncomputable abbrev zq27.con : V.Con := ⟨(.cons .str .nil), (.cons (.sl (.cons (.int .i64) .nil)) .nil), fun (x : ByteArray) => zq27 x, [], [(false, 1)], [(false, 1)], [true], []⟩
noncomputable abbrev zq27.E : V.Env := V.mkE V.tys [(318, zq1.con)] [] [] [] [] []
theorem zq27.eq (x0 : ByteArray) : V.evBody zq27.E zq27.con Tryz.f314 ((x0) : ByteArray) = zq27 x0 := by kernel_rfl
theorem zq27.ok : V.Valid Tryz.prog 314 zq27.con :=
  V.fo (V.tab_cons zq1.ok V.tab_nil) Tryz.func314 (by kernel_rfl) (fun x y h => (show V.evBody zq27.E zq27.con Tryz.f314 x = _ from zq27.eq x).trans (V.cfl (by kernel_rfl) h))
noncomputable abbrev zq6.con : V.Con := ⟨V.eEntry, (.cons (.sl (.cons (.int .i64) .nil)) .nil), fun (x : ByteArray × Int × Int × List ByteArray) => zq6 x, [], [(true, 4)], [(false, 1)], [true], []⟩
noncomputable abbrev zq6.E : V.Env := V.mkE V.tys [(314, zq27.con)] [(6, [3, 19, 20, 21], [])] [(1, 11)] [] [] []
noncomputable abbrev zq6.kt (x0 : TEntry) : V.Kt (List Int) := V.ktOf zq6.E zq6.con Tryz.f301 ((x0.1, x0.2.1, x0.2.2.1, x0.2.2.2) : ByteArray × Int × Int × List ByteArray)
noncomputable abbrev zq6.s6 (x0 : TEntry) (v6_1 : Int) (v6_2 : Int) (v6_3 : List Int) : V.St := ⟨[(3, .v false [.ref 64000038400192]), (19, .v false [.val (.sl (.cons .str .nil) x0.2.2.2)]), (20, .v false [.val (.int .i64 v6_1)]), (21, .v false [.val (.int .i64 v6_2)])], [(64000038400192, .row (.cons (.int .i64) .nil) true v6_3)]⟩
theorem zq6.r6 (x0 : TEntry) (R : V.St → Option (List Int)) (v6_1 : Int) (v6_2 : Int) (v6_3 : List Int) : V.loopF zq6.E Tryz.f301.ntmps [1, 1, 0, 1, 0] [] (V.codeOf Tryz.f301) (zq6.kt x0) R (zq6.s6 x0 v6_1 v6_2 v6_3) = zq6.g6 x0 (fun v6_1 v6_2 v6_3 => R (zq6.s6 x0 v6_1 v6_2 v6_3)) v6_1 v6_2 v6_3 := by kernel_rfl
theorem zq6.e6 (x0 : TEntry) : ∀ (n : Nat) (v6_1 : Int) (v6_2 : Int) (v6_3 : List Int), V.loopN (V.loopF zq6.E Tryz.f301.ntmps [1, 1, 0, 1, 0] [] (V.codeOf Tryz.f301) (zq6.kt x0)) n (zq6.s6 x0 v6_1 v6_2 v6_3) = zq6.l6 x0 n v6_1 v6_2 v6_3 := by
  intro n
  induction n with
  | zero => intros; rw [V.loopN_z]; rfl
  | succ n ih =>
    intro v6_1 v6_2 v6_3
    rw [V.loopN_s, zq6.r6]
    simp only [ih]
    first | exact (zq6.u6 ..).symm | rfl
theorem zq6.v (x0 : TEntry) : V.evBody zq6.E zq6.con Tryz.f301 ((x0.1, x0.2.1, x0.2.2.1, x0.2.2.2) : ByteArray × Int × Int × List ByteArray) = zq6.b x0 (fun v6_1 v6_2 v6_3 => V.loopN (V.loopF zq6.E Tryz.f301.ntmps [1, 1, 0, 1, 0] [] (V.codeOf Tryz.f301) (zq6.kt x0)) V.KK (zq6.s6 x0 v6_1 v6_2 v6_3)) := by kernel_rfl
theorem zq6.eq (x0 : TEntry) : V.evBody zq6.E zq6.con Tryz.f301 ((x0.1, x0.2.1, x0.2.2.1, x0.2.2.2) : ByteArray × Int × Int × List ByteArray) = zq6 x0 := by
  rw [zq6.v]
  simp only [zq6.e6]
  rfl
theorem zq6.ok : V.Valid Tryz.prog 301 zq6.con :=
  V.fo (V.tab_cons zq27.ok V.tab_nil) Tryz.func301 (by kernel_rfl) (fun x y h => (show V.evBody zq6.E zq6.con Tryz.f301 x = _ from zq6.eq x).trans (V.cfl (by kernel_rfl) h))
noncomputable abbrev zq28.con : V.Con := ⟨V.eEntry, (.cons (.int .i64) .nil), fun (x : ByteArray × Int × Int × List ByteArray) => zq28 x, [], [(true, 4)], [(false, 1)], [false], []⟩
noncomputable abbrev zq28.E : V.Env := V.mkE V.tys [(260, zq10.con), (301, zq6.con)] [] [] [] [] []
theorem zq28.eq (x0 : TEntry) : V.evBody zq28.E zq28.con Tryz.f263 ((x0.1, x0.2.1, x0.2.2.1, x0.2.2.2) : ByteArray × Int × Int × List ByteArray) = zq28 x0 := by kernel_rfl
theorem zq28.ok : V.Valid Tryz.prog 263 zq28.con :=
  V.fo (V.tab_cons zq10.ok (V.tab_cons zq6.ok V.tab_nil)) Tryz.func263 (by kernel_rfl) (fun x y h => (show V.evBody zq28.E zq28.con Tryz.f263 x = _ from zq28.eq x).trans (V.cfl (by kernel_rfl) h))
noncomputable abbrev zq29.con : V.Con := ⟨(.cons (.sl V.eEntry) .nil), (.cons (.sl (.cons (.int .i64) .nil)) .nil), fun (x : List TEntry) => zq29 x, [], [(false, 1)], [(false, 1)], [true], []⟩
noncomputable abbrev zq29.E : V.Env := V.mkE V.tys [(263, zq28.con)] [(6, [3, 7, 8, 9], [(64000038400192, (.cons (.int .i64) .nil), true)])] [] [] [] []
noncomputable abbrev zq29.kt (x0 : List TEntry) : V.Kt (List Int) := V.ktOf zq29.E zq29.con Tryz.f200 ((x0) : List TEntry)
noncomputable abbrev zq29.s6 (x0 : List TEntry) (v6_1 : Int) (v6_2 : Int) (v6_3 : List Int) : V.St := ⟨[(3, .v false [.ref 64000038400192]), (7, .v false [.val (.sl V.eEntry x0)]), (8, .v false [.val (.int .i64 v6_1)]), (9, .v false [.val (.int .i64 v6_2)])], [(64000038400192, .row (.cons (.int .i64) .nil) true v6_3)]⟩
theorem zq29.r6 (x0 : List TEntry) (R : V.St → Option (List Int)) (v6_1 : Int) (v6_2 : Int) (v6_3 : List Int) : V.loopF zq29.E Tryz.f200.ntmps [1, 1, 0, 1, 0] [] (V.codeOf Tryz.f200) (zq29.kt x0) R (zq29.s6 x0 v6_1 v6_2 v6_3) = zq29.g6 x0 (fun v6_1 v6_2 v6_3 => R (zq29.s6 x0 v6_1 v6_2 v6_3)) v6_1 v6_2 v6_3 := by kernel_rfl
theorem zq29.e6 (x0 : List TEntry) : ∀ (n : Nat) (v6_1 : Int) (v6_2 : Int) (v6_3 : List Int), V.loopN (V.loopF zq29.E Tryz.f200.ntmps [1, 1, 0, 1, 0] [] (V.codeOf Tryz.f200) (zq29.kt x0)) n (zq29.s6 x0 v6_1 v6_2 v6_3) = zq29.l6 x0 n v6_1 v6_2 v6_3 := by
  intro n
  induction n with
  | zero => intros; rw [V.loopN_z]; rfl
  | succ n ih =>
    intro v6_1 v6_2 v6_3
    rw [V.loopN_s, zq29.r6]
    simp only [ih]
    first | exact (zq29.u6 ..).symm | rfl
theorem zq29.v (x0 : List TEntry) : V.evBody zq29.E zq29.con Tryz.f200 ((x0) : List TEntry) = zq29.b x0 (fun v6_1 v6_2 v6_3 => V.loopN (V.loopF zq29.E Tryz.f200.ntmps [1, 1, 0, 1, 0] [] (V.codeOf Tryz.f200) (zq29.kt x0)) V.KK (zq29.s6 x0 v6_1 v6_2 v6_3)) := by kernel_rfl
theorem zq29.eq (x0 : List TEntry) : V.evBody zq29.E zq29.con Tryz.f200 ((x0) : List TEntry) = zq29 x0 := by
  rw [zq29.v]
  simp only [zq29.e6]
  rfl
theorem zq29.ok : V.Valid Tryz.prog 200 zq29.con :=
  V.fo (V.tab_cons zq28.ok V.tab_nil) Tryz.func200 (by kernel_rfl) (fun x y h => (show V.evBody zq29.E zq29.con Tryz.f200 x = _ from zq29.eq x).trans (V.cfl (by kernel_rfl) h))
noncomputable abbrev zq55.con : V.Con := ⟨(.cons (.sl (.cons (.int .i64) .nil)) .nil), (.cons (.int .i64) .nil), fun (x : List Int) => zq55 x, [], [(false, 1)], [(false, 1)], [false], []⟩
noncomputable abbrev zq55.E : V.Env := V.mkE V.tys [(260, zq10.con)] [] [] [] [] []
theorem zq55.eq (x0 : List Int) : V.evBody zq55.E zq55.con Tryz.f261 ((x0) : List Int) = zq55 x0 := by kernel_rfl
theorem zq55.ok : V.Valid Tryz.prog 261 zq55.con :=
  V.fo (V.tab_cons zq10.ok V.tab_nil) Tryz.func261 (by kernel_rfl) (fun x y h => (show V.evBody zq55.E zq55.con Tryz.f261 x = _ from zq55.eq x).trans (V.cfl (by kernel_rfl) h))
noncomputable abbrev zq34.con : V.Con := ⟨(.cons (.int .i64) (.cons (.int .i64) .nil)), (.cons (.int .i64) .nil), fun (x : Int × Int) => zq34 x.1 x.2, [], [(false, 1), (false, 1)], [(false, 1)], [false], []⟩
noncomputable abbrev zq34.E : V.Env := V.mkE V.tys [(261, zq55.con)] [] [] [] [] []
theorem zq34.eq (x0 : Int) (x1 : Int) : V.evBody zq34.E zq34.con Tryz.f300 ((x0, x1) : Int × Int) = zq34 x0 x1 := by kernel_rfl
theorem zq34.ok : V.Valid Tryz.prog 300 zq34.con :=
  V.fo (V.tab_cons zq55.ok V.tab_nil) Tryz.func300 (by kernel_rfl) (fun x y h => (show V.evBody zq34.E zq34.con Tryz.f300 x = _ from zq34.eq x.1 x.2).trans (V.cfl (by kernel_rfl) h))
noncomputable abbrev zq45.con : V.Con := ⟨(.cons (.sl (.cons (.int .i64) .nil)) .nil), (.cons (.sl (.cons (.int .i64) .nil)) .nil), fun (x : List Int) => zq45 x, [], [(false, 1)], [(false, 1)], [true], []⟩
noncomputable abbrev zq45.E : V.Env := V.mkE V.tys [(300, zq34.con)] [(6, [0, 3, 4], [(64000038400192, (.cons (.int .i64) .nil), true)])] [(6, 12)] [] [] []
noncomputable abbrev zq45.kt (x0 : List Int) : V.Kt (List Int) := V.ktOf zq45.E zq45.con Tryz.f262 ((x0) : List Int)
noncomputable abbrev zq45.s6 (x0 : List Int) (v6_1 : Int) (v6_2 : List Int) : V.St := ⟨[(0, .v false [.val (.sl (.cons (.int .i64) .nil) x0)]), (3, .v false [.ref 64000038400192]), (4, .v false [.val (.int .i64 v6_1)])], [(64000038400192, .row (.cons (.int .i64) .nil) true v6_2)]⟩
theorem zq45.r6 (x0 : List Int) (R : V.St → Option (List Int)) (v6_1 : Int) (v6_2 : List Int) : V.loopF zq45.E Tryz.f262.ntmps [1, 1, 0, 1, 0] [] (V.codeOf Tryz.f262) (zq45.kt x0) R (zq45.s6 x0 v6_1 v6_2) = zq45.g6 x0 (fun v6_1 v6_2 => R (zq45.s6 x0 v6_1 v6_2)) v6_1 v6_2 := by kernel_rfl
theorem zq45.e6 (x0 : List Int) : ∀ (n : Nat) (v6_1 : Int) (v6_2 : List Int), V.loopN (V.loopF zq45.E Tryz.f262.ntmps [1, 1, 0, 1, 0] [] (V.codeOf Tryz.f262) (zq45.kt x0)) n (zq45.s6 x0 v6_1 v6_2) = zq45.l6 x0 n v6_1 v6_2 := by
  intro n
  induction n with
  | zero => intros; rw [V.loopN_z]; rfl
  | succ n ih =>
    intro v6_1 v6_2
    rw [V.loopN_s, zq45.r6]
    simp only [ih]
    first | exact (zq45.u6 ..).symm | rfl
theorem zq45.v (x0 : List Int) : V.evBody zq45.E zq45.con Tryz.f262 ((x0) : List Int) = zq45.b x0 (fun v6_1 v6_2 => V.loopN (V.loopF zq45.E Tryz.f262.ntmps [1, 1, 0, 1, 0] [] (V.codeOf Tryz.f262) (zq45.kt x0)) V.KK (zq45.s6 x0 v6_1 v6_2)) := by kernel_rfl
theorem zq45.eq (x0 : List Int) : V.evBody zq45.E zq45.con Tryz.f262 ((x0) : List Int) = zq45 x0 := by
  rw [zq45.v]
  simp only [zq45.e6]
  rfl
theorem zq45.ok : V.Valid Tryz.prog 262 zq45.con :=
  V.fo (V.tab_cons zq34.ok V.tab_nil) Tryz.func262 (by kernel_rfl) (fun x y h => (show V.evBody zq45.E zq45.con Tryz.f262 x = _ from zq45.eq x).trans (V.cfl (by kernel_rfl) h))
noncomputable abbrev zq43.con : V.Con := ⟨(.cons (.sl (.cons (.int .i64) .nil)) .nil), (.cons (.int .i64) .nil), fun (x : List Int) => zq43 x, [], [(false, 1)], [(false, 1)], [false], []⟩
noncomputable abbrev zq43.E : V.Env := V.mkE V.tys [(261, zq55.con), (262, zq45.con)] [(6, [0], [(0, (.cons (.int .i64) .nil), false)])] [] [] [] []
noncomputable abbrev zq43.kt (x0 : List Int) : V.Kt Int := V.ktOf zq43.E zq43.con Tryz.f199 ((x0) : List Int)
noncomputable abbrev zq43.s6 (v6_0 : List Int) : V.St := ⟨[(0, .v false [.val (.sl (.cons (.int .i64) .nil) v6_0)])], []⟩
theorem zq43.r6 (x0 : List Int) (R : V.St → Option Int) (v6_0 : List Int) : V.loopF zq43.E Tryz.f199.ntmps [1, 1, 0, 0] [] (V.codeOf Tryz.f199) (zq43.kt x0) R (zq43.s6 v6_0) = zq43.g6 (fun v6_0 => R (zq43.s6 v6_0)) v6_0 := by kernel_rfl
theorem zq43.e6 (x0 : List Int) : ∀ (n : Nat) (v6_0 : List Int), V.loopN (V.loopF zq43.E Tryz.f199.ntmps [1, 1, 0, 0] [] (V.codeOf Tryz.f199) (zq43.kt x0)) n (zq43.s6 v6_0) = zq43.l6 n v6_0 := by
  intro n
  induction n with
  | zero => intros; rw [V.loopN_z]; rfl
  | succ n ih =>
    intro v6_0
    rw [V.loopN_s, zq43.r6]
    simp only [ih]
    first | exact (zq43.u6 ..).symm | rfl
theorem zq43.v (x0 : List Int) : V.evBody zq43.E zq43.con Tryz.f199 ((x0) : List Int) = zq43.b x0 (fun v6_0 => V.loopN (V.loopF zq43.E Tryz.f199.ntmps [1, 1, 0, 0] [] (V.codeOf Tryz.f199) (zq43.kt x0)) V.KK (zq43.s6 v6_0)) := by kernel_rfl
theorem zq43.eq (x0 : List Int) : V.evBody zq43.E zq43.con Tryz.f199 ((x0) : List Int) = zq43 x0 := by
  rw [zq43.v]
  simp only [zq43.e6]
  rfl
theorem zq43.ok : V.Valid Tryz.prog 199 zq43.con :=
  V.fo (V.tab_cons zq55.ok (V.tab_cons zq45.ok V.tab_nil)) Tryz.func199 (by kernel_rfl) (fun x y h => (show V.evBody zq43.E zq43.con Tryz.f199 x = _ from zq43.eq x).trans (V.cfl (by kernel_rfl) h))
noncomputable abbrev zq66.con : V.Con := ⟨(.cons (.int .i64) (.cons (.int .i64) .nil)), (.cons (.int .i64) .nil), fun (x : Int × Int) => zq66 x.1 x.2, [], [(false, 1), (false, 1)], [(false, 1)], [false], []⟩
noncomputable abbrev zq66.E : V.Env := V.mkE V.tys [(261, zq55.con)] [] [] [] [] []
theorem zq66.eq (x0 : Int) (x1 : Int) : V.evBody zq66.E zq66.con Tryz.f198 ((x0, x1) : Int × Int) = zq66 x0 x1 := by kernel_rfl
theorem zq66.ok : V.Valid Tryz.prog 198 zq66.con :=
  V.fo (V.tab_cons zq55.ok V.tab_nil) Tryz.func198 (by kernel_rfl) (fun x y h => (show V.evBody zq66.E zq66.con Tryz.f198 x = _ from zq66.eq x.1 x.2).trans (V.cfl (by kernel_rfl) h))
noncomputable abbrev zq36.con : V.Con := ⟨(.cons (.sl V.eEntry) .nil), (.cons (.int .i64) .nil), fun (x : List TEntry) => zq36 x, [], [(false, 1)], [(false, 1)], [false], []⟩
noncomputable abbrev zq36.E : V.Env := V.mkE V.tys [(198, zq66.con), (199, zq43.con), (200, zq29.con)] [] [] [] [] []
theorem zq36.eq (x0 : List TEntry) : V.evBody zq36.E zq36.con Tryz.f94 ((x0) : List TEntry) = zq36 x0 := by kernel_rfl
theorem zq36.ok : V.Valid Tryz.prog 94 zq36.con :=
  V.fo (V.tab_cons zq66.ok (V.tab_cons zq43.ok (V.tab_cons zq29.ok V.tab_nil))) Tryz.func94 (by kernel_rfl) (fun x y h => (show V.evBody zq36.E zq36.con Tryz.f94 x = _ from zq36.eq x).trans (V.cfl (by kernel_rfl) h))
noncomputable abbrev zq2.con : V.Con := ⟨(.cons (.int .i64) (.cons (.sl V.eEntry) .nil)), (.cons .bool .nil), fun (x : Int × List TEntry) => zq2 x.1 x.2, [], [(false, 1), (false, 1)], [(false, 1)], [false], []⟩
noncomputable abbrev zq2.E : V.Env := V.mkE V.tys [(91, zq0.con), (94, zq36.con)] [] [] [] [] []
theorem zq2.eq (x0 : Int) (x1 : List TEntry) : V.evBody zq2.E zq2.con Tryz.f136 ((x0, x1) : Int × List TEntry) = zq2 x0 x1 := by kernel_rfl
theorem zq2.ok : V.Valid Tryz.prog 136 zq2.con :=
  V.fo (V.tab_cons zq0.ok (V.tab_cons zq36.ok V.tab_nil)) Tryz.func136 (by kernel_rfl) (fun x y h => (show V.evBody zq2.E zq2.con Tryz.f136 x = _ from zq2.eq x.1 x.2).trans (V.cfl (by kernel_rfl) h))
noncomputable abbrev zq24.con : V.Con := ⟨(.cons (.sl V.eSigned) (.cons (.sl V.eEntry) .nil)), (.cons .bool .nil), fun (x : List TSigned × List TEntry) => zq24 x, [], [(true, 2)], [(false, 1)], [false], []⟩
noncomputable abbrev zq24.E : V.Env := V.mkE V.tys [(104, zq14.con), (130, zq64.con), (136, zq2.con)] [] [] [] [] []
theorem zq24.eq (x0 : TZone) : V.evBody zq24.E zq24.con Tryz.f46 ((x0.1, x0.2) : List TSigned × List TEntry) = zq24 x0 := by kernel_rfl
theorem zq24.ok : V.Valid Tryz.prog 46 zq24.con :=
  V.fo (V.tab_cons zq14.ok (V.tab_cons zq64.ok (V.tab_cons zq2.ok V.tab_nil))) Tryz.func46 (by kernel_rfl) (fun x y h => (show V.evBody zq24.E zq24.con Tryz.f46 x = _ from zq24.eq x).trans (V.cfl (by kernel_rfl) h))
noncomputable abbrev zq117.con : V.Con := ⟨(.cons (.sl (.cons (.int .i64) .nil)) .nil), (.cons (.sl (.cons (.int .i64) .nil)) .nil), fun (x : List Int) => zq117 x, [], [(false, 1)], [(false, 1)], [true], []⟩
noncomputable abbrev zq117.E : V.Env := V.mkE V.tys [] [] [] [] [] []
theorem zq117.eq (x0 : List Int) : V.evBody zq117.E zq117.con Tryz.f275 ((x0) : List Int) = zq117 x0 := by kernel_rfl
theorem zq117.ok : V.Valid Tryz.prog 275 zq117.con :=
  V.fo V.tab_nil Tryz.func275 (by kernel_rfl) (fun x y h => (show V.evBody zq117.E zq117.con Tryz.f275 x = _ from zq117.eq x).trans (V.cfl (by kernel_rfl) h))
noncomputable abbrev zq52.con : V.Con := ⟨(.cons (.sl (.cons (.int .i64) .nil)) (.cons (.int .i64) .nil)), (.cons (.sl (.cons (.int .i64) .nil)) (.cons (.int .i64) .nil)), fun (x : List Int × Int) => zq52 x, [], [(true, 2)], [(true, 2)], [true, false], []⟩
noncomputable abbrev zq52.E : V.Env := V.mkE V.tys [(275, zq117.con)] [] [(1, 5)] [] [] []
theorem zq52.eq (x0 : TKeys) : V.evBody zq52.E zq52.con Tryz.f228 ((x0.1, x0.2) : List Int × Int) = zq52 x0 := by kernel_rfl
theorem zq52.ok : V.Valid Tryz.prog 228 zq52.con :=
  V.fo (V.tab_cons zq117.ok V.tab_nil) Tryz.func228 (by kernel_rfl) (fun x y h => (show V.evBody zq52.E zq52.con Tryz.f228 x = _ from zq52.eq x).trans (V.cfl (by kernel_rfl) h))
noncomputable abbrev zq51.con : V.Con := ⟨V.A2, V.eHead, fun (x : V.D2) => zq51 (V.p2_0 x), [], [(true, 16)], [(true, 16)], [false, false, false, false, false, false, false, false, true, false, true, false, false, true, false, false], []⟩
noncomputable abbrev zq51.E : V.Env := V.mkE V.tys [(228, zq52.con)] [] [(1, 10)] [] [] []
noncomputable abbrev zq51.kt (x0 : THead) : V.Kt THead := V.ktOf zq51.E zq51.con Tryz.f195 (V.fl2 x0)
noncomputable abbrev zq51.s (x0 : THead) : V.St := ⟨[(0, .v true [.val (.int .i64 x0.1), .val (.int .i64 x0.2.1), .val (.int .i64 x0.2.2.1), .val (.int .i64 x0.2.2.2.1), .val (.int .i64 x0.2.2.2.2.1), .val (.int .i64 x0.2.2.2.2.2.1), .val (.int .i64 x0.2.2.2.2.2.2.1), .val (.int .i64 x0.2.2.2.2.2.2.2.1), .val (.sl (.cons (.int .i64) .nil) x0.2.2.2.2.2.2.2.2.1), .val (.int .i64 x0.2.2.2.2.2.2.2.2.2.1), .val (.sl (.cons (.int .i64) .nil) x0.2.2.2.2.2.2.2.2.2.2.1), .val (.int .i64 x0.2.2.2.2.2.2.2.2.2.2.2.1), .val (.int .i64 x0.2.2.2.2.2.2.2.2.2.2.2.2.1), .val (.sl (.cons (.int .i64) .nil) x0.2.2.2.2.2.2.2.2.2.2.2.2.2.1), .val (.int .i64 x0.2.2.2.2.2.2.2.2.2.2.2.2.2.2.1), .val (.bool x0.2.2.2.2.2.2.2.2.2.2.2.2.2.2.2)])], []⟩
theorem zq51.v0 (x0 : THead) : V.evBody zq51.E zq51.con Tryz.f195 (V.fl2 x0) = V.evC zq51.E Tryz.f195.ntmps (V.codeOf Tryz.f195) (zq51.kt x0) (zq51.s x0) := by kernel_rfl
theorem zq51.v (x0 : THead) : V.evC zq51.E Tryz.f195.ntmps (V.codeOf Tryz.f195) (zq51.kt x0) (zq51.s x0) = zq51 x0 := by kernel_rfl
theorem zq51.eq (x0 : THead) : V.evBody zq51.E zq51.con Tryz.f195 (V.fl2 x0) = zq51 x0 := (zq51.v0 x0).trans (zq51.v x0)
theorem zq51.ok : V.Valid Tryz.prog 195 zq51.con :=
  V.fo (V.tab_cons zq52.ok V.tab_nil) Tryz.func195 (by kernel_rfl) (fun x y h => (show V.evBody zq51.E zq51.con Tryz.f195 x = _ from zq51.eq (V.p2_0 x)).trans (V.cfl (by kernel_rfl) h))
noncomputable abbrev zq116.con : V.Con := ⟨(.cons (.sl (.cons (.int .i64) (.cons (.int .i64) .nil))) .nil), (.cons (.sl (.cons (.int .i64) (.cons (.int .i64) .nil))) .nil), fun (x : List TSig) => zq116 x, [], [(false, 1)], [(false, 1)], [true], []⟩
noncomputable abbrev zq116.E : V.Env := V.mkE V.tys [] [] [] [] [] []
theorem zq116.eq (x0 : List TSig) : V.evBody zq116.E zq116.con Tryz.f211 ((x0) : List TSig) = zq116 x0 := by kernel_rfl
theorem zq116.ok : V.Valid Tryz.prog 211 zq116.con :=
  V.fo V.tab_nil Tryz.func211 (by kernel_rfl) (fun x y h => (show V.evBody zq116.E zq116.con Tryz.f211 x = _ from zq116.eq x).trans (V.cfl (by kernel_rfl) h))
noncomputable abbrev zq53.con : V.Con := ⟨V.A3, V.eSigned, fun (x : V.D3) => zq53 (V.p3_0 x), [], [(true, 17)], [(true, 17)], [false, false, false, false, false, false, false, false, true, false, true, false, false, true, false, false, true], []⟩
noncomputable abbrev zq53.E : V.Env := V.mkE V.tys [(195, zq51.con), (211, zq116.con)] [] [(1, 5)] [] [] []
noncomputable abbrev zq53.kt (x0 : TSigned) : V.Kt TSigned := V.ktOf zq53.E zq53.con Tryz.f107 (V.fl3 x0)
noncomputable abbrev zq53.s (x0 : TSigned) : V.St := ⟨[(0, .v true [.val (.int .i64 x0.1), .val (.int .i64 x0.2.1), .val (.int .i64 x0.2.2.1), .val (.int .i64 x0.2.2.2.1), .val (.int .i64 x0.2.2.2.2.1), .val (.int .i64 x0.2.2.2.2.2.1), .val (.int .i64 x0.2.2.2.2.2.2.1), .val (.int .i64 x0.2.2.2.2.2.2.2.1), .val (.sl (.cons (.int .i64) .nil) x0.2.2.2.2.2.2.2.2.1), .val (.int .i64 x0.2.2.2.2.2.2.2.2.2.1), .val (.sl (.cons (.int .i64) .nil) x0.2.2.2.2.2.2.2.2.2.2.1), .val (.int .i64 x0.2.2.2.2.2.2.2.2.2.2.2.1), .val (.int .i64 x0.2.2.2.2.2.2.2.2.2.2.2.2.1), .val (.sl (.cons (.int .i64) .nil) x0.2.2.2.2.2.2.2.2.2.2.2.2.2.1), .val (.int .i64 x0.2.2.2.2.2.2.2.2.2.2.2.2.2.2.1), .val (.bool x0.2.2.2.2.2.2.2.2.2.2.2.2.2.2.2.1), .val (.sl (.cons (.int .i64) (.cons (.int .i64) .nil)) x0.2.2.2.2.2.2.2.2.2.2.2.2.2.2.2.2)])], []⟩
theorem zq53.v0 (x0 : TSigned) : V.evBody zq53.E zq53.con Tryz.f107 (V.fl3 x0) = V.evC zq53.E Tryz.f107.ntmps (V.codeOf Tryz.f107) (zq53.kt x0) (zq53.s x0) := by kernel_rfl
theorem zq53.v (x0 : TSigned) : V.evC zq53.E Tryz.f107.ntmps (V.codeOf Tryz.f107) (zq53.kt x0) (zq53.s x0) = zq53 x0 := by kernel_rfl
theorem zq53.eq (x0 : TSigned) : V.evBody zq53.E zq53.con Tryz.f107 (V.fl3 x0) = zq53 x0 := (zq53.v0 x0).trans (zq53.v x0)
theorem zq53.ok : V.Valid Tryz.prog 107 zq53.con :=
  V.fo (V.tab_cons zq51.ok (V.tab_cons zq116.ok V.tab_nil)) Tryz.func107 (by kernel_rfl) (fun x y h => (show V.evBody zq53.E zq53.con Tryz.f107 x = _ from zq53.eq (V.p3_0 x)).trans (V.cfl (by kernel_rfl) h))
noncomputable abbrev zq48.con : V.Con := ⟨(.cons (.sl V.eSigned) .nil), (.cons (.sl V.eSigned) .nil), fun (x : List TSigned) => zq48 x, [], [(false, 1)], [(false, 1)], [true], []⟩
noncomputable abbrev zq48.E : V.Env := V.mkE V.tys [(107, zq53.con)] [(6, [3, 7, 8, 9], [(64000038400192, V.eSigned, true)])] [] [] [] []
noncomputable abbrev zq48.kt (x0 : List TSigned) : V.Kt (List TSigned) := V.ktOf zq48.E zq48.con Tryz.f243 ((x0) : List TSigned)
noncomputable abbrev zq48.s6 (x0 : List TSigned) (v6_1 : Int) (v6_2 : Int) (v6_3 : List TSigned) : V.St := ⟨[(3, .v false [.ref 64000038400192]), (7, .v false [.val (.sl V.eSigned x0)]), (8, .v false [.val (.int .i64 v6_1)]), (9, .v false [.val (.int .i64 v6_2)])], [(64000038400192, .row V.eSigned true v6_3)]⟩
theorem zq48.r6 (x0 : List TSigned) (R : V.St → Option (List TSigned)) (v6_1 : Int) (v6_2 : Int) (v6_3 : List TSigned) : V.loopF zq48.E Tryz.f243.ntmps [1, 1, 0, 1, 0] [] (V.codeOf Tryz.f243) (zq48.kt x0) R (zq48.s6 x0 v6_1 v6_2 v6_3) = zq48.g6 x0 (fun v6_1 v6_2 v6_3 => R (zq48.s6 x0 v6_1 v6_2 v6_3)) v6_1 v6_2 v6_3 := by kernel_rfl
theorem zq48.e6 (x0 : List TSigned) : ∀ (n : Nat) (v6_1 : Int) (v6_2 : Int) (v6_3 : List TSigned), V.loopN (V.loopF zq48.E Tryz.f243.ntmps [1, 1, 0, 1, 0] [] (V.codeOf Tryz.f243) (zq48.kt x0)) n (zq48.s6 x0 v6_1 v6_2 v6_3) = zq48.l6 x0 n v6_1 v6_2 v6_3 := by
  intro n
  induction n with
  | zero => intros; rw [V.loopN_z]; rfl
  | succ n ih =>
    intro v6_1 v6_2 v6_3
    rw [V.loopN_s, zq48.r6]
    simp only [ih]
    first | exact (zq48.u6 ..).symm | rfl
theorem zq48.v (x0 : List TSigned) : V.evBody zq48.E zq48.con Tryz.f243 ((x0) : List TSigned) = zq48.b x0 (fun v6_1 v6_2 v6_3 => V.loopN (V.loopF zq48.E Tryz.f243.ntmps [1, 1, 0, 1, 0] [] (V.codeOf Tryz.f243) (zq48.kt x0)) V.KK (zq48.s6 x0 v6_1 v6_2 v6_3)) := by kernel_rfl
theorem zq48.eq (x0 : List TSigned) : V.evBody zq48.E zq48.con Tryz.f243 ((x0) : List TSigned) = zq48 x0 := by
  rw [zq48.v]
  simp only [zq48.e6]
  rfl
theorem zq48.ok : V.Valid Tryz.prog 243 zq48.con :=
  V.fo (V.tab_cons zq53.ok V.tab_nil) Tryz.func243 (by kernel_rfl) (fun x y h => (show V.evBody zq48.E zq48.con Tryz.f243 x = _ from zq48.eq x).trans (V.cfl (by kernel_rfl) h))
noncomputable abbrev zq118.con : V.Con := ⟨(.cons (.sl (.cons .str .nil)) .nil), (.cons (.sl (.cons .str .nil)) .nil), fun (x : List ByteArray) => zq118 x, [], [(false, 1)], [(false, 1)], [true], []⟩
noncomputable abbrev zq118.E : V.Env := V.mkE V.tys [] [] [] [] [] []
theorem zq118.eq (x0 : List ByteArray) : V.evBody zq118.E zq118.con Tryz.f240 ((x0) : List ByteArray) = zq118 x0 := by kernel_rfl
theorem zq118.ok : V.Valid Tryz.prog 240 zq118.con :=
  V.fo V.tab_nil Tryz.func240 (by kernel_rfl) (fun x y h => (show V.evBody zq118.E zq118.con Tryz.f240 x = _ from zq118.eq x).trans (V.cfl (by kernel_rfl) h))
noncomputable abbrev zq50.con : V.Con := ⟨V.eEntry, V.eEntry, fun (x : ByteArray × Int × Int × List ByteArray) => zq50 x, [], [(true, 4)], [(true, 4)], [false, false, false, true], []⟩
noncomputable abbrev zq50.E : V.Env := V.mkE V.tys [(240, zq118.con)] [] [] [] [] []
theorem zq50.eq (x0 : TEntry) : V.evBody zq50.E zq50.con Tryz.f167 ((x0.1, x0.2.1, x0.2.2.1, x0.2.2.2) : ByteArray × Int × Int × List ByteArray) = zq50 x0 := by kernel_rfl
theorem zq50.ok : V.Valid Tryz.prog 167 zq50.con :=
  V.fo (V.tab_cons zq118.ok V.tab_nil) Tryz.func167 (by kernel_rfl) (fun x y h => (show V.evBody zq50.E zq50.con Tryz.f167 x = _ from zq50.eq x).trans (V.cfl (by kernel_rfl) h))
noncomputable abbrev zq49.con : V.Con := ⟨(.cons (.sl V.eEntry) .nil), (.cons (.sl V.eEntry) .nil), fun (x : List TEntry) => zq49 x, [], [(false, 1)], [(false, 1)], [true], []⟩
noncomputable abbrev zq49.E : V.Env := V.mkE V.tys [(167, zq50.con)] [(6, [3, 7, 8, 9], [(64000038400192, V.eEntry, true)])] [] [] [] []
noncomputable abbrev zq49.kt (x0 : List TEntry) : V.Kt (List TEntry) := V.ktOf zq49.E zq49.con Tryz.f143 ((x0) : List TEntry)
noncomputable abbrev zq49.s6 (x0 : List TEntry) (v6_1 : Int) (v6_2 : Int) (v6_3 : List TEntry) : V.St := ⟨[(3, .v false [.ref 64000038400192]), (7, .v false [.val (.sl V.eEntry x0)]), (8, .v false [.val (.int .i64 v6_1)]), (9, .v false [.val (.int .i64 v6_2)])], [(64000038400192, .row V.eEntry true v6_3)]⟩
theorem zq49.r6 (x0 : List TEntry) (R : V.St → Option (List TEntry)) (v6_1 : Int) (v6_2 : Int) (v6_3 : List TEntry) : V.loopF zq49.E Tryz.f143.ntmps [1, 1, 0, 1, 0] [] (V.codeOf Tryz.f143) (zq49.kt x0) R (zq49.s6 x0 v6_1 v6_2 v6_3) = zq49.g6 x0 (fun v6_1 v6_2 v6_3 => R (zq49.s6 x0 v6_1 v6_2 v6_3)) v6_1 v6_2 v6_3 := by kernel_rfl
theorem zq49.e6 (x0 : List TEntry) : ∀ (n : Nat) (v6_1 : Int) (v6_2 : Int) (v6_3 : List TEntry), V.loopN (V.loopF zq49.E Tryz.f143.ntmps [1, 1, 0, 1, 0] [] (V.codeOf Tryz.f143) (zq49.kt x0)) n (zq49.s6 x0 v6_1 v6_2 v6_3) = zq49.l6 x0 n v6_1 v6_2 v6_3 := by
  intro n
  induction n with
  | zero => intros; rw [V.loopN_z]; rfl
  | succ n ih =>
    intro v6_1 v6_2 v6_3
    rw [V.loopN_s, zq49.r6]
    simp only [ih]
    first | exact (zq49.u6 ..).symm | rfl
theorem zq49.v (x0 : List TEntry) : V.evBody zq49.E zq49.con Tryz.f143 ((x0) : List TEntry) = zq49.b x0 (fun v6_1 v6_2 v6_3 => V.loopN (V.loopF zq49.E Tryz.f143.ntmps [1, 1, 0, 1, 0] [] (V.codeOf Tryz.f143) (zq49.kt x0)) V.KK (zq49.s6 x0 v6_1 v6_2 v6_3)) := by kernel_rfl
theorem zq49.eq (x0 : List TEntry) : V.evBody zq49.E zq49.con Tryz.f143 ((x0) : List TEntry) = zq49 x0 := by
  rw [zq49.v]
  simp only [zq49.e6]
  rfl
theorem zq49.ok : V.Valid Tryz.prog 143 zq49.con :=
  V.fo (V.tab_cons zq50.ok V.tab_nil) Tryz.func143 (by kernel_rfl) (fun x y h => (show V.evBody zq49.E zq49.con Tryz.f143 x = _ from zq49.eq x).trans (V.cfl (by kernel_rfl) h))
noncomputable abbrev zq54.con : V.Con := ⟨(.cons (.sl V.eSigned) (.cons (.sl V.eEntry) .nil)), (.cons (.sl V.eSigned) (.cons (.sl V.eEntry) .nil)), fun (x : List TSigned × List TEntry) => zq54 x, [], [(true, 2)], [(true, 2)], [true, true], []⟩
noncomputable abbrev zq54.E : V.Env := V.mkE V.tys [(143, zq49.con), (243, zq48.con)] [] [(1, 5)] [] [] []
theorem zq54.eq (x0 : TZone) : V.evBody zq54.E zq54.con Tryz.f175 ((x0.1, x0.2) : List TSigned × List TEntry) = zq54 x0 := by kernel_rfl
theorem zq54.ok : V.Valid Tryz.prog 175 zq54.con :=
  V.fo (V.tab_cons zq49.ok (V.tab_cons zq48.ok V.tab_nil)) Tryz.func175 (by kernel_rfl) (fun x y h => (show V.evBody zq54.E zq54.con Tryz.f175 x = _ from zq54.eq x).trans (V.cfl (by kernel_rfl) h))
noncomputable abbrev zq127.con : V.Con := ⟨(.cons (.sl (.cons (.int .i64) .nil)) (.cons (.int .i64) .nil)), (.cons (.int .i64) .nil), fun (x : List Int × Int) => zq127 x.1 x.2, [], [(false, 1), (false, 1)], [(false, 1)], [false], []⟩
noncomputable abbrev zq127.E : V.Env := V.mkE V.tys [] [(4, [0, 1, 7, 8], [])] [] [] [] []
noncomputable abbrev zq127.kt (x0 : List Int) (x1 : Int) : V.Kt Int := V.ktOf zq127.E zq127.con Tryz.f304 ((x0, x1) : List Int × Int)
noncomputable abbrev zq127.s4 (x0 : List Int) (x1 : Int) (v4_2 : Int) (v4_3 : Int) : V.St := ⟨[(0, .v false [.val (.sl (.cons (.int .i64) .nil) x0)]), (1, .v false [.val (.int .i64 x1)]), (7, .v false [.val (.int .i64 v4_2)]), (8, .v false [.val (.int .i64 v4_3)])], []⟩
theorem zq127.r4 (x0 : List Int) (x1 : Int) (R : V.St → Option Int) (v4_2 : Int) (v4_3 : Int) : V.loopF zq127.E Tryz.f304.ntmps [1, 0, 1, 0] [] (V.codeOf Tryz.f304) (zq127.kt x0 x1) R (zq127.s4 x0 x1 v4_2 v4_3) = zq127.g4 x0 x1 (fun v4_2 v4_3 => R (zq127.s4 x0 x1 v4_2 v4_3)) v4_2 v4_3 := by kernel_rfl
theorem zq127.e4 (x0 : List Int) (x1 : Int) : ∀ (n : Nat) (v4_2 : Int) (v4_3 : Int), V.loopN (V.loopF zq127.E Tryz.f304.ntmps [1, 0, 1, 0] [] (V.codeOf Tryz.f304) (zq127.kt x0 x1)) n (zq127.s4 x0 x1 v4_2 v4_3) = zq127.l4 x0 x1 n v4_2 v4_3 := by
  intro n
  induction n with
  | zero => intros; rw [V.loopN_z]; rfl
  | succ n ih =>
    intro v4_2 v4_3
    rw [V.loopN_s, zq127.r4]
    simp only [ih]
    first | exact (zq127.u4 ..).symm | rfl
theorem zq127.v (x0 : List Int) (x1 : Int) : V.evBody zq127.E zq127.con Tryz.f304 ((x0, x1) : List Int × Int) = zq127.b x0 x1 (fun v4_2 v4_3 => V.loopN (V.loopF zq127.E Tryz.f304.ntmps [1, 0, 1, 0] [] (V.codeOf Tryz.f304) (zq127.kt x0 x1)) V.KK (zq127.s4 x0 x1 v4_2 v4_3)) := by kernel_rfl
theorem zq127.eq (x0 : List Int) (x1 : Int) : V.evBody zq127.E zq127.con Tryz.f304 ((x0, x1) : List Int × Int) = zq127 x0 x1 := by
  rw [zq127.v]
  simp only [zq127.e4]
  rfl
theorem zq127.ok : V.Valid Tryz.prog 304 zq127.con :=
  V.fo V.tab_nil Tryz.func304 (by kernel_rfl) (fun x y h => (show V.evBody zq127.E zq127.con Tryz.f304 x = _ from zq127.eq x.1 x.2).trans (V.cfl (by kernel_rfl) h))
noncomputable abbrev zq122.con : V.Con := ⟨(.cons (.sl (.cons (.int .i64) .nil)) (.cons (.int .i64) .nil)), (.cons .bool .nil), fun (x : List Int × Int) => zq122 x.1 x.2, [], [(false, 1), (false, 1)], [(false, 1)], [false], []⟩
noncomputable abbrev zq122.E : V.Env := V.mkE V.tys [(304, zq127.con)] [] [] [] [] []
theorem zq122.eq (x0 : List Int) (x1 : Int) : V.evBody zq122.E zq122.con Tryz.f276 ((x0, x1) : List Int × Int) = zq122 x0 x1 := by kernel_rfl
theorem zq122.ok : V.Valid Tryz.prog 276 zq122.con :=
  V.fo (V.tab_cons zq127.ok V.tab_nil) Tryz.func276 (by kernel_rfl) (fun x y h => (show V.evBody zq122.E zq122.con Tryz.f276 x = _ from zq122.eq x.1 x.2).trans (V.cfl (by kernel_rfl) h))
noncomputable abbrev zq38.con : V.Con := ⟨(.cons (.sl (.cons (.int .i64) .nil)) (.cons (.sl (.cons (.int .i64) .nil)) (.cons (.int .i64) (.cons (.sl (.cons (.int .i64) .nil)) .nil)))), (.cons (.sl (.cons (.int .i64) (.cons (.int .i64) .nil))) .nil), fun (x : List Int × List Int × Int × List Int) => zq38 x.1 (x.2.1, x.2.2.1) x.2.2.2, [], [(false, 1), (true, 2), (false, 1)], [(false, 1)], [true], []⟩
noncomputable abbrev zq38.E : V.Env := V.mkE V.tys [(128, zq42.con), (276, zq122.con)] [(6, [0, 2, 7, 12, 13, 14], [(64000038400448, (.cons (.int .i64) (.cons (.int .i64) .nil)), true)])] [] [] [] []
noncomputable abbrev zq38.kt (x0 : List Int) (x1 : TKeys) (x2 : List Int) : V.Kt (List TSig) := V.ktOf zq38.E zq38.con Tryz.f229 ((x0, x1.1, x1.2, x2) : List Int × List Int × Int × List Int)
noncomputable abbrev zq38.s6 (x0 : List Int) (x1 : TKeys) (x2 : List Int) (v6_3 : Int) (v6_4 : Int) (v6_5 : List TSig) : V.St := ⟨[(0, .v false [.val (.sl (.cons (.int .i64) .nil) x0)]), (2, .v false [.val (.sl (.cons (.int .i64) .nil) x2)]), (7, .v false [.ref 64000038400448]), (12, .v false [.val (.sl (.cons (.int .i64) .nil) x1.1)]), (13, .v false [.val (.int .i64 v6_3)]), (14, .v false [.val (.int .i64 v6_4)])], [(64000038400448, .row (.cons (.int .i64) (.cons (.int .i64) .nil)) true v6_5)]⟩
theorem zq38.r6 (x0 : List Int) (x1 : TKeys) (x2 : List Int) (R : V.St → Option (List TSig)) (v6_3 : Int) (v6_4 : Int) (v6_5 : List TSig) : V.loopF zq38.E Tryz.f229.ntmps [1, 1, 0, 1, 0] [] (V.codeOf Tryz.f229) (zq38.kt x0 x1 x2) R (zq38.s6 x0 x1 x2 v6_3 v6_4 v6_5) = zq38.g6 x0 x1 x2 (fun v6_3 v6_4 v6_5 => R (zq38.s6 x0 x1 x2 v6_3 v6_4 v6_5)) v6_3 v6_4 v6_5 := by kernel_rfl
theorem zq38.e6 (x0 : List Int) (x1 : TKeys) (x2 : List Int) : ∀ (n : Nat) (v6_3 : Int) (v6_4 : Int) (v6_5 : List TSig), V.loopN (V.loopF zq38.E Tryz.f229.ntmps [1, 1, 0, 1, 0] [] (V.codeOf Tryz.f229) (zq38.kt x0 x1 x2)) n (zq38.s6 x0 x1 x2 v6_3 v6_4 v6_5) = zq38.l6 x0 x1 x2 n v6_3 v6_4 v6_5 := by
  intro n
  induction n with
  | zero => intros; rw [V.loopN_z]; rfl
  | succ n ih =>
    intro v6_3 v6_4 v6_5
    rw [V.loopN_s, zq38.r6]
    simp only [ih]
    first | exact (zq38.u6 ..).symm | rfl
theorem zq38.v (x0 : List Int) (x1 : TKeys) (x2 : List Int) : V.evBody zq38.E zq38.con Tryz.f229 ((x0, x1.1, x1.2, x2) : List Int × List Int × Int × List Int) = zq38.b x0 x1 x2 (fun v6_3 v6_4 v6_5 => V.loopN (V.loopF zq38.E Tryz.f229.ntmps [1, 1, 0, 1, 0] [] (V.codeOf Tryz.f229) (zq38.kt x0 x1 x2)) V.KK (zq38.s6 x0 x1 x2 v6_3 v6_4 v6_5)) := by kernel_rfl
theorem zq38.eq (x0 : List Int) (x1 : TKeys) (x2 : List Int) : V.evBody zq38.E zq38.con Tryz.f229 ((x0, x1.1, x1.2, x2) : List Int × List Int × Int × List Int) = zq38 x0 x1 x2 := by
  rw [zq38.v]
  simp only [zq38.e6]
  rfl
theorem zq38.ok : V.Valid Tryz.prog 229 zq38.con :=
  V.fo (V.tab_cons zq42.ok (V.tab_cons zq122.ok V.tab_nil)) Tryz.func229 (by kernel_rfl) (fun x y h => (show V.evBody zq38.E zq38.con Tryz.f229 x = _ from zq38.eq x.1 (x.2.1, x.2.2.1) x.2.2.2).trans (V.cfl (by kernel_rfl) h))
noncomputable abbrev zq39.con : V.Con := ⟨V.A6, V.eSigned, fun (x : V.D6) => zq39 (V.p6_0 x) (V.p6_1 x) (V.p6_2 x), [], [(false, 1), (true, 2), (true, 16)], [(true, 17)], [false, false, false, false, false, false, false, false, true, false, true, false, false, true, false, false, true], []⟩
noncomputable abbrev zq39.E : V.Env := V.mkE V.tys [(195, zq51.con), (210, zq12.con), (229, zq38.con)] [] [(1, 6)] [] [] []
noncomputable abbrev zq39.kt (x0 : List Int) (x1 : TKeys) (x2 : THead) : V.Kt TSigned := V.ktOf zq39.E zq39.con Tryz.f142 (V.fl6 x0 x1 x2)
noncomputable abbrev zq39.s (x0 : List Int) (x1 : TKeys) (x2 : THead) : V.St := ⟨[(0, .v false [.val (.sl (.cons (.int .i64) .nil) x0)]), (1, .v true [.val (.sl (.cons (.int .i64) .nil) x1.1), .val (.int .i64 x1.2)]), (2, .v true [.val (.int .i64 x2.1), .val (.int .i64 x2.2.1), .val (.int .i64 x2.2.2.1), .val (.int .i64 x2.2.2.2.1), .val (.int .i64 x2.2.2.2.2.1), .val (.int .i64 x2.2.2.2.2.2.1), .val (.int .i64 x2.2.2.2.2.2.2.1), .val (.int .i64 x2.2.2.2.2.2.2.2.1), .val (.sl (.cons (.int .i64) .nil) x2.2.2.2.2.2.2.2.2.1), .val (.int .i64 x2.2.2.2.2.2.2.2.2.2.1), .val (.sl (.cons (.int .i64) .nil) x2.2.2.2.2.2.2.2.2.2.2.1), .val (.int .i64 x2.2.2.2.2.2.2.2.2.2.2.2.1), .val (.int .i64 x2.2.2.2.2.2.2.2.2.2.2.2.2.1), .val (.sl (.cons (.int .i64) .nil) x2.2.2.2.2.2.2.2.2.2.2.2.2.2.1), .val (.int .i64 x2.2.2.2.2.2.2.2.2.2.2.2.2.2.2.1), .val (.bool x2.2.2.2.2.2.2.2.2.2.2.2.2.2.2.2)])], []⟩
theorem zq39.v0 (x0 : List Int) (x1 : TKeys) (x2 : THead) : V.evBody zq39.E zq39.con Tryz.f142 (V.fl6 x0 x1 x2) = V.evC zq39.E Tryz.f142.ntmps (V.codeOf Tryz.f142) (zq39.kt x0 x1 x2) (zq39.s x0 x1 x2) := by kernel_rfl
theorem zq39.v (x0 : List Int) (x1 : TKeys) (x2 : THead) : V.evC zq39.E Tryz.f142.ntmps (V.codeOf Tryz.f142) (zq39.kt x0 x1 x2) (zq39.s x0 x1 x2) = zq39 x0 x1 x2 := by kernel_rfl
theorem zq39.eq (x0 : List Int) (x1 : TKeys) (x2 : THead) : V.evBody zq39.E zq39.con Tryz.f142 (V.fl6 x0 x1 x2) = zq39 x0 x1 x2 := (zq39.v0 x0 x1 x2).trans (zq39.v x0 x1 x2)
theorem zq39.ok : V.Valid Tryz.prog 142 zq39.con :=
  V.fo (V.tab_cons zq51.ok (V.tab_cons zq12.ok (V.tab_cons zq38.ok V.tab_nil))) Tryz.func142 (by kernel_rfl) (fun x y h => (show V.evBody zq39.E zq39.con Tryz.f142 x = _ from zq39.eq (V.p6_0 x) (V.p6_1 x) (V.p6_2 x)).trans (V.cfl (by kernel_rfl) h))
noncomputable abbrev zq40.con : V.Con := ⟨V.A7, V.eSigned, fun (x : V.D7) => zq40 (V.p7_0 x) (V.p7_1 x) (V.p7_2 x), [], [(true, 16), (true, 16), (false, 1)], [(true, 17)], [false, false, false, false, false, false, false, false, true, false, true, false, false, true, false, false, true], []⟩
noncomputable abbrev zq40.E : V.Env := V.mkE V.tys [(142, zq39.con)] [(15, [2, 4, 6, 7], [])] [] [] [] []
noncomputable abbrev zq40.kt (x0 : THead) (x1 : THead) (x2 : List Int) : V.Kt TSigned := V.ktOf zq40.E zq40.con Tryz.f177 (V.fl7 x0 x1 x2)
noncomputable abbrev zq40.s15 (x1 : THead) (x2 : List Int) (v15_30 : List Int) (v15_31 : Int) : V.St := ⟨[(2, .v false [.val (.sl (.cons (.int .i64) .nil) x2)]), (4, .v false [.ptr 64064 0]), (6, .v false [.ptr 64128 0]), (7, .v false [.ptr 128128 0])], [(64064, .box [.val (.int .i64 x1.1), .val (.int .i64 x1.2.1), .val (.int .i64 x1.2.2.1), .val (.int .i64 x1.2.2.2.1), .val (.int .i64 x1.2.2.2.2.1), .val (.int .i64 x1.2.2.2.2.2.1), .val (.int .i64 x1.2.2.2.2.2.2.1), .val (.int .i64 x1.2.2.2.2.2.2.2.1), .val (.sl (.cons (.int .i64) .nil) x1.2.2.2.2.2.2.2.2.1), .val (.int .i64 x1.2.2.2.2.2.2.2.2.2.1), .val (.sl (.cons (.int .i64) .nil) x1.2.2.2.2.2.2.2.2.2.2.1), .val (.int .i64 x1.2.2.2.2.2.2.2.2.2.2.2.1), .val (.int .i64 x1.2.2.2.2.2.2.2.2.2.2.2.2.1), .val (.sl (.cons (.int .i64) .nil) x1.2.2.2.2.2.2.2.2.2.2.2.2.2.1), .val (.int .i64 x1.2.2.2.2.2.2.2.2.2.2.2.2.2.2.1), .val (.bool x1.2.2.2.2.2.2.2.2.2.2.2.2.2.2.2)]), (64128, .box [.val (.int .i64 (0 : Int)), .val (.int .i64 (0 : Int)), .val (.int .i64 (0 : Int)), .val (.int .i64 (0 : Int)), .val (.int .i64 (0 : Int)), .val (.int .i64 (0 : Int)), .val (.int .i64 (0 : Int)), .val (.int .i64 (0 : Int)), .nil0, .val (.int .i64 (0 : Int)), .nil0, .val (.int .i64 (0 : Int)), .val (.int .i64 (0 : Int)), .nil0, .val (.int .i64 (0 : Int)), .val (.bool false), .nil0]), (128128, .box [.val (.sl (.cons (.int .i64) .nil) v15_30), .val (.int .i64 v15_31)])]⟩
theorem zq40.r15 (x0 : THead) (x1 : THead) (x2 : List Int) (v15_30 : List Int) (v15_31 : Int) : V.joinF zq40.E Tryz.f177.ntmps [1, 1] [] (V.codeOf Tryz.f177) (zq40.kt x0 x1 x2) (zq40.s15 x1 x2 v15_30 v15_31) = zq40.g15 x1 x2 v15_30 v15_31 := by kernel_rfl
theorem zq40.e15 (x0 : THead) (x1 : THead) (x2 : List Int) (v15_30 : List Int) (v15_31 : Int) : V.jn (V.joinF zq40.E Tryz.f177.ntmps [1, 1] [] (V.codeOf Tryz.f177) (zq40.kt x0 x1 x2)) (zq40.s15 x1 x2 v15_30 v15_31) = zq40.l15 x1 x2 v15_30 v15_31 := by
  rw [V.jn_eq, zq40.r15]
  rfl
noncomputable abbrev zq40.s (x0 : THead) (x1 : THead) (x2 : List Int) : V.St := ⟨[(0, .v true [.val (.int .i64 x0.1), .val (.int .i64 x0.2.1), .val (.int .i64 x0.2.2.1), .val (.int .i64 x0.2.2.2.1), .val (.int .i64 x0.2.2.2.2.1), .val (.int .i64 x0.2.2.2.2.2.1), .val (.int .i64 x0.2.2.2.2.2.2.1), .val (.int .i64 x0.2.2.2.2.2.2.2.1), .val (.sl (.cons (.int .i64) .nil) x0.2.2.2.2.2.2.2.2.1), .val (.int .i64 x0.2.2.2.2.2.2.2.2.2.1), .val (.sl (.cons (.int .i64) .nil) x0.2.2.2.2.2.2.2.2.2.2.1), .val (.int .i64 x0.2.2.2.2.2.2.2.2.2.2.2.1), .val (.int .i64 x0.2.2.2.2.2.2.2.2.2.2.2.2.1), .val (.sl (.cons (.int .i64) .nil) x0.2.2.2.2.2.2.2.2.2.2.2.2.2.1), .val (.int .i64 x0.2.2.2.2.2.2.2.2.2.2.2.2.2.2.1), .val (.bool x0.2.2.2.2.2.2.2.2.2.2.2.2.2.2.2)]), (1, .v true [.val (.int .i64 x1.1), .val (.int .i64 x1.2.1), .val (.int .i64 x1.2.2.1), .val (.int .i64 x1.2.2.2.1), .val (.int .i64 x1.2.2.2.2.1), .val (.int .i64 x1.2.2.2.2.2.1), .val (.int .i64 x1.2.2.2.2.2.2.1), .val (.int .i64 x1.2.2.2.2.2.2.2.1), .val (.sl (.cons (.int .i64) .nil) x1.2.2.2.2.2.2.2.2.1), .val (.int .i64 x1.2.2.2.2.2.2.2.2.2.1), .val (.sl (.cons (.int .i64) .nil) x1.2.2.2.2.2.2.2.2.2.2.1), .val (.int .i64 x1.2.2.2.2.2.2.2.2.2.2.2.1), .val (.int .i64 x1.2.2.2.2.2.2.2.2.2.2.2.2.1), .val (.sl (.cons (.int .i64) .nil) x1.2.2.2.2.2.2.2.2.2.2.2.2.2.1), .val (.int .i64 x1.2.2.2.2.2.2.2.2.2.2.2.2.2.2.1), .val (.bool x1.2.2.2.2.2.2.2.2.2.2.2.2.2.2.2)]), (2, .v false [.val (.sl (.cons (.int .i64) .nil) x2)])], []⟩
theorem zq40.v0 (x0 : THead) (x1 : THead) (x2 : List Int) : V.evBody zq40.E zq40.con Tryz.f177 (V.fl7 x0 x1 x2) = V.evC zq40.E Tryz.f177.ntmps (V.codeOf Tryz.f177) (zq40.kt x0 x1 x2) (zq40.s x0 x1 x2) := by kernel_rfl
theorem zq40.v (x0 : THead) (x1 : THead) (x2 : List Int) : V.evC zq40.E Tryz.f177.ntmps (V.codeOf Tryz.f177) (zq40.kt x0 x1 x2) (zq40.s x0 x1 x2) = zq40.b x0 x1 x2 (fun v15_30 v15_31 => V.jn (V.joinF zq40.E Tryz.f177.ntmps [1, 1] [] (V.codeOf Tryz.f177) (zq40.kt x0 x1 x2)) (zq40.s15 x1 x2 v15_30 v15_31)) := by kernel_rfl
theorem zq40.eq (x0 : THead) (x1 : THead) (x2 : List Int) : V.evBody zq40.E zq40.con Tryz.f177 (V.fl7 x0 x1 x2) = zq40 x0 x1 x2 := by
  rw [zq40.v0, zq40.v]
  simp only [zq40.e15]
  rfl
theorem zq40.ok : V.Valid Tryz.prog 177 zq40.con :=
  V.fo (V.tab_cons zq39.ok V.tab_nil) Tryz.func177 (by kernel_rfl) (fun x y h => (show V.evBody zq40.E zq40.con Tryz.f177 x = _ from zq40.eq (V.p7_0 x) (V.p7_1 x) (V.p7_2 x)).trans (V.cfl (by kernel_rfl) h))
noncomputable abbrev zq8.con : V.Con := ⟨V.A8, (.cons (.sl V.eSigned) (.cons (.int .i64) .nil)), fun (x : V.D8) => zq8 (V.p8_0 x) (V.p8_1 x), [], [(false, 1), (true, 17)], [(false, 1), (false, 1)], [true, false], []⟩
noncomputable abbrev zq8.E : V.Env := V.mkE V.tys [(104, zq14.con), (107, zq53.con), (130, zq64.con), (243, zq48.con), (244, zq32.con)] [(7, [0, 3, 6, 17], [])] [(4, 3)] [] [] []
noncomputable abbrev zq8.kt (x0 : List TSigned) (x1 : TSigned) : V.Kt (List TSigned × Int) := V.ktOf zq8.E zq8.con Tryz.f176 (V.fl8 x0 x1)
noncomputable abbrev zq8.s7 (x0 : List TSigned) (x1 : TSigned) (y1 : List TSigned) (v7_1 : Bool) : V.St := ⟨[(0, .v false [.val (.sl V.eSigned x0)]), (3, .v false [.ptr 64000 0]), (6, .v false [.ref 64000044800384]), (17, .v false [.val (.bool v7_1)])], [(64000, .box [.val (.int .i64 x1.1), .val (.int .i64 x1.2.1), .val (.int .i64 x1.2.2.1), .val (.int .i64 x1.2.2.2.1), .val (.int .i64 x1.2.2.2.2.1), .val (.int .i64 x1.2.2.2.2.2.1), .val (.int .i64 x1.2.2.2.2.2.2.1), .val (.int .i64 x1.2.2.2.2.2.2.2.1), .val (.sl (.cons (.int .i64) .nil) x1.2.2.2.2.2.2.2.2.1), .val (.int .i64 x1.2.2.2.2.2.2.2.2.2.1), .val (.sl (.cons (.int .i64) .nil) x1.2.2.2.2.2.2.2.2.2.2.1), .val (.int .i64 x1.2.2.2.2.2.2.2.2.2.2.2.1), .val (.int .i64 x1.2.2.2.2.2.2.2.2.2.2.2.2.1), .val (.sl (.cons (.int .i64) .nil) x1.2.2.2.2.2.2.2.2.2.2.2.2.2.1), .val (.int .i64 x1.2.2.2.2.2.2.2.2.2.2.2.2.2.2.1), .val (.bool x1.2.2.2.2.2.2.2.2.2.2.2.2.2.2.2.1), .val (.sl (.cons (.int .i64) (.cons (.int .i64) .nil)) x1.2.2.2.2.2.2.2.2.2.2.2.2.2.2.2.2)]), (64000044800384, .row V.eSigned true y1)]⟩
theorem zq8.r7 (x0 : List TSigned) (x1 : TSigned) (y1 : List TSigned) (v7_1 : Bool) : V.joinF zq8.E Tryz.f176.ntmps [1, 1, 0] [] (V.codeOf Tryz.f176) (zq8.kt x0 x1) (zq8.s7 x0 x1 y1 v7_1) = zq8.g7 x0 x1 y1 v7_1 := by kernel_rfl
theorem zq8.e7 (x0 : List TSigned) (x1 : TSigned) (y1 : List TSigned) (v7_1 : Bool) : V.jn (V.joinF zq8.E Tryz.f176.ntmps [1, 1, 0] [] (V.codeOf Tryz.f176) (zq8.kt x0 x1)) (zq8.s7 x0 x1 y1 v7_1) = zq8.l7 x0 x1 y1 v7_1 := by
  rw [V.jn_eq, zq8.r7]
  rfl
noncomputable abbrev zq8.s (x0 : List TSigned) (x1 : TSigned) : V.St := ⟨[(0, .v false [.val (.sl V.eSigned x0)]), (1, .v true [.val (.int .i64 x1.1), .val (.int .i64 x1.2.1), .val (.int .i64 x1.2.2.1), .val (.int .i64 x1.2.2.2.1), .val (.int .i64 x1.2.2.2.2.1), .val (.int .i64 x1.2.2.2.2.2.1), .val (.int .i64 x1.2.2.2.2.2.2.1), .val (.int .i64 x1.2.2.2.2.2.2.2.1), .val (.sl (.cons (.int .i64) .nil) x1.2.2.2.2.2.2.2.2.1), .val (.int .i64 x1.2.2.2.2.2.2.2.2.2.1), .val (.sl (.cons (.int .i64) .nil) x1.2.2.2.2.2.2.2.2.2.2.1), .val (.int .i64 x1.2.2.2.2.2.2.2.2.2.2.2.1), .val (.int .i64 x1.2.2.2.2.2.2.2.2.2.2.2.2.1), .val (.sl (.cons (.int .i64) .nil) x1.2.2.2.2.2.2.2.2.2.2.2.2.2.1), .val (.int .i64 x1.2.2.2.2.2.2.2.2.2.2.2.2.2.2.1), .val (.bool x1.2.2.2.2.2.2.2.2.2.2.2.2.2.2.2.1), .val (.sl (.cons (.int .i64) (.cons (.int .i64) .nil)) x1.2.2.2.2.2.2.2.2.2.2.2.2.2.2.2.2)])], []⟩
theorem zq8.v0 (x0 : List TSigned) (x1 : TSigned) : V.evBody zq8.E zq8.con Tryz.f176 (V.fl8 x0 x1) = V.evC zq8.E Tryz.f176.ntmps (V.codeOf Tryz.f176) (zq8.kt x0 x1) (zq8.s x0 x1) := by kernel_rfl
theorem zq8.v (x0 : List TSigned) (x1 : TSigned) : V.evC zq8.E Tryz.f176.ntmps (V.codeOf Tryz.f176) (zq8.kt x0 x1) (zq8.s x0 x1) = zq8.b x0 x1 (fun y1 v7_1 => V.jn (V.joinF zq8.E Tryz.f176.ntmps [1, 1, 0] [] (V.codeOf Tryz.f176) (zq8.kt x0 x1)) (zq8.s7 x0 x1 y1 v7_1)) := by kernel_rfl
theorem zq8.eq (x0 : List TSigned) (x1 : TSigned) : V.evBody zq8.E zq8.con Tryz.f176 (V.fl8 x0 x1) = zq8 x0 x1 := by
  rw [zq8.v0, zq8.v]
  simp only [zq8.e7]
  rfl
theorem zq8.ok : V.Valid Tryz.prog 176 zq8.con :=
  V.fo (V.tab_cons zq14.ok (V.tab_cons zq53.ok (V.tab_cons zq64.ok (V.tab_cons zq48.ok (V.tab_cons zq32.ok V.tab_nil))))) Tryz.func176 (by kernel_rfl) (fun x y h => (show V.evBody zq8.E zq8.con Tryz.f176 x = _ from zq8.eq (V.p8_0 x) (V.p8_1 x)).trans (V.cfl (by kernel_rfl) h))
noncomputable abbrev zq35.con : V.Con := ⟨V.A9, (.cons (.sl V.eSigned) (.cons (.sl V.eEntry) (.cons (.int .i64) .nil))), fun (x : V.D9) => zq35 (V.p9_0 x) (V.p9_1 x) (V.p9_2 x) (V.p9_3 x), [], [(true, 2), (false, 1), (true, 16), (false, 1)], [(true, 2), (false, 1)], [true, true, false], []⟩
noncomputable abbrev zq35.E : V.Env := V.mkE V.tys [(46, zq24.con), (130, zq64.con), (143, zq49.con), (175, zq54.con), (176, zq8.con), (177, zq40.con)] [] [(3, 12)] [] [] []
noncomputable abbrev zq35.kt (x0 : TZone) (x1 : List Int) (x2 : THead) (x3 : List TEntry) : V.Kt TRZoneInt := V.ktOf zq35.E zq35.con Tryz.f78 (V.fl9 x0 x1 x2 x3)
noncomputable abbrev zq35.s (x0 : TZone) (x1 : List Int) (x2 : THead) (x3 : List TEntry) : V.St := ⟨[(0, .v true [.val (.sl V.eSigned x0.1), .val (.sl V.eEntry x0.2)]), (1, .v false [.val (.sl (.cons (.int .i64) .nil) x1)]), (2, .v true [.val (.int .i64 x2.1), .val (.int .i64 x2.2.1), .val (.int .i64 x2.2.2.1), .val (.int .i64 x2.2.2.2.1), .val (.int .i64 x2.2.2.2.2.1), .val (.int .i64 x2.2.2.2.2.2.1), .val (.int .i64 x2.2.2.2.2.2.2.1), .val (.int .i64 x2.2.2.2.2.2.2.2.1), .val (.sl (.cons (.int .i64) .nil) x2.2.2.2.2.2.2.2.2.1), .val (.int .i64 x2.2.2.2.2.2.2.2.2.2.1), .val (.sl (.cons (.int .i64) .nil) x2.2.2.2.2.2.2.2.2.2.2.1), .val (.int .i64 x2.2.2.2.2.2.2.2.2.2.2.2.1), .val (.int .i64 x2.2.2.2.2.2.2.2.2.2.2.2.2.1), .val (.sl (.cons (.int .i64) .nil) x2.2.2.2.2.2.2.2.2.2.2.2.2.2.1), .val (.int .i64 x2.2.2.2.2.2.2.2.2.2.2.2.2.2.2.1), .val (.bool x2.2.2.2.2.2.2.2.2.2.2.2.2.2.2.2)]), (3, .v false [.val (.sl V.eEntry x3)])], []⟩
theorem zq35.v0 (x0 : TZone) (x1 : List Int) (x2 : THead) (x3 : List TEntry) : V.evBody zq35.E zq35.con Tryz.f78 (V.fl9 x0 x1 x2 x3) = V.evC zq35.E Tryz.f78.ntmps (V.codeOf Tryz.f78) (zq35.kt x0 x1 x2 x3) (zq35.s x0 x1 x2 x3) := by kernel_rfl
theorem zq35.v (x0 : TZone) (x1 : List Int) (x2 : THead) (x3 : List TEntry) : V.evC zq35.E Tryz.f78.ntmps (V.codeOf Tryz.f78) (zq35.kt x0 x1 x2 x3) (zq35.s x0 x1 x2 x3) = zq35 x0 x1 x2 x3 := by kernel_rfl
theorem zq35.eq (x0 : TZone) (x1 : List Int) (x2 : THead) (x3 : List TEntry) : V.evBody zq35.E zq35.con Tryz.f78 (V.fl9 x0 x1 x2 x3) = zq35 x0 x1 x2 x3 := (zq35.v0 x0 x1 x2 x3).trans (zq35.v x0 x1 x2 x3)
theorem zq35.ok : V.Valid Tryz.prog 78 zq35.con :=
  V.fo (V.tab_cons zq24.ok (V.tab_cons zq64.ok (V.tab_cons zq49.ok (V.tab_cons zq54.ok (V.tab_cons zq8.ok (V.tab_cons zq40.ok V.tab_nil)))))) Tryz.func78 (by kernel_rfl) (fun x y h => (show V.evBody zq35.E zq35.con Tryz.f78 x = _ from zq35.eq (V.p9_0 x) (V.p9_1 x) (V.p9_2 x) (V.p9_3 x)).trans (V.cfl (by kernel_rfl) h))
noncomputable abbrev zq72.con : V.Con := ⟨(.cons (.sl (.cons (.int .i64) .nil)) (.cons (.sl (.cons (.int .i64) .nil)) .nil)), (.cons .bool .nil), fun (x : List Int × List Int) => zq72 x.1 x.2, [], [(false, 1), (false, 1)], [(false, 1)], [false], []⟩
noncomputable abbrev zq72.E : V.Env := V.mkE V.tys [] [(8, [0, 1, 5], [])] [(6, 8)] [] [] []
noncomputable abbrev zq72.kt (x0 : List Int) (x1 : List Int) : V.Kt Bool := V.ktOf zq72.E zq72.con Tryz.f79 ((x0, x1) : List Int × List Int)
noncomputable abbrev zq72.s8 (x0 : List Int) (x1 : List Int) (v8_2 : Int) : V.St := ⟨[(0, .v false [.val (.sl (.cons (.int .i64) .nil) x0)]), (1, .v false [.val (.sl (.cons (.int .i64) .nil) x1)]), (5, .v false [.val (.int .i64 v8_2)])], []⟩
theorem zq72.r8 (x0 : List Int) (x1 : List Int) (R : V.St → Option Bool) (v8_2 : Int) : V.loopF zq72.E Tryz.f79.ntmps [1, 1, 0, 1, 0] [] (V.codeOf Tryz.f79) (zq72.kt x0 x1) R (zq72.s8 x0 x1 v8_2) = zq72.g8 x0 x1 (fun v8_2 => R (zq72.s8 x0 x1 v8_2)) v8_2 := by kernel_rfl
theorem zq72.e8 (x0 : List Int) (x1 : List Int) : ∀ (n : Nat) (v8_2 : Int), V.loopN (V.loopF zq72.E Tryz.f79.ntmps [1, 1, 0, 1, 0] [] (V.codeOf Tryz.f79) (zq72.kt x0 x1)) n (zq72.s8 x0 x1 v8_2) = zq72.l8 x0 x1 n v8_2 := by
  intro n
  induction n with
  | zero => intros; rw [V.loopN_z]; rfl
  | succ n ih =>
    intro v8_2
    rw [V.loopN_s, zq72.r8]
    simp only [ih]
    first | exact (zq72.u8 ..).symm | rfl
theorem zq72.v (x0 : List Int) (x1 : List Int) : V.evBody zq72.E zq72.con Tryz.f79 ((x0, x1) : List Int × List Int) = zq72.b x0 x1 (fun v8_2 => V.loopN (V.loopF zq72.E Tryz.f79.ntmps [1, 1, 0, 1, 0] [] (V.codeOf Tryz.f79) (zq72.kt x0 x1)) V.KK (zq72.s8 x0 x1 v8_2)) := by kernel_rfl
theorem zq72.eq (x0 : List Int) (x1 : List Int) : V.evBody zq72.E zq72.con Tryz.f79 ((x0, x1) : List Int × List Int) = zq72 x0 x1 := by
  rw [zq72.v]
  simp only [zq72.e8]
  rfl
theorem zq72.ok : V.Valid Tryz.prog 79 zq72.con :=
  V.fo V.tab_nil Tryz.func79 (by kernel_rfl) (fun x y h => (show V.evBody zq72.E zq72.con Tryz.f79 x = _ from zq72.eq x.1 x.2).trans (V.cfl (by kernel_rfl) h))
noncomputable abbrev zq73.con : V.Con := ⟨(.cons (.sl (.cons (.int .i64) .nil)) (.cons (.int .i64) (.cons (.sl (.cons (.int .i64) .nil)) (.cons (.int .i64) .nil)))), (.cons .bool .nil), fun (x : List Int × Int × List Int × Int) => zq73 (x.1, x.2.1) x.2.2, [], [(true, 2), (true, 2)], [(false, 1)], [false], []⟩
noncomputable abbrev zq73.E : V.Env := V.mkE V.tys [(79, zq72.con)] [] [] [] [] []
theorem zq73.eq (x0 : TKeys) (x1 : TKeys) : V.evBody zq73.E zq73.con Tryz.f54 ((x0.1, x0.2, x1.1, x1.2) : List Int × Int × List Int × Int) = zq73 x0 x1 := by kernel_rfl
theorem zq73.ok : V.Valid Tryz.prog 54 zq73.con :=
  V.fo (V.tab_cons zq72.ok V.tab_nil) Tryz.func54 (by kernel_rfl) (fun x y h => (show V.evBody zq73.E zq73.con Tryz.f54 x = _ from zq73.eq (x.1, x.2.1) x.2.2).trans (V.cfl (by kernel_rfl) h))
noncomputable abbrev zq71.con : V.Con := ⟨V.A4, (.cons .bool .nil), fun (x : V.D4) => zq71 (V.p4_0 x) (V.p4_1 x), [], [(true, 16), (true, 16)], [(false, 1)], [false], []⟩
noncomputable abbrev zq71.E : V.Env := V.mkE V.tys [(54, zq73.con)] [] [] [] [] []
noncomputable abbrev zq71.kt (x0 : THead) (x1 : THead) : V.Kt Bool := V.ktOf zq71.E zq71.con Tryz.f21 (V.fl4 x0 x1)
noncomputable abbrev zq71.s (x0 : THead) (x1 : THead) : V.St := ⟨[(0, .v true [.val (.int .i64 x0.1), .val (.int .i64 x0.2.1), .val (.int .i64 x0.2.2.1), .val (.int .i64 x0.2.2.2.1), .val (.int .i64 x0.2.2.2.2.1), .val (.int .i64 x0.2.2.2.2.2.1), .val (.int .i64 x0.2.2.2.2.2.2.1), .val (.int .i64 x0.2.2.2.2.2.2.2.1), .val (.sl (.cons (.int .i64) .nil) x0.2.2.2.2.2.2.2.2.1), .val (.int .i64 x0.2.2.2.2.2.2.2.2.2.1), .val (.sl (.cons (.int .i64) .nil) x0.2.2.2.2.2.2.2.2.2.2.1), .val (.int .i64 x0.2.2.2.2.2.2.2.2.2.2.2.1), .val (.int .i64 x0.2.2.2.2.2.2.2.2.2.2.2.2.1), .val (.sl (.cons (.int .i64) .nil) x0.2.2.2.2.2.2.2.2.2.2.2.2.2.1), .val (.int .i64 x0.2.2.2.2.2.2.2.2.2.2.2.2.2.2.1), .val (.bool x0.2.2.2.2.2.2.2.2.2.2.2.2.2.2.2)]), (1, .v true [.val (.int .i64 x1.1), .val (.int .i64 x1.2.1), .val (.int .i64 x1.2.2.1), .val (.int .i64 x1.2.2.2.1), .val (.int .i64 x1.2.2.2.2.1), .val (.int .i64 x1.2.2.2.2.2.1), .val (.int .i64 x1.2.2.2.2.2.2.1), .val (.int .i64 x1.2.2.2.2.2.2.2.1), .val (.sl (.cons (.int .i64) .nil) x1.2.2.2.2.2.2.2.2.1), .val (.int .i64 x1.2.2.2.2.2.2.2.2.2.1), .val (.sl (.cons (.int .i64) .nil) x1.2.2.2.2.2.2.2.2.2.2.1), .val (.int .i64 x1.2.2.2.2.2.2.2.2.2.2.2.1), .val (.int .i64 x1.2.2.2.2.2.2.2.2.2.2.2.2.1), .val (.sl (.cons (.int .i64) .nil) x1.2.2.2.2.2.2.2.2.2.2.2.2.2.1), .val (.int .i64 x1.2.2.2.2.2.2.2.2.2.2.2.2.2.2.1), .val (.bool x1.2.2.2.2.2.2.2.2.2.2.2.2.2.2.2)])], []⟩
theorem zq71.v0 (x0 : THead) (x1 : THead) : V.evBody zq71.E zq71.con Tryz.f21 (V.fl4 x0 x1) = V.evC zq71.E Tryz.f21.ntmps (V.codeOf Tryz.f21) (zq71.kt x0 x1) (zq71.s x0 x1) := by kernel_rfl
theorem zq71.v (x0 : THead) (x1 : THead) : V.evC zq71.E Tryz.f21.ntmps (V.codeOf Tryz.f21) (zq71.kt x0 x1) (zq71.s x0 x1) = zq71 x0 x1 := by kernel_rfl
theorem zq71.eq (x0 : THead) (x1 : THead) : V.evBody zq71.E zq71.con Tryz.f21 (V.fl4 x0 x1) = zq71 x0 x1 := (zq71.v0 x0 x1).trans (zq71.v x0 x1)
theorem zq71.ok : V.Valid Tryz.prog 21 zq71.con :=
  V.fo (V.tab_cons zq73.ok V.tab_nil) Tryz.func21 (by kernel_rfl) (fun x y h => (show V.evBody zq71.E zq71.con Tryz.f21 x = _ from zq71.eq (V.p4_0 x) (V.p4_1 x)).trans (V.cfl (by kernel_rfl) h))
noncomputable abbrev zq74.con : V.Con := ⟨(.cons (.int .i64) (.cons (.int .i64) (.cons (.int .i64) (.cons (.int .i64) .nil)))), (.cons .bool .nil), fun (x : Int × Int × Int × Int) => zq74 (x.1, x.2.1) x.2.2, [], [(true, 2), (true, 2)], [(false, 1)], [false], []⟩
noncomputable abbrev zq74.E : V.Env := V.mkE V.tys [] [] [] [] [] []
theorem zq74.eq (x0 : TSig) (x1 : TSig) : V.evBody zq74.E zq74.con Tryz.f40 ((x0.1, x0.2, x1.1, x1.2) : Int × Int × Int × Int) = zq74 x0 x1 := by kernel_rfl
theorem zq74.ok : V.Valid Tryz.prog 40 zq74.con :=
  V.fo V.tab_nil Tryz.func40 (by kernel_rfl) (fun x y h => (show V.evBody zq74.E zq74.con Tryz.f40 x = _ from zq74.eq (x.1, x.2.1) x.2.2).trans (V.cfl (by kernel_rfl) h))
noncomputable abbrev zq75.con : V.Con := ⟨(.cons (.sl (.cons (.int .i64) (.cons (.int .i64) .nil))) (.cons (.sl (.cons (.int .i64) (.cons (.int .i64) .nil))) .nil)), (.cons .bool .nil), fun (x : List TSig × List TSig) => zq75 x.1 x.2, [], [(false, 1), (false, 1)], [(false, 1)], [false], []⟩
noncomputable abbrev zq75.E : V.Env := V.mkE V.tys [(40, zq74.con)] [(8, [0, 1, 5], [])] [(6, 8)] [] [] []
noncomputable abbrev zq75.kt (x0 : List TSig) (x1 : List TSig) : V.Kt Bool := V.ktOf zq75.E zq75.con Tryz.f212 ((x0, x1) : List TSig × List TSig)
noncomputable abbrev zq75.s8 (x0 : List TSig) (x1 : List TSig) (v8_2 : Int) : V.St := ⟨[(0, .v false [.val (.sl (.cons (.int .i64) (.cons (.int .i64) .nil)) x0)]), (1, .v false [.val (.sl (.cons (.int .i64) (.cons (.int .i64) .nil)) x1)]), (5, .v false [.val (.int .i64 v8_2)])], []⟩
theorem zq75.r8 (x0 : List TSig) (x1 : List TSig) (R : V.St → Option Bool) (v8_2 : Int) : V.loopF zq75.E Tryz.f212.ntmps [1, 1, 0, 1, 0] [] (V.codeOf Tryz.f212) (zq75.kt x0 x1) R (zq75.s8 x0 x1 v8_2) = zq75.g8 x0 x1 (fun v8_2 => R (zq75.s8 x0 x1 v8_2)) v8_2 := by kernel_rfl
theorem zq75.e8 (x0 : List TSig) (x1 : List TSig) : ∀ (n : Nat) (v8_2 : Int), V.loopN (V.loopF zq75.E Tryz.f212.ntmps [1, 1, 0, 1, 0] [] (V.codeOf Tryz.f212) (zq75.kt x0 x1)) n (zq75.s8 x0 x1 v8_2) = zq75.l8 x0 x1 n v8_2 := by
  intro n
  induction n with
  | zero => intros; rw [V.loopN_z]; rfl
  | succ n ih =>
    intro v8_2
    rw [V.loopN_s, zq75.r8]
    simp only [ih]
    first | exact (zq75.u8 ..).symm | rfl
theorem zq75.v (x0 : List TSig) (x1 : List TSig) : V.evBody zq75.E zq75.con Tryz.f212 ((x0, x1) : List TSig × List TSig) = zq75.b x0 x1 (fun v8_2 => V.loopN (V.loopF zq75.E Tryz.f212.ntmps [1, 1, 0, 1, 0] [] (V.codeOf Tryz.f212) (zq75.kt x0 x1)) V.KK (zq75.s8 x0 x1 v8_2)) := by kernel_rfl
theorem zq75.eq (x0 : List TSig) (x1 : List TSig) : V.evBody zq75.E zq75.con Tryz.f212 ((x0, x1) : List TSig × List TSig) = zq75 x0 x1 := by
  rw [zq75.v]
  simp only [zq75.e8]
  rfl
theorem zq75.ok : V.Valid Tryz.prog 212 zq75.con :=
  V.fo (V.tab_cons zq74.ok V.tab_nil) Tryz.func212 (by kernel_rfl) (fun x y h => (show V.evBody zq75.E zq75.con Tryz.f212 x = _ from zq75.eq x.1 x.2).trans (V.cfl (by kernel_rfl) h))
noncomputable abbrev zq76.con : V.Con := ⟨V.A11, (.cons .bool .nil), fun (x : V.D11) => zq76 (V.p11_0 x) (V.p11_1 x), [], [(true, 17), (true, 17)], [(false, 1)], [false], []⟩
noncomputable abbrev zq76.E : V.Env := V.mkE V.tys [(21, zq71.con), (212, zq75.con)] [] [] [] [] []
noncomputable abbrev zq76.kt (x0 : TSigned) (x1 : TSigned) : V.Kt Bool := V.ktOf zq76.E zq76.con Tryz.f108 (V.fl11 x0 x1)
noncomputable abbrev zq76.s (x0 : TSigned) (x1 : TSigned) : V.St := ⟨[(0, .v true [.val (.int .i64 x0.1), .val (.int .i64 x0.2.1), .val (.int .i64 x0.2.2.1), .val (.int .i64 x0.2.2.2.1), .val (.int .i64 x0.2.2.2.2.1), .val (.int .i64 x0.2.2.2.2.2.1), .val (.int .i64 x0.2.2.2.2.2.2.1), .val (.int .i64 x0.2.2.2.2.2.2.2.1), .val (.sl (.cons (.int .i64) .nil) x0.2.2.2.2.2.2.2.2.1), .val (.int .i64 x0.2.2.2.2.2.2.2.2.2.1), .val (.sl (.cons (.int .i64) .nil) x0.2.2.2.2.2.2.2.2.2.2.1), .val (.int .i64 x0.2.2.2.2.2.2.2.2.2.2.2.1), .val (.int .i64 x0.2.2.2.2.2.2.2.2.2.2.2.2.1), .val (.sl (.cons (.int .i64) .nil) x0.2.2.2.2.2.2.2.2.2.2.2.2.2.1), .val (.int .i64 x0.2.2.2.2.2.2.2.2.2.2.2.2.2.2.1), .val (.bool x0.2.2.2.2.2.2.2.2.2.2.2.2.2.2.2.1), .val (.sl (.cons (.int .i64) (.cons (.int .i64) .nil)) x0.2.2.2.2.2.2.2.2.2.2.2.2.2.2.2.2)]), (1, .v true [.val (.int .i64 x1.1), .val (.int .i64 x1.2.1), .val (.int .i64 x1.2.2.1), .val (.int .i64 x1.2.2.2.1), .val (.int .i64 x1.2.2.2.2.1), .val (.int .i64 x1.2.2.2.2.2.1), .val (.int .i64 x1.2.2.2.2.2.2.1), .val (.int .i64 x1.2.2.2.2.2.2.2.1), .val (.sl (.cons (.int .i64) .nil) x1.2.2.2.2.2.2.2.2.1), .val (.int .i64 x1.2.2.2.2.2.2.2.2.2.1), .val (.sl (.cons (.int .i64) .nil) x1.2.2.2.2.2.2.2.2.2.2.1), .val (.int .i64 x1.2.2.2.2.2.2.2.2.2.2.2.1), .val (.int .i64 x1.2.2.2.2.2.2.2.2.2.2.2.2.1), .val (.sl (.cons (.int .i64) .nil) x1.2.2.2.2.2.2.2.2.2.2.2.2.2.1), .val (.int .i64 x1.2.2.2.2.2.2.2.2.2.2.2.2.2.2.1), .val (.bool x1.2.2.2.2.2.2.2.2.2.2.2.2.2.2.2.1), .val (.sl (.cons (.int .i64) (.cons (.int .i64) .nil)) x1.2.2.2.2.2.2.2.2.2.2.2.2.2.2.2.2)])], []⟩
theorem zq76.v0 (x0 : TSigned) (x1 : TSigned) : V.evBody zq76.E zq76.con Tryz.f108 (V.fl11 x0 x1) = V.evC zq76.E Tryz.f108.ntmps (V.codeOf Tryz.f108) (zq76.kt x0 x1) (zq76.s x0 x1) := by kernel_rfl
theorem zq76.v (x0 : TSigned) (x1 : TSigned) : V.evC zq76.E Tryz.f108.ntmps (V.codeOf Tryz.f108) (zq76.kt x0 x1) (zq76.s x0 x1) = zq76 x0 x1 := by kernel_rfl
theorem zq76.eq (x0 : TSigned) (x1 : TSigned) : V.evBody zq76.E zq76.con Tryz.f108 (V.fl11 x0 x1) = zq76 x0 x1 := (zq76.v0 x0 x1).trans (zq76.v x0 x1)
theorem zq76.ok : V.Valid Tryz.prog 108 zq76.con :=
  V.fo (V.tab_cons zq71.ok (V.tab_cons zq75.ok V.tab_nil)) Tryz.func108 (by kernel_rfl) (fun x y h => (show V.evBody zq76.E zq76.con Tryz.f108 x = _ from zq76.eq (V.p11_0 x) (V.p11_1 x)).trans (V.cfl (by kernel_rfl) h))
noncomputable abbrev zq77.con : V.Con := ⟨(.cons (.sl V.eSigned) (.cons (.sl V.eSigned) .nil)), (.cons .bool .nil), fun (x : List TSigned × List TSigned) => zq77 x.1 x.2, [], [(false, 1), (false, 1)], [(false, 1)], [false], []⟩
noncomputable abbrev zq77.E : V.Env := V.mkE V.tys [(108, zq76.con)] [(8, [0, 1, 5], [])] [(6, 8)] [] [] []
noncomputable abbrev zq77.kt (x0 : List TSigned) (x1 : List TSigned) : V.Kt Bool := V.ktOf zq77.E zq77.con Tryz.f31 ((x0, x1) : List TSigned × List TSigned)
noncomputable abbrev zq77.s8 (x0 : List TSigned) (x1 : List TSigned) (v8_2 : Int) : V.St := ⟨[(0, .v false [.val (.sl V.eSigned x0)]), (1, .v false [.val (.sl V.eSigned x1)]), (5, .v false [.val (.int .i64 v8_2)])], []⟩
theorem zq77.r8 (x0 : List TSigned) (x1 : List TSigned) (R : V.St → Option Bool) (v8_2 : Int) : V.loopF zq77.E Tryz.f31.ntmps [1, 1, 0, 1, 0] [] (V.codeOf Tryz.f31) (zq77.kt x0 x1) R (zq77.s8 x0 x1 v8_2) = zq77.g8 x0 x1 (fun v8_2 => R (zq77.s8 x0 x1 v8_2)) v8_2 := by kernel_rfl
theorem zq77.e8 (x0 : List TSigned) (x1 : List TSigned) : ∀ (n : Nat) (v8_2 : Int), V.loopN (V.loopF zq77.E Tryz.f31.ntmps [1, 1, 0, 1, 0] [] (V.codeOf Tryz.f31) (zq77.kt x0 x1)) n (zq77.s8 x0 x1 v8_2) = zq77.l8 x0 x1 n v8_2 := by
  intro n
  induction n with
  | zero => intros; rw [V.loopN_z]; rfl
  | succ n ih =>
    intro v8_2
    rw [V.loopN_s, zq77.r8]
    simp only [ih]
    first | exact (zq77.u8 ..).symm | rfl
theorem zq77.v (x0 : List TSigned) (x1 : List TSigned) : V.evBody zq77.E zq77.con Tryz.f31 ((x0, x1) : List TSigned × List TSigned) = zq77.b x0 x1 (fun v8_2 => V.loopN (V.loopF zq77.E Tryz.f31.ntmps [1, 1, 0, 1, 0] [] (V.codeOf Tryz.f31) (zq77.kt x0 x1)) V.KK (zq77.s8 x0 x1 v8_2)) := by kernel_rfl
theorem zq77.eq (x0 : List TSigned) (x1 : List TSigned) : V.evBody zq77.E zq77.con Tryz.f31 ((x0, x1) : List TSigned × List TSigned) = zq77 x0 x1 := by
  rw [zq77.v]
  simp only [zq77.e8]
  rfl
theorem zq77.ok : V.Valid Tryz.prog 31 zq77.con :=
  V.fo (V.tab_cons zq76.ok V.tab_nil) Tryz.func31 (by kernel_rfl) (fun x y h => (show V.evBody zq77.E zq77.con Tryz.f31 x = _ from zq77.eq x.1 x.2).trans (V.cfl (by kernel_rfl) h))
noncomputable abbrev zq78.con : V.Con := ⟨(.cons (.sl (.cons .str .nil)) (.cons (.sl (.cons .str .nil)) .nil)), (.cons .bool .nil), fun (x : List ByteArray × List ByteArray) => zq78 x.1 x.2, [], [(false, 1), (false, 1)], [(false, 1)], [false], []⟩
noncomputable abbrev zq78.E : V.Env := V.mkE V.tys [] [(8, [0, 1, 5], [])] [(6, 8)] [] [] []
noncomputable abbrev zq78.kt (x0 : List ByteArray) (x1 : List ByteArray) : V.Kt Bool := V.ktOf zq78.E zq78.con Tryz.f168 ((x0, x1) : List ByteArray × List ByteArray)
noncomputable abbrev zq78.s8 (x0 : List ByteArray) (x1 : List ByteArray) (v8_2 : Int) : V.St := ⟨[(0, .v false [.val (.sl (.cons .str .nil) x0)]), (1, .v false [.val (.sl (.cons .str .nil) x1)]), (5, .v false [.val (.int .i64 v8_2)])], []⟩
theorem zq78.r8 (x0 : List ByteArray) (x1 : List ByteArray) (R : V.St → Option Bool) (v8_2 : Int) : V.loopF zq78.E Tryz.f168.ntmps [1, 1, 0, 1, 0] [] (V.codeOf Tryz.f168) (zq78.kt x0 x1) R (zq78.s8 x0 x1 v8_2) = zq78.g8 x0 x1 (fun v8_2 => R (zq78.s8 x0 x1 v8_2)) v8_2 := by kernel_rfl
theorem zq78.e8 (x0 : List ByteArray) (x1 : List ByteArray) : ∀ (n : Nat) (v8_2 : Int), V.loopN (V.loopF zq78.E Tryz.f168.ntmps [1, 1, 0, 1, 0] [] (V.codeOf Tryz.f168) (zq78.kt x0 x1)) n (zq78.s8 x0 x1 v8_2) = zq78.l8 x0 x1 n v8_2 := by
  intro n
  induction n with
  | zero => intros; rw [V.loopN_z]; rfl
  | succ n ih =>
    intro v8_2
    rw [V.loopN_s, zq78.r8]
    simp only [ih]
    first | exact (zq78.u8 ..).symm | rfl
theorem zq78.v (x0 : List ByteArray) (x1 : List ByteArray) : V.evBody zq78.E zq78.con Tryz.f168 ((x0, x1) : List ByteArray × List ByteArray) = zq78.b x0 x1 (fun v8_2 => V.loopN (V.loopF zq78.E Tryz.f168.ntmps [1, 1, 0, 1, 0] [] (V.codeOf Tryz.f168) (zq78.kt x0 x1)) V.KK (zq78.s8 x0 x1 v8_2)) := by kernel_rfl
theorem zq78.eq (x0 : List ByteArray) (x1 : List ByteArray) : V.evBody zq78.E zq78.con Tryz.f168 ((x0, x1) : List ByteArray × List ByteArray) = zq78 x0 x1 := by
  rw [zq78.v]
  simp only [zq78.e8]
  rfl
theorem zq78.ok : V.Valid Tryz.prog 168 zq78.con :=
  V.fo V.tab_nil Tryz.func168 (by kernel_rfl) (fun x y h => (show V.evBody zq78.E zq78.con Tryz.f168 x = _ from zq78.eq x.1 x.2).trans (V.cfl (by kernel_rfl) h))
noncomputable abbrev zq69.con : V.Con := ⟨(.cons .str (.cons (.int .i64) (.cons (.int .i64) (.cons (.sl (.cons .str .nil)) (.cons .str (.cons (.int .i64) (.cons (.int .i64) (.cons (.sl (.cons .str .nil)) .nil)))))))), (.cons .bool .nil), fun (x : ByteArray × Int × Int × List ByteArray × ByteArray × Int × Int × List ByteArray) => zq69 (x.1, x.2.1, x.2.2.1, x.2.2.2.1) x.2.2.2.2, [], [(true, 4), (true, 4)], [(false, 1)], [false], []⟩
noncomputable abbrev zq69.E : V.Env := V.mkE V.tys [(168, zq78.con)] [] [] [] [] []
theorem zq69.eq (x0 : TEntry) (x1 : TEntry) : V.evBody zq69.E zq69.con Tryz.f72 ((x0.1, x0.2.1, x0.2.2.1, x0.2.2.2, x1.1, x1.2.1, x1.2.2.1, x1.2.2.2) : ByteArray × Int × Int × List ByteArray × ByteArray × Int × Int × List ByteArray) = zq69 x0 x1 := by kernel_rfl
theorem zq69.ok : V.Valid Tryz.prog 72 zq69.con :=
  V.fo (V.tab_cons zq78.ok V.tab_nil) Tryz.func72 (by kernel_rfl) (fun x y h => (show V.evBody zq69.E zq69.con Tryz.f72 x = _ from zq69.eq (x.1, x.2.1, x.2.2.1, x.2.2.2.1) x.2.2.2.2).trans (V.cfl (by kernel_rfl) h))
noncomputable abbrev zq70.con : V.Con := ⟨(.cons (.sl V.eEntry) (.cons (.sl V.eEntry) .nil)), (.cons .bool .nil), fun (x : List TEntry × List TEntry) => zq70 x.1 x.2, [], [(false, 1), (false, 1)], [(false, 1)], [false], []⟩
noncomputable abbrev zq70.E : V.Env := V.mkE V.tys [(72, zq69.con)] [(8, [0, 1, 5], [])] [(6, 8)] [] [] []
noncomputable abbrev zq70.kt (x0 : List TEntry) (x1 : List TEntry) : V.Kt Bool := V.ktOf zq70.E zq70.con Tryz.f22 ((x0, x1) : List TEntry × List TEntry)
noncomputable abbrev zq70.s8 (x0 : List TEntry) (x1 : List TEntry) (v8_2 : Int) : V.St := ⟨[(0, .v false [.val (.sl V.eEntry x0)]), (1, .v false [.val (.sl V.eEntry x1)]), (5, .v false [.val (.int .i64 v8_2)])], []⟩
theorem zq70.r8 (x0 : List TEntry) (x1 : List TEntry) (R : V.St → Option Bool) (v8_2 : Int) : V.loopF zq70.E Tryz.f22.ntmps [1, 1, 0, 1, 0] [] (V.codeOf Tryz.f22) (zq70.kt x0 x1) R (zq70.s8 x0 x1 v8_2) = zq70.g8 x0 x1 (fun v8_2 => R (zq70.s8 x0 x1 v8_2)) v8_2 := by kernel_rfl
theorem zq70.e8 (x0 : List TEntry) (x1 : List TEntry) : ∀ (n : Nat) (v8_2 : Int), V.loopN (V.loopF zq70.E Tryz.f22.ntmps [1, 1, 0, 1, 0] [] (V.codeOf Tryz.f22) (zq70.kt x0 x1)) n (zq70.s8 x0 x1 v8_2) = zq70.l8 x0 x1 n v8_2 := by
  intro n
  induction n with
  | zero => intros; rw [V.loopN_z]; rfl
  | succ n ih =>
    intro v8_2
    rw [V.loopN_s, zq70.r8]
    simp only [ih]
    first | exact (zq70.u8 ..).symm | rfl
theorem zq70.v (x0 : List TEntry) (x1 : List TEntry) : V.evBody zq70.E zq70.con Tryz.f22 ((x0, x1) : List TEntry × List TEntry) = zq70.b x0 x1 (fun v8_2 => V.loopN (V.loopF zq70.E Tryz.f22.ntmps [1, 1, 0, 1, 0] [] (V.codeOf Tryz.f22) (zq70.kt x0 x1)) V.KK (zq70.s8 x0 x1 v8_2)) := by kernel_rfl
theorem zq70.eq (x0 : List TEntry) (x1 : List TEntry) : V.evBody zq70.E zq70.con Tryz.f22 ((x0, x1) : List TEntry × List TEntry) = zq70 x0 x1 := by
  rw [zq70.v]
  simp only [zq70.e8]
  rfl
theorem zq70.ok : V.Valid Tryz.prog 22 zq70.con :=
  V.fo (V.tab_cons zq69.ok V.tab_nil) Tryz.func22 (by kernel_rfl) (fun x y h => (show V.evBody zq70.E zq70.con Tryz.f22 x = _ from zq70.eq x.1 x.2).trans (V.cfl (by kernel_rfl) h))
noncomputable abbrev zq79.con : V.Con := ⟨(.cons (.sl V.eSigned) (.cons (.sl V.eEntry) (.cons (.sl V.eSigned) (.cons (.sl V.eEntry) .nil)))), (.cons .bool .nil), fun (x : List TSigned × List TEntry × List TSigned × List TEntry) => zq79 (x.1, x.2.1) x.2.2, [], [(true, 2), (true, 2)], [(false, 1)], [false], []⟩
noncomputable abbrev zq79.E : V.Env := V.mkE V.tys [(22, zq70.con), (31, zq77.con)] [] [] [] [] []
theorem zq79.eq (x0 : TZone) (x1 : TZone) : V.evBody zq79.E zq79.con Tryz.f47 ((x0.1, x0.2, x1.1, x1.2) : List TSigned × List TEntry × List TSigned × List TEntry) = zq79 x0 x1 := by kernel_rfl
theorem zq79.ok : V.Valid Tryz.prog 47 zq79.con :=
  V.fo (V.tab_cons zq70.ok (V.tab_cons zq77.ok V.tab_nil)) Tryz.func47 (by kernel_rfl) (fun x y h => (show V.evBody zq79.E zq79.con Tryz.f47 x = _ from zq79.eq (x.1, x.2.1) x.2.2).trans (V.cfl (by kernel_rfl) h))
noncomputable abbrev zq88.con : V.Con := ⟨(.cons (.sl (.cons (.int .i64) .nil)) (.cons (.int .i64) .nil)), (.cons (.sl (.cons (.int .i64) .nil)) (.cons (.int .i64) .nil)), fun (x : List Int × Int) => zq88 x.1 x.2, [(0, false)], [(false, 1), (false, 1)], [(false, 1)], [false], []⟩
noncomputable abbrev zq88.E : V.Env := V.mkE V.tys [] [(4, [0, 1, 5], [])] [] [] [] []
noncomputable abbrev zq88.kt (x0 : List Int) (x1 : Int) : V.Kt TKeys := V.ktOf zq88.E zq88.con Tryz.f80 ((x0, x1) : List Int × Int)
noncomputable abbrev zq88.s4 (v4_0 : Int) (v4_1 : Int) (v4_2 : List Int) : V.St := ⟨[(0, .v false [.ref 0]), (1, .v false [.val (.int .i64 v4_0)]), (5, .v false [.val (.int .i64 v4_1)])], [(0, .row (.cons (.int .i64) .nil) true v4_2)]⟩
theorem zq88.r4 (x0 : List Int) (x1 : Int) (R : V.St → Option TKeys) (v4_0 : Int) (v4_1 : Int) (v4_2 : List Int) : V.loopF zq88.E Tryz.f80.ntmps [1, 0, 1, 0] [] (V.codeOf Tryz.f80) (zq88.kt x0 x1) R (zq88.s4 v4_0 v4_1 v4_2) = zq88.g4 (fun v4_0 v4_1 v4_2 => R (zq88.s4 v4_0 v4_1 v4_2)) v4_0 v4_1 v4_2 := by kernel_rfl
theorem zq88.e4 (x0 : List Int) (x1 : Int) : ∀ (n : Nat) (v4_0 : Int) (v4_1 : Int) (v4_2 : List Int), V.loopN (V.loopF zq88.E Tryz.f80.ntmps [1, 0, 1, 0] [] (V.codeOf Tryz.f80) (zq88.kt x0 x1)) n (zq88.s4 v4_0 v4_1 v4_2) = zq88.l4 n v4_0 v4_1 v4_2 := by
  intro n
  induction n with
  | zero => intros; rw [V.loopN_z]; rfl
  | succ n ih =>
    intro v4_0 v4_1 v4_2
    rw [V.loopN_s, zq88.r4]
    simp only [ih]
    first | exact (zq88.u4 ..).symm | rfl
theorem zq88.v (x0 : List Int) (x1 : Int) : V.evBody zq88.E zq88.con Tryz.f80 ((x0, x1) : List Int × Int) = zq88.b x0 x1 (fun v4_0 v4_1 v4_2 => V.loopN (V.loopF zq88.E Tryz.f80.ntmps [1, 0, 1, 0] [] (V.codeOf Tryz.f80) (zq88.kt x0 x1)) V.KK (zq88.s4 v4_0 v4_1 v4_2)) := by kernel_rfl
theorem zq88.eq (x0 : List Int) (x1 : Int) : V.evBody zq88.E zq88.con Tryz.f80 ((x0, x1) : List Int × Int) = zq88 x0 x1 := by
  rw [zq88.v]
  simp only [zq88.e4]
  rfl
theorem zq88.ok : V.Valid Tryz.prog 80 zq88.con :=
  V.fo V.tab_nil Tryz.func80 (by kernel_rfl) (fun x y h => (show V.evBody zq88.E zq88.con Tryz.f80 x = _ from zq88.eq x.1 x.2).trans (V.cfl (by kernel_rfl) h))
noncomputable abbrev zq90.con : V.Con := ⟨(.cons (.sl (.cons (.int .i64) (.cons (.int .i64) .nil))) (.cons (.int .i64) .nil)), (.cons (.sl (.cons (.int .i64) (.cons (.int .i64) .nil))) (.cons (.int .i64) .nil)), fun (x : List TSig × Int) => zq90 x.1 x.2, [(0, false)], [(false, 1), (false, 1)], [(false, 1)], [false], []⟩
noncomputable abbrev zq90.E : V.Env := V.mkE V.tys [] [(4, [0, 1, 5], [])] [] [] [] []
noncomputable abbrev zq90.kt (x0 : List TSig) (x1 : Int) : V.Kt (List TSig × Int) := V.ktOf zq90.E zq90.con Tryz.f109 ((x0, x1) : List TSig × Int)
noncomputable abbrev zq90.s4 (v4_0 : Int) (v4_1 : Int) (v4_2 : List TSig) : V.St := ⟨[(0, .v false [.ref 0]), (1, .v false [.val (.int .i64 v4_0)]), (5, .v false [.val (.int .i64 v4_1)])], [(0, .row (.cons (.int .i64) (.cons (.int .i64) .nil)) true v4_2)]⟩
theorem zq90.r4 (x0 : List TSig) (x1 : Int) (R : V.St → Option (List TSig × Int)) (v4_0 : Int) (v4_1 : Int) (v4_2 : List TSig) : V.loopF zq90.E Tryz.f109.ntmps [1, 0, 1, 0] [] (V.codeOf Tryz.f109) (zq90.kt x0 x1) R (zq90.s4 v4_0 v4_1 v4_2) = zq90.g4 (fun v4_0 v4_1 v4_2 => R (zq90.s4 v4_0 v4_1 v4_2)) v4_0 v4_1 v4_2 := by kernel_rfl
theorem zq90.e4 (x0 : List TSig) (x1 : Int) : ∀ (n : Nat) (v4_0 : Int) (v4_1 : Int) (v4_2 : List TSig), V.loopN (V.loopF zq90.E Tryz.f109.ntmps [1, 0, 1, 0] [] (V.codeOf Tryz.f109) (zq90.kt x0 x1)) n (zq90.s4 v4_0 v4_1 v4_2) = zq90.l4 n v4_0 v4_1 v4_2 := by
  intro n
  induction n with
  | zero => intros; rw [V.loopN_z]; rfl
  | succ n ih =>
    intro v4_0 v4_1 v4_2
    rw [V.loopN_s, zq90.r4]
    simp only [ih]
    first | exact (zq90.u4 ..).symm | rfl
theorem zq90.v (x0 : List TSig) (x1 : Int) : V.evBody zq90.E zq90.con Tryz.f109 ((x0, x1) : List TSig × Int) = zq90.b x0 x1 (fun v4_0 v4_1 v4_2 => V.loopN (V.loopF zq90.E Tryz.f109.ntmps [1, 0, 1, 0] [] (V.codeOf Tryz.f109) (zq90.kt x0 x1)) V.KK (zq90.s4 v4_0 v4_1 v4_2)) := by kernel_rfl
theorem zq90.eq (x0 : List TSig) (x1 : Int) : V.evBody zq90.E zq90.con Tryz.f109 ((x0, x1) : List TSig × Int) = zq90 x0 x1 := by
  rw [zq90.v]
  simp only [zq90.e4]
  rfl
theorem zq90.ok : V.Valid Tryz.prog 109 zq90.con :=
  V.fo V.tab_nil Tryz.func109 (by kernel_rfl) (fun x y h => (show V.evBody zq90.E zq90.con Tryz.f109 x = _ from zq90.eq x.1 x.2).trans (V.cfl (by kernel_rfl) h))
noncomputable abbrev zq91.con : V.Con := ⟨(.cons (.sl V.eSigned) (.cons (.int .i64) .nil)), (.cons (.sl V.eSigned) (.cons (.int .i64) .nil)), fun (x : List TSigned × Int) => zq91 x.1 x.2, [(0, false)], [(false, 1), (false, 1)], [(false, 1)], [false], []⟩
noncomputable abbrev zq91.E : V.Env := V.mkE V.tys [(80, zq88.con), (109, zq90.con)] [(4, [0, 1, 5], [])] [] [] [] []
noncomputable abbrev zq91.kt (x0 : List TSigned) (x1 : Int) : V.Kt (List TSigned × Int) := V.ktOf zq91.E zq91.con Tryz.f32 ((x0, x1) : List TSigned × Int)
noncomputable abbrev zq91.s4 (v4_0 : Int) (v4_1 : Int) (v4_2 : List TSigned) : V.St := ⟨[(0, .v false [.ref 0]), (1, .v false [.val (.int .i64 v4_0)]), (5, .v false [.val (.int .i64 v4_1)])], [(0, .row V.eSigned true v4_2)]⟩
theorem zq91.r4 (x0 : List TSigned) (x1 : Int) (R : V.St → Option (List TSigned × Int)) (v4_0 : Int) (v4_1 : Int) (v4_2 : List TSigned) : V.loopF zq91.E Tryz.f32.ntmps [1, 0, 1, 0] [] (V.codeOf Tryz.f32) (zq91.kt x0 x1) R (zq91.s4 v4_0 v4_1 v4_2) = zq91.g4 (fun v4_0 v4_1 v4_2 => R (zq91.s4 v4_0 v4_1 v4_2)) v4_0 v4_1 v4_2 := by kernel_rfl
theorem zq91.e4 (x0 : List TSigned) (x1 : Int) : ∀ (n : Nat) (v4_0 : Int) (v4_1 : Int) (v4_2 : List TSigned), V.loopN (V.loopF zq91.E Tryz.f32.ntmps [1, 0, 1, 0] [] (V.codeOf Tryz.f32) (zq91.kt x0 x1)) n (zq91.s4 v4_0 v4_1 v4_2) = zq91.l4 n v4_0 v4_1 v4_2 := by
  intro n
  induction n with
  | zero => intros; rw [V.loopN_z]; rfl
  | succ n ih =>
    intro v4_0 v4_1 v4_2
    rw [V.loopN_s, zq91.r4]
    simp only [ih]
    first | exact (zq91.u4 ..).symm | rfl
theorem zq91.v (x0 : List TSigned) (x1 : Int) : V.evBody zq91.E zq91.con Tryz.f32 ((x0, x1) : List TSigned × Int) = zq91.b x0 x1 (fun v4_0 v4_1 v4_2 => V.loopN (V.loopF zq91.E Tryz.f32.ntmps [1, 0, 1, 0] [] (V.codeOf Tryz.f32) (zq91.kt x0 x1)) V.KK (zq91.s4 v4_0 v4_1 v4_2)) := by kernel_rfl
theorem zq91.eq (x0 : List TSigned) (x1 : Int) : V.evBody zq91.E zq91.con Tryz.f32 ((x0, x1) : List TSigned × Int) = zq91 x0 x1 := by
  rw [zq91.v]
  simp only [zq91.e4]
  rfl
theorem zq91.ok : V.Valid Tryz.prog 32 zq91.con :=
  V.fo (V.tab_cons zq88.ok (V.tab_cons zq90.ok V.tab_nil)) Tryz.func32 (by kernel_rfl) (fun x y h => (show V.evBody zq91.E zq91.con Tryz.f32 x = _ from zq91.eq x.1 x.2).trans (V.cfl (by kernel_rfl) h))
noncomputable abbrev zq93.con : V.Con := ⟨(.cons (.int .i64) .nil), (.cons .str .nil), fun (x : Int) => zq93 x, [], [(false, 1)], [(false, 1)], [false], []⟩
noncomputable abbrev zq93.E : V.Env := V.mkE V.tys [] [(8, [0, 3], [])] [] [] [] []
noncomputable abbrev zq93.kt (x0 : Int) : V.Kt ByteArray := V.ktOf zq93.E zq93.con Tryz.f95 ((x0) : Int)
noncomputable abbrev zq93.s8 (v8_0 : Int) (v8_1 : ByteArray) : V.St := ⟨[(0, .v false [.val (.int .i64 v8_0)]), (3, .v false [.val (.str v8_1)])], []⟩
theorem zq93.r8 (x0 : Int) (R : V.St → Option ByteArray) (v8_0 : Int) (v8_1 : ByteArray) : V.loopF zq93.E Tryz.f95.ntmps [1, 1, 1, 0, 0] [] (V.codeOf Tryz.f95) (zq93.kt x0) R (zq93.s8 v8_0 v8_1) = zq93.g8 (fun v8_0 v8_1 => R (zq93.s8 v8_0 v8_1)) v8_0 v8_1 := by kernel_rfl
theorem zq93.e8 (x0 : Int) : ∀ (n : Nat) (v8_0 : Int) (v8_1 : ByteArray), V.loopN (V.loopF zq93.E Tryz.f95.ntmps [1, 1, 1, 0, 0] [] (V.codeOf Tryz.f95) (zq93.kt x0)) n (zq93.s8 v8_0 v8_1) = zq93.l8 n v8_0 v8_1 := by
  intro n
  induction n with
  | zero => intros; rw [V.loopN_z]; rfl
  | succ n ih =>
    intro v8_0 v8_1
    rw [V.loopN_s, zq93.r8]
    simp only [ih]
    first | exact (zq93.u8 ..).symm | rfl
theorem zq93.v (x0 : Int) : V.evBody zq93.E zq93.con Tryz.f95 ((x0) : Int) = zq93.b x0 (fun v8_0 v8_1 => V.loopN (V.loopF zq93.E Tryz.f95.ntmps [1, 1, 1, 0, 0] [] (V.codeOf Tryz.f95) (zq93.kt x0)) V.KK (zq93.s8 v8_0 v8_1)) := by kernel_rfl
theorem zq93.eq (x0 : Int) : V.evBody zq93.E zq93.con Tryz.f95 ((x0) : Int) = zq93 x0 := by
  rw [zq93.v]
  simp only [zq93.e8]
  rfl
theorem zq93.ok : V.Valid Tryz.prog 95 zq93.con :=
  V.fo V.tab_nil Tryz.func95 (by kernel_rfl) (fun x y h => (show V.evBody zq93.E zq93.con Tryz.f95 x = _ from zq93.eq x).trans (V.cfl (by kernel_rfl) h))
noncomputable abbrev zq92.con : V.Con := ⟨(.cons (.sl (.cons .str .nil)) (.cons (.int .i64) .nil)), (.cons (.sl (.cons .str .nil)) (.cons (.int .i64) .nil)), fun (x : List ByteArray × Int) => zq92 x.1 x.2, [(0, false)], [(false, 1), (false, 1)], [(false, 1)], [false], []⟩
noncomputable abbrev zq92.E : V.Env := V.mkE V.tys [(95, zq93.con)] [(4, [0, 1, 5], [])] [] [] [] []
noncomputable abbrev zq92.kt (x0 : List ByteArray) (x1 : Int) : V.Kt (List ByteArray × Int) := V.ktOf zq92.E zq92.con Tryz.f96 ((x0, x1) : List ByteArray × Int)
noncomputable abbrev zq92.s4 (v4_0 : Int) (v4_1 : Int) (v4_2 : List ByteArray) : V.St := ⟨[(0, .v false [.ref 0]), (1, .v false [.val (.int .i64 v4_0)]), (5, .v false [.val (.int .i64 v4_1)])], [(0, .row (.cons .str .nil) true v4_2)]⟩
theorem zq92.r4 (x0 : List ByteArray) (x1 : Int) (R : V.St → Option (List ByteArray × Int)) (v4_0 : Int) (v4_1 : Int) (v4_2 : List ByteArray) : V.loopF zq92.E Tryz.f96.ntmps [1, 0, 1, 0] [] (V.codeOf Tryz.f96) (zq92.kt x0 x1) R (zq92.s4 v4_0 v4_1 v4_2) = zq92.g4 (fun v4_0 v4_1 v4_2 => R (zq92.s4 v4_0 v4_1 v4_2)) v4_0 v4_1 v4_2 := by kernel_rfl
theorem zq92.e4 (x0 : List ByteArray) (x1 : Int) : ∀ (n : Nat) (v4_0 : Int) (v4_1 : Int) (v4_2 : List ByteArray), V.loopN (V.loopF zq92.E Tryz.f96.ntmps [1, 0, 1, 0] [] (V.codeOf Tryz.f96) (zq92.kt x0 x1)) n (zq92.s4 v4_0 v4_1 v4_2) = zq92.l4 n v4_0 v4_1 v4_2 := by
  intro n
  induction n with
  | zero => intros; rw [V.loopN_z]; rfl
  | succ n ih =>
    intro v4_0 v4_1 v4_2
    rw [V.loopN_s, zq92.r4]
    simp only [ih]
    first | exact (zq92.u4 ..).symm | rfl
theorem zq92.v (x0 : List ByteArray) (x1 : Int) : V.evBody zq92.E zq92.con Tryz.f96 ((x0, x1) : List ByteArray × Int) = zq92.b x0 x1 (fun v4_0 v4_1 v4_2 => V.loopN (V.loopF zq92.E Tryz.f96.ntmps [1, 0, 1, 0] [] (V.codeOf Tryz.f96) (zq92.kt x0 x1)) V.KK (zq92.s4 v4_0 v4_1 v4_2)) := by kernel_rfl
theorem zq92.eq (x0 : List ByteArray) (x1 : Int) : V.evBody zq92.E zq92.con Tryz.f96 ((x0, x1) : List ByteArray × Int) = zq92 x0 x1 := by
  rw [zq92.v]
  simp only [zq92.e4]
  rfl
theorem zq92.ok : V.Valid Tryz.prog 96 zq92.con :=
  V.fo (V.tab_cons zq93.ok V.tab_nil) Tryz.func96 (by kernel_rfl) (fun x y h => (show V.evBody zq92.E zq92.con Tryz.f96 x = _ from zq92.eq x.1 x.2).trans (V.cfl (by kernel_rfl) h))
noncomputable abbrev zq86.con : V.Con := ⟨(.cons (.sl V.eEntry) (.cons (.int .i64) .nil)), (.cons (.sl V.eEntry) (.cons (.int .i64) .nil)), fun (x : List TEntry × Int) => zq86 x.1 x.2, [(0, false)], [(false, 1), (false, 1)], [(false, 1)], [false], []⟩
noncomputable abbrev zq86.E : V.Env := V.mkE V.tys [(95, zq93.con), (96, zq92.con)] [(4, [0, 1, 5], [])] [] [] [] []
noncomputable abbrev zq86.kt (x0 : List TEntry) (x1 : Int) : V.Kt (List TEntry × Int) := V.ktOf zq86.E zq86.con Tryz.f24 ((x0, x1) : List TEntry × Int)
noncomputable abbrev zq86.s4 (v4_0 : Int) (v4_1 : Int) (v4_2 : List TEntry) : V.St := ⟨[(0, .v false [.ref 0]), (1, .v false [.val (.int .i64 v4_0)]), (5, .v false [.val (.int .i64 v4_1)])], [(0, .row V.eEntry true v4_2)]⟩
theorem zq86.r4 (x0 : List TEntry) (x1 : Int) (R : V.St → Option (List TEntry × Int)) (v4_0 : Int) (v4_1 : Int) (v4_2 : List TEntry) : V.loopF zq86.E Tryz.f24.ntmps [1, 0, 1, 0] [] (V.codeOf Tryz.f24) (zq86.kt x0 x1) R (zq86.s4 v4_0 v4_1 v4_2) = zq86.g4 (fun v4_0 v4_1 v4_2 => R (zq86.s4 v4_0 v4_1 v4_2)) v4_0 v4_1 v4_2 := by kernel_rfl
theorem zq86.e4 (x0 : List TEntry) (x1 : Int) : ∀ (n : Nat) (v4_0 : Int) (v4_1 : Int) (v4_2 : List TEntry), V.loopN (V.loopF zq86.E Tryz.f24.ntmps [1, 0, 1, 0] [] (V.codeOf Tryz.f24) (zq86.kt x0 x1)) n (zq86.s4 v4_0 v4_1 v4_2) = zq86.l4 n v4_0 v4_1 v4_2 := by
  intro n
  induction n with
  | zero => intros; rw [V.loopN_z]; rfl
  | succ n ih =>
    intro v4_0 v4_1 v4_2
    rw [V.loopN_s, zq86.r4]
    simp only [ih]
    first | exact (zq86.u4 ..).symm | rfl
theorem zq86.v (x0 : List TEntry) (x1 : Int) : V.evBody zq86.E zq86.con Tryz.f24 ((x0, x1) : List TEntry × Int) = zq86.b x0 x1 (fun v4_0 v4_1 v4_2 => V.loopN (V.loopF zq86.E Tryz.f24.ntmps [1, 0, 1, 0] [] (V.codeOf Tryz.f24) (zq86.kt x0 x1)) V.KK (zq86.s4 v4_0 v4_1 v4_2)) := by kernel_rfl
theorem zq86.eq (x0 : List TEntry) (x1 : Int) : V.evBody zq86.E zq86.con Tryz.f24 ((x0, x1) : List TEntry × Int) = zq86 x0 x1 := by
  rw [zq86.v]
  simp only [zq86.e4]
  rfl
theorem zq86.ok : V.Valid Tryz.prog 24 zq86.con :=
  V.fo (V.tab_cons zq93.ok (V.tab_cons zq92.ok V.tab_nil)) Tryz.func24 (by kernel_rfl) (fun x y h => (show V.evBody zq86.E zq86.con Tryz.f24 x = _ from zq86.eq x.1 x.2).trans (V.cfl (by kernel_rfl) h))
noncomputable abbrev zq94.con : V.Con := ⟨(.cons (.sl V.eSigned) (.cons (.sl V.eEntry) (.cons (.int .i64) .nil))), (.cons (.sl V.eSigned) (.cons (.sl V.eEntry) (.cons (.int .i64) .nil))), fun (x : List TSigned × List TEntry × Int) => zq94 (x.1, x.2.1) x.2.2, [(0, false), (1, false)], [(true, 2), (false, 1)], [(false, 1)], [false], []⟩
noncomputable abbrev zq94.E : V.Env := V.mkE V.tys [(24, zq86.con), (32, zq91.con)] [] [] [] [] []
theorem zq94.eq (x0 : TZone) (x1 : Int) : V.evBody zq94.E zq94.con Tryz.f56 ((x0.1, x0.2, x1) : List TSigned × List TEntry × Int) = zq94 x0 x1 := by kernel_rfl
theorem zq94.ok : V.Valid Tryz.prog 56 zq94.con :=
  V.fo (V.tab_cons zq86.ok (V.tab_cons zq91.ok V.tab_nil)) Tryz.func56 (by kernel_rfl) (fun x y h => (show V.evBody zq94.E zq94.con Tryz.f56 x = _ from zq94.eq (x.1, x.2.1) x.2.2).trans (V.cfl (by kernel_rfl) h))
noncomputable abbrev zq89.con : V.Con := ⟨(.cons (.sl (.cons (.int .i64) .nil)) (.cons (.int .i64) (.cons (.int .i64) .nil))), (.cons (.sl (.cons (.int .i64) .nil)) (.cons (.int .i64) .nil)), fun (x : List Int × Int × Int) => zq89 (x.1, x.2.1) x.2.2, [(0, false)], [(true, 2), (false, 1)], [(false, 1)], [false], []⟩
noncomputable abbrev zq89.E : V.Env := V.mkE V.tys [(80, zq88.con)] [] [] [] [] []
theorem zq89.eq (x0 : TKeys) (x1 : Int) : V.evBody zq89.E zq89.con Tryz.f55 ((x0.1, x0.2, x1) : List Int × Int × Int) = zq89 x0 x1 := by kernel_rfl
theorem zq89.ok : V.Valid Tryz.prog 55 zq89.con :=
  V.fo (V.tab_cons zq88.ok V.tab_nil) Tryz.func55 (by kernel_rfl) (fun x y h => (show V.evBody zq89.E zq89.con Tryz.f55 x = _ from zq89.eq (x.1, x.2.1) x.2.2).trans (V.cfl (by kernel_rfl) h))
noncomputable abbrev zq87.con : V.Con := ⟨V.A0, (.cons (.sl (.cons (.int .i64) .nil)) (.cons (.sl (.cons (.int .i64) .nil)) (.cons (.sl (.cons (.int .i64) .nil)) (.cons (.int .i64) .nil)))), fun (x : V.D0) => zq87 (V.p0_0 x) (V.p0_1 x), [(8, false), (10, false), (13, false)], [(true, 16), (false, 1)], [(false, 1)], [false], []⟩
noncomputable abbrev zq87.E : V.Env := V.mkE V.tys [(55, zq89.con)] [] [] [] [] []
noncomputable abbrev zq87.kt (x0 : THead) (x1 : Int) : V.Kt (List Int × List Int × List Int × Int) := V.ktOf zq87.E zq87.con Tryz.f23 (V.fl0 x0 x1)
noncomputable abbrev zq87.s (x0 : THead) (x1 : Int) : V.St := ⟨[(0, .v true [.val (.int .i64 x0.1), .val (.int .i64 x0.2.1), .val (.int .i64 x0.2.2.1), .val (.int .i64 x0.2.2.2.1), .val (.int .i64 x0.2.2.2.2.1), .val (.int .i64 x0.2.2.2.2.2.1), .val (.int .i64 x0.2.2.2.2.2.2.1), .val (.int .i64 x0.2.2.2.2.2.2.2.1), .ref 8, .val (.int .i64 x0.2.2.2.2.2.2.2.2.2.1), .ref 10, .val (.int .i64 x0.2.2.2.2.2.2.2.2.2.2.2.1), .val (.int .i64 x0.2.2.2.2.2.2.2.2.2.2.2.2.1), .ref 13, .val (.int .i64 x0.2.2.2.2.2.2.2.2.2.2.2.2.2.2.1), .val (.bool x0.2.2.2.2.2.2.2.2.2.2.2.2.2.2.2)]), (1, .v false [.val (.int .i64 x1)])], [(8, .row (.cons (.int .i64) .nil) true x0.2.2.2.2.2.2.2.2.1), (10, .row (.cons (.int .i64) .nil) true x0.2.2.2.2.2.2.2.2.2.2.1), (13, .row (.cons (.int .i64) .nil) true x0.2.2.2.2.2.2.2.2.2.2.2.2.2.1)]⟩
theorem zq87.v0 (x0 : THead) (x1 : Int) : V.evBody zq87.E zq87.con Tryz.f23 (V.fl0 x0 x1) = V.evC zq87.E Tryz.f23.ntmps (V.codeOf Tryz.f23) (zq87.kt x0 x1) (zq87.s x0 x1) := by kernel_rfl
theorem zq87.v (x0 : THead) (x1 : Int) : V.evC zq87.E Tryz.f23.ntmps (V.codeOf Tryz.f23) (zq87.kt x0 x1) (zq87.s x0 x1) = zq87 x0 x1 := by kernel_rfl
theorem zq87.eq (x0 : THead) (x1 : Int) : V.evBody zq87.E zq87.con Tryz.f23 (V.fl0 x0 x1) = zq87 x0 x1 := (zq87.v0 x0 x1).trans (zq87.v x0 x1)
theorem zq87.ok : V.Valid Tryz.prog 23 zq87.con :=
  V.fo (V.tab_cons zq89.ok V.tab_nil) Tryz.func23 (by kernel_rfl) (fun x y h => (show V.evBody zq87.E zq87.con Tryz.f23 x = _ from zq87.eq (V.p0_0 x) (V.p0_1 x)).trans (V.cfl (by kernel_rfl) h))
noncomputable abbrev zq81.con : V.Con := ⟨(.cons (.sl (.cons (.int .i64) .nil)) (.cons (.int .i64) .nil)), (.cons (.int .i64) .nil), fun (x : List Int × Int) => zq81 x.1 x.2, [], [(false, 1), (false, 1)], [(false, 1)], [false], []⟩
noncomputable abbrev zq81.E : V.Env := V.mkE V.tys [] [(4, [0, 1, 5], [])] [] [] [] []
noncomputable abbrev zq81.kt (x0 : List Int) (x1 : Int) : V.Kt Int := V.ktOf zq81.E zq81.con Tryz.f201 ((x0, x1) : List Int × Int)
noncomputable abbrev zq81.s4 (x0 : List Int) (v4_1 : Int) (v4_2 : Int) : V.St := ⟨[(0, .v false [.val (.sl (.cons (.int .i64) .nil) x0)]), (1, .v false [.val (.int .i64 v4_1)]), (5, .v false [.val (.int .i64 v4_2)])], []⟩
theorem zq81.r4 (x0 : List Int) (x1 : Int) (R : V.St → Option Int) (v4_1 : Int) (v4_2 : Int) : V.loopF zq81.E Tryz.f201.ntmps [1, 0, 1, 0] [] (V.codeOf Tryz.f201) (zq81.kt x0 x1) R (zq81.s4 x0 v4_1 v4_2) = zq81.g4 x0 (fun v4_1 v4_2 => R (zq81.s4 x0 v4_1 v4_2)) v4_1 v4_2 := by kernel_rfl
theorem zq81.e4 (x0 : List Int) (x1 : Int) : ∀ (n : Nat) (v4_1 : Int) (v4_2 : Int), V.loopN (V.loopF zq81.E Tryz.f201.ntmps [1, 0, 1, 0] [] (V.codeOf Tryz.f201) (zq81.kt x0 x1)) n (zq81.s4 x0 v4_1 v4_2) = zq81.l4 x0 n v4_1 v4_2 := by
  intro n
  induction n with
  | zero => intros; rw [V.loopN_z]; rfl
  | succ n ih =>
    intro v4_1 v4_2
    rw [V.loopN_s, zq81.r4]
    simp only [ih]
    first | exact (zq81.u4 ..).symm | rfl
theorem zq81.v (x0 : List Int) (x1 : Int) : V.evBody zq81.E zq81.con Tryz.f201 ((x0, x1) : List Int × Int) = zq81.b x0 x1 (fun v4_1 v4_2 => V.loopN (V.loopF zq81.E Tryz.f201.ntmps [1, 0, 1, 0] [] (V.codeOf Tryz.f201) (zq81.kt x0 x1)) V.KK (zq81.s4 x0 v4_1 v4_2)) := by kernel_rfl
theorem zq81.eq (x0 : List Int) (x1 : Int) : V.evBody zq81.E zq81.con Tryz.f201 ((x0, x1) : List Int × Int) = zq81 x0 x1 := by
  rw [zq81.v]
  simp only [zq81.e4]
  rfl
theorem zq81.ok : V.Valid Tryz.prog 201 zq81.con :=
  V.fo V.tab_nil Tryz.func201 (by kernel_rfl) (fun x y h => (show V.evBody zq81.E zq81.con Tryz.f201 x = _ from zq81.eq x.1 x.2).trans (V.cfl (by kernel_rfl) h))
noncomputable abbrev zq82.con : V.Con := ⟨(.cons (.sl (.cons (.int .i64) (.cons (.int .i64) .nil))) (.cons (.int .i64) .nil)), (.cons (.int .i64) .nil), fun (x : List TSig × Int) => zq82 x.1 x.2, [], [(false, 1), (false, 1)], [(false, 1)], [false], []⟩
noncomputable abbrev zq82.E : V.Env := V.mkE V.tys [] [(4, [0, 1, 5], [])] [] [] [] []
noncomputable abbrev zq82.kt (x0 : List TSig) (x1 : Int) : V.Kt Int := V.ktOf zq82.E zq82.con Tryz.f213 ((x0, x1) : List TSig × Int)
noncomputable abbrev zq82.s4 (x0 : List TSig) (v4_1 : Int) (v4_2 : Int) : V.St := ⟨[(0, .v false [.val (.sl (.cons (.int .i64) (.cons (.int .i64) .nil)) x0)]), (1, .v false [.val (.int .i64 v4_1)]), (5, .v false [.val (.int .i64 v4_2)])], []⟩
theorem zq82.r4 (x0 : List TSig) (x1 : Int) (R : V.St → Option Int) (v4_1 : Int) (v4_2 : Int) : V.loopF zq82.E Tryz.f213.ntmps [1, 0, 1, 0] [] (V.codeOf Tryz.f213) (zq82.kt x0 x1) R (zq82.s4 x0 v4_1 v4_2) = zq82.g4 x0 (fun v4_1 v4_2 => R (zq82.s4 x0 v4_1 v4_2)) v4_1 v4_2 := by kernel_rfl
theorem zq82.e4 (x0 : List TSig) (x1 : Int) : ∀ (n : Nat) (v4_1 : Int) (v4_2 : Int), V.loopN (V.loopF zq82.E Tryz.f213.ntmps [1, 0, 1, 0] [] (V.codeOf Tryz.f213) (zq82.kt x0 x1)) n (zq82.s4 x0 v4_1 v4_2) = zq82.l4 x0 n v4_1 v4_2 := by
  intro n
  induction n with
  | zero => intros; rw [V.loopN_z]; rfl
  | succ n ih =>
    intro v4_1 v4_2
    rw [V.loopN_s, zq82.r4]
    simp only [ih]
    first | exact (zq82.u4 ..).symm | rfl
theorem zq82.v (x0 : List TSig) (x1 : Int) : V.evBody zq82.E zq82.con Tryz.f213 ((x0, x1) : List TSig × Int) = zq82.b x0 x1 (fun v4_1 v4_2 => V.loopN (V.loopF zq82.E Tryz.f213.ntmps [1, 0, 1, 0] [] (V.codeOf Tryz.f213) (zq82.kt x0 x1)) V.KK (zq82.s4 x0 v4_1 v4_2)) := by kernel_rfl
theorem zq82.eq (x0 : List TSig) (x1 : Int) : V.evBody zq82.E zq82.con Tryz.f213 ((x0, x1) : List TSig × Int) = zq82 x0 x1 := by
  rw [zq82.v]
  simp only [zq82.e4]
  rfl
theorem zq82.ok : V.Valid Tryz.prog 213 zq82.con :=
  V.fo V.tab_nil Tryz.func213 (by kernel_rfl) (fun x y h => (show V.evBody zq82.E zq82.con Tryz.f213 x = _ from zq82.eq x.1 x.2).trans (V.cfl (by kernel_rfl) h))
noncomputable abbrev zq83.con : V.Con := ⟨(.cons (.sl V.eSigned) (.cons (.int .i64) .nil)), (.cons (.int .i64) .nil), fun (x : List TSigned × Int) => zq83 x.1 x.2, [], [(false, 1), (false, 1)], [(false, 1)], [false], []⟩
noncomputable abbrev zq83.E : V.Env := V.mkE V.tys [(201, zq81.con), (213, zq82.con)] [(4, [0, 1, 5], [])] [] [] [] []
noncomputable abbrev zq83.kt (x0 : List TSigned) (x1 : Int) : V.Kt Int := V.ktOf zq83.E zq83.con Tryz.f144 ((x0, x1) : List TSigned × Int)
noncomputable abbrev zq83.s4 (x0 : List TSigned) (v4_1 : Int) (v4_2 : Int) : V.St := ⟨[(0, .v false [.val (.sl V.eSigned x0)]), (1, .v false [.val (.int .i64 v4_1)]), (5, .v false [.val (.int .i64 v4_2)])], []⟩
theorem zq83.r4 (x0 : List TSigned) (x1 : Int) (R : V.St → Option Int) (v4_1 : Int) (v4_2 : Int) : V.loopF zq83.E Tryz.f144.ntmps [1, 0, 1, 0] [] (V.codeOf Tryz.f144) (zq83.kt x0 x1) R (zq83.s4 x0 v4_1 v4_2) = zq83.g4 x0 (fun v4_1 v4_2 => R (zq83.s4 x0 v4_1 v4_2)) v4_1 v4_2 := by kernel_rfl
theorem zq83.e4 (x0 : List TSigned) (x1 : Int) : ∀ (n : Nat) (v4_1 : Int) (v4_2 : Int), V.loopN (V.loopF zq83.E Tryz.f144.ntmps [1, 0, 1, 0] [] (V.codeOf Tryz.f144) (zq83.kt x0 x1)) n (zq83.s4 x0 v4_1 v4_2) = zq83.l4 x0 n v4_1 v4_2 := by
  intro n
  induction n with
  | zero => intros; rw [V.loopN_z]; rfl
  | succ n ih =>
    intro v4_1 v4_2
    rw [V.loopN_s, zq83.r4]
    simp only [ih]
    first | exact (zq83.u4 ..).symm | rfl
theorem zq83.v (x0 : List TSigned) (x1 : Int) : V.evBody zq83.E zq83.con Tryz.f144 ((x0, x1) : List TSigned × Int) = zq83.b x0 x1 (fun v4_1 v4_2 => V.loopN (V.loopF zq83.E Tryz.f144.ntmps [1, 0, 1, 0] [] (V.codeOf Tryz.f144) (zq83.kt x0 x1)) V.KK (zq83.s4 x0 v4_1 v4_2)) := by kernel_rfl
theorem zq83.eq (x0 : List TSigned) (x1 : Int) : V.evBody zq83.E zq83.con Tryz.f144 ((x0, x1) : List TSigned × Int) = zq83 x0 x1 := by
  rw [zq83.v]
  simp only [zq83.e4]
  rfl
theorem zq83.ok : V.Valid Tryz.prog 144 zq83.con :=
  V.fo (V.tab_cons zq81.ok (V.tab_cons zq82.ok V.tab_nil)) Tryz.func144 (by kernel_rfl) (fun x y h => (show V.evBody zq83.E zq83.con Tryz.f144 x = _ from zq83.eq x.1 x.2).trans (V.cfl (by kernel_rfl) h))
noncomputable abbrev zq84.con : V.Con := ⟨(.cons (.sl (.cons .str .nil)) (.cons (.int .i64) .nil)), (.cons (.int .i64) .nil), fun (x : List ByteArray × Int) => zq84 x.1 x.2, [], [(false, 1), (false, 1)], [(false, 1)], [false], []⟩
noncomputable abbrev zq84.E : V.Env := V.mkE V.tys [(95, zq93.con)] [(4, [0, 1, 5], [])] [(4, 6)] [] [] []
noncomputable abbrev zq84.kt (x0 : List ByteArray) (x1 : Int) : V.Kt Int := V.ktOf zq84.E zq84.con Tryz.f171 ((x0, x1) : List ByteArray × Int)
noncomputable abbrev zq84.s4 (x0 : List ByteArray) (v4_1 : Int) (v4_2 : Int) : V.St := ⟨[(0, .v false [.val (.sl (.cons .str .nil) x0)]), (1, .v false [.val (.int .i64 v4_1)]), (5, .v false [.val (.int .i64 v4_2)])], []⟩
theorem zq84.r4 (x0 : List ByteArray) (x1 : Int) (R : V.St → Option Int) (v4_1 : Int) (v4_2 : Int) : V.loopF zq84.E Tryz.f171.ntmps [1, 0, 1, 0] [] (V.codeOf Tryz.f171) (zq84.kt x0 x1) R (zq84.s4 x0 v4_1 v4_2) = zq84.g4 x0 (fun v4_1 v4_2 => R (zq84.s4 x0 v4_1 v4_2)) v4_1 v4_2 := by kernel_rfl
theorem zq84.e4 (x0 : List ByteArray) (x1 : Int) : ∀ (n : Nat) (v4_1 : Int) (v4_2 : Int), V.loopN (V.loopF zq84.E Tryz.f171.ntmps [1, 0, 1, 0] [] (V.codeOf Tryz.f171) (zq84.kt x0 x1)) n (zq84.s4 x0 v4_1 v4_2) = zq84.l4 x0 n v4_1 v4_2 := by
  intro n
  induction n with
  | zero => intros; rw [V.loopN_z]; rfl
  | succ n ih =>
    intro v4_1 v4_2
    rw [V.loopN_s, zq84.r4]
    simp only [ih]
    first | exact (zq84.u4 ..).symm | rfl
theorem zq84.v (x0 : List ByteArray) (x1 : Int) : V.evBody zq84.E zq84.con Tryz.f171 ((x0, x1) : List ByteArray × Int) = zq84.b x0 x1 (fun v4_1 v4_2 => V.loopN (V.loopF zq84.E Tryz.f171.ntmps [1, 0, 1, 0] [] (V.codeOf Tryz.f171) (zq84.kt x0 x1)) V.KK (zq84.s4 x0 v4_1 v4_2)) := by kernel_rfl
theorem zq84.eq (x0 : List ByteArray) (x1 : Int) : V.evBody zq84.E zq84.con Tryz.f171 ((x0, x1) : List ByteArray × Int) = zq84 x0 x1 := by
  rw [zq84.v]
  simp only [zq84.e4]
  rfl
theorem zq84.ok : V.Valid Tryz.prog 171 zq84.con :=
  V.fo (V.tab_cons zq93.ok V.tab_nil) Tryz.func171 (by kernel_rfl) (fun x y h => (show V.evBody zq84.E zq84.con Tryz.f171 x = _ from zq84.eq x.1 x.2).trans (V.cfl (by kernel_rfl) h))
noncomputable abbrev zq80.con : V.Con := ⟨(.cons (.sl V.eEntry) (.cons (.int .i64) .nil)), (.cons (.int .i64) .nil), fun (x : List TEntry × Int) => zq80 x.1 x.2, [], [(false, 1), (false, 1)], [(false, 1)], [false], []⟩
noncomputable abbrev zq80.E : V.Env := V.mkE V.tys [(95, zq93.con), (171, zq84.con)] [(4, [0, 1, 5], [])] [(4, 7)] [] [] []
noncomputable abbrev zq80.kt (x0 : List TEntry) (x1 : Int) : V.Kt Int := V.ktOf zq80.E zq80.con Tryz.f145 ((x0, x1) : List TEntry × Int)
noncomputable abbrev zq80.s4 (x0 : List TEntry) (v4_1 : Int) (v4_2 : Int) : V.St := ⟨[(0, .v false [.val (.sl V.eEntry x0)]), (1, .v false [.val (.int .i64 v4_1)]), (5, .v false [.val (.int .i64 v4_2)])], []⟩
theorem zq80.r4 (x0 : List TEntry) (x1 : Int) (R : V.St → Option Int) (v4_1 : Int) (v4_2 : Int) : V.loopF zq80.E Tryz.f145.ntmps [1, 0, 1, 0] [] (V.codeOf Tryz.f145) (zq80.kt x0 x1) R (zq80.s4 x0 v4_1 v4_2) = zq80.g4 x0 (fun v4_1 v4_2 => R (zq80.s4 x0 v4_1 v4_2)) v4_1 v4_2 := by kernel_rfl
theorem zq80.e4 (x0 : List TEntry) (x1 : Int) : ∀ (n : Nat) (v4_1 : Int) (v4_2 : Int), V.loopN (V.loopF zq80.E Tryz.f145.ntmps [1, 0, 1, 0] [] (V.codeOf Tryz.f145) (zq80.kt x0 x1)) n (zq80.s4 x0 v4_1 v4_2) = zq80.l4 x0 n v4_1 v4_2 := by
  intro n
  induction n with
  | zero => intros; rw [V.loopN_z]; rfl
  | succ n ih =>
    intro v4_1 v4_2
    rw [V.loopN_s, zq80.r4]
    simp only [ih]
    first | exact (zq80.u4 ..).symm | rfl
theorem zq80.v (x0 : List TEntry) (x1 : Int) : V.evBody zq80.E zq80.con Tryz.f145 ((x0, x1) : List TEntry × Int) = zq80.b x0 x1 (fun v4_1 v4_2 => V.loopN (V.loopF zq80.E Tryz.f145.ntmps [1, 0, 1, 0] [] (V.codeOf Tryz.f145) (zq80.kt x0 x1)) V.KK (zq80.s4 x0 v4_1 v4_2)) := by kernel_rfl
theorem zq80.eq (x0 : List TEntry) (x1 : Int) : V.evBody zq80.E zq80.con Tryz.f145 ((x0, x1) : List TEntry × Int) = zq80 x0 x1 := by
  rw [zq80.v]
  simp only [zq80.e4]
  rfl
theorem zq80.ok : V.Valid Tryz.prog 145 zq80.con :=
  V.fo (V.tab_cons zq93.ok (V.tab_cons zq84.ok V.tab_nil)) Tryz.func145 (by kernel_rfl) (fun x y h => (show V.evBody zq80.E zq80.con Tryz.f145 x = _ from zq80.eq x.1 x.2).trans (V.cfl (by kernel_rfl) h))
noncomputable abbrev zq85.con : V.Con := ⟨(.cons (.sl V.eSigned) (.cons (.sl V.eEntry) (.cons (.int .i64) .nil))), (.cons (.int .i64) .nil), fun (x : List TSigned × List TEntry × Int) => zq85 (x.1, x.2.1) x.2.2, [], [(true, 2), (false, 1)], [(false, 1)], [false], []⟩
noncomputable abbrev zq85.E : V.Env := V.mkE V.tys [(144, zq83.con), (145, zq80.con)] [] [] [] [] []
theorem zq85.eq (x0 : TZone) (x1 : Int) : V.evBody zq85.E zq85.con Tryz.f57 ((x0.1, x0.2, x1) : List TSigned × List TEntry × Int) = zq85 x0 x1 := by kernel_rfl
theorem zq85.ok : V.Valid Tryz.prog 57 zq85.con :=
  V.fo (V.tab_cons zq83.ok (V.tab_cons zq80.ok V.tab_nil)) Tryz.func57 (by kernel_rfl) (fun x y h => (show V.evBody zq85.E zq85.con Tryz.f57 x = _ from zq85.eq (x.1, x.2.1) x.2.2).trans (V.cfl (by kernel_rfl) h))
noncomputable abbrev zq68.con : V.Con := ⟨V.A9, (.cons .bool .nil), fun (x : V.D9) => zq68 (V.p9_0 x) (V.p9_1 x) (V.p9_2 x) (V.p9_3 x), [], [(true, 2), (false, 1), (true, 16), (false, 1)], [(false, 1)], [false], []⟩
noncomputable abbrev zq68.E : V.Env := V.mkE V.tys [(15, zq97.con), (16, zq96.con), (18, zq107.con), (19, zq106.con), (21, zq71.con), (22, zq70.con), (23, zq87.con), (24, zq86.con), (43, zq104.con), (45, zq115.con), (47, zq79.con), (56, zq94.con), (57, zq85.con), (76, zq162.con), (77, zq108.con), (78, zq35.con), (79, zq72.con), (80, zq88.con)] [(43, [1, 3, 4, 6, 10, 11, 12, 13, 14, 15, 16, 17], []), (73, [1, 3, 4, 6, 10, 11, 16], []), (95, [16, 19], [])] [(13, 13), (21, 3), (25, 3), (44, 13)] [] [] []
noncomputable abbrev zq68.kt (x0 : TZone) (x1 : List Int) (x2 : THead) (x3 : List TEntry) : V.Kt Bool := V.ktOf zq68.E zq68.con Tryz.f13 (V.fl9 x0 x1 x2 x3)
noncomputable abbrev zq68.s95 (y28 : TRZoneInt) : V.St := ⟨[(16, .v false [.ptr 1216512 0]), (19, .v false [.val (.int .i64 y28.2.2)])], [(1216512, .box [.ref 64000000000077856768, .ref 64000000000077856769]), (64000000000077856768, .row V.eSigned true y28.1), (64000000000077856769, .row V.eEntry true y28.2.1)]⟩
noncomputable abbrev zq68.s73 (x0 : TZone) (x1 : List Int) (x2 : THead) (x3 : List TEntry) (y8 : TRZoneInt) (y13 : TRZoneInt) : V.St := ⟨[(1, .v false [.val (.sl (.cons (.int .i64) .nil) x1)]), (3, .v false [.val (.sl V.eEntry x3)]), (4, .v false [.ptr 64000 0]), (6, .v false [.ptr 64064 0]), (10, .v false [.ptr 896768 0]), (11, .v false [.val (.int .i64 y8.2.2)]), (16, .v false [.ptr 1216512 0])], [(64000, .box [.val (.sl V.eSigned x0.1), .val (.sl V.eEntry x0.2)]), (64064, .box [.val (.int .i64 x2.1), .val (.int .i64 x2.2.1), .val (.int .i64 x2.2.2.1), .val (.int .i64 x2.2.2.2.1), .val (.int .i64 x2.2.2.2.2.1), .val (.int .i64 x2.2.2.2.2.2.1), .val (.int .i64 x2.2.2.2.2.2.2.1), .val (.int .i64 x2.2.2.2.2.2.2.2.1), .val (.sl (.cons (.int .i64) .nil) x2.2.2.2.2.2.2.2.2.1), .val (.int .i64 x2.2.2.2.2.2.2.2.2.2.1), .val (.sl (.cons (.int .i64) .nil) x2.2.2.2.2.2.2.2.2.2.2.1), .val (.int .i64 x2.2.2.2.2.2.2.2.2.2.2.2.1), .val (.int .i64 x2.2.2.2.2.2.2.2.2.2.2.2.2.1), .val (.sl (.cons (.int .i64) .nil) x2.2.2.2.2.2.2.2.2.2.2.2.2.2.1), .val (.int .i64 x2.2.2.2.2.2.2.2.2.2.2.2.2.2.2.1), .val (.bool x2.2.2.2.2.2.2.2.2.2.2.2.2.2.2.2)]), (896768, .box [.ref 64000000000057393152, .ref 64000000000057393153]), (64000000000057393152, .row V.eSigned true y8.1), (64000000000057393153, .row V.eEntry true y8.2.1), (1216512, .box [.ref 64000000000077856768, .ref 64000000000077856769]), (64000000000077856768, .row V.eSigned true y13.1), (64000000000077856769, .row V.eEntry true y13.2.1)]⟩
noncomputable abbrev zq68.s43 (x0 : TZone) (x1 : List Int) (x2 : THead) (x3 : List TEntry) (y8 : TRZoneInt) (y9 : TZone) (y10 : List Int) (y11 : THead) (y12 : List TEntry) (y13 : TRZoneInt) : V.St := ⟨[(1, .v false [.val (.sl (.cons (.int .i64) .nil) x1)]), (3, .v false [.val (.sl V.eEntry x3)]), (4, .v false [.ptr 64000 0]), (6, .v false [.ptr 64064 0]), (10, .v false [.ptr 896768 0]), (11, .v false [.val (.int .i64 y8.2.2)]), (12, .v false [.ptr 960128 0]), (13, .v false [.ref 64000275200832]), (14, .v false [.ptr 1088128 0]), (15, .v false [.ref 64000275200960]), (16, .v false [.ptr 1216512 0]), (17, .v false [.val (.int .i64 y13.2.2)])], [(64000, .box [.val (.sl V.eSigned x0.1), .val (.sl V.eEntry x0.2)]), (64064, .box [.val (.int .i64 x2.1), .val (.int .i64 x2.2.1), .val (.int .i64 x2.2.2.1), .val (.int .i64 x2.2.2.2.1), .val (.int .i64 x2.2.2.2.2.1), .val (.int .i64 x2.2.2.2.2.2.1), .val (.int .i64 x2.2.2.2.2.2.2.1), .val (.int .i64 x2.2.2.2.2.2.2.2.1), .val (.sl (.cons (.int .i64) .nil) x2.2.2.2.2.2.2.2.2.1), .val (.int .i64 x2.2.2.2.2.2.2.2.2.2.1), .val (.sl (.cons (.int .i64) .nil) x2.2.2.2.2.2.2.2.2.2.2.1), .val (.int .i64 x2.2.2.2.2.2.2.2.2.2.2.2.1), .val (.int .i64 x2.2.2.2.2.2.2.2.2.2.2.2.2.1), .val (.sl (.cons (.int .i64) .nil) x2.2.2.2.2.2.2.2.2.2.2.2.2.2.1), .val (.int .i64 x2.2.2.2.2.2.2.2.2.2.2.2.2.2.2.1), .val (.bool x2.2.2.2.2.2.2.2.2.2.2.2.2.2.2.2)]), (896768, .box [.ref 64000000000057393152, .ref 64000000000057393153]), (64000000000057393152, .row V.eSigned true y8.1), (64000000000057393153, .row V.eEntry true y8.2.1), (960128, .box [.ref 64000000000061448192, .ref 64000000000061448193]), (64000000000061448192, .row V.eSigned true y9.1), (64000000000061448193, .row V.eEntry true y9.2), (64000275200832, .row (.cons (.int .i64) .nil) true y10), (1088128, .box [.val (.int .i64 y11.1), .val (.int .i64 y11.2.1), .val (.int .i64 y11.2.2.1), .val (.int .i64 y11.2.2.2.1), .val (.int .i64 y11.2.2.2.2.1), .val (.int .i64 y11.2.2.2.2.2.1), .val (.int .i64 y11.2.2.2.2.2.2.1), .val (.int .i64 y11.2.2.2.2.2.2.2.1), .ref 64000000000069640200, .val (.int .i64 y11.2.2.2.2.2.2.2.2.2.1), .ref 64000000000069640202, .val (.int .i64 y11.2.2.2.2.2.2.2.2.2.2.2.1), .val (.int .i64 y11.2.2.2.2.2.2.2.2.2.2.2.2.1), .ref 64000000000069640205, .val (.int .i64 y11.2.2.2.2.2.2.2.2.2.2.2.2.2.2.1), .val (.bool y11.2.2.2.2.2.2.2.2.2.2.2.2.2.2.2)]), (64000000000069640200, .row (.cons (.int .i64) .nil) true y11.2.2.2.2.2.2.2.2.1), (64000000000069640202, .row (.cons (.int .i64) .nil) true y11.2.2.2.2.2.2.2.2.2.2.1), (64000000000069640205, .row (.cons (.int .i64) .nil) true y11.2.2.2.2.2.2.2.2.2.2.2.2.2.1), (64000275200960, .row V.eEntry true y12), (1216512, .box [.ref 64000000000077856768, .ref 64000000000077856769]), (64000000000077856768, .row V.eSigned true y13.1), (64000000000077856769, .row V.eEntry true y13.2.1)]⟩
theorem zq68.r95 (x0 : TZone) (x1 : List Int) (x2 : THead) (x3 : List TEntry) (y28 : TRZoneInt) : V.joinF zq68.E Tryz.f13.ntmps [1, 1, 1, 1, 1, 1, 1, 1, 1, 1, 1, 1, 1, 1, 1, 1, 1, 1, 1, 1, 1, 1, 1, 1, 1, 1, 1, 1, 1, 1, 1, 1, 1] [] (V.codeOf Tryz.f13) (zq68.kt x0 x1 x2 x3) (zq68.s95 y28) = zq68.g95 y28 := by kernel_rfl
theorem zq68.e95 (x0 : TZone) (x1 : List Int) (x2 : THead) (x3 : List TEntry) (y28 : TRZoneInt) : V.jn (V.joinF zq68.E Tryz.f13.ntmps [1, 1, 1, 1, 1, 1, 1, 1, 1, 1, 1, 1, 1, 1, 1, 1, 1, 1, 1, 1, 1, 1, 1, 1, 1, 1, 1, 1, 1, 1, 1, 1, 1] [] (V.codeOf Tryz.f13) (zq68.kt x0 x1 x2 x3)) (zq68.s95 y28) = zq68.l95 y28 := by
  rw [V.jn_eq, zq68.r95]
  rfl
theorem zq68.r73 (x0 : TZone) (x1 : List Int) (x2 : THead) (x3 : List TEntry) (y13 : TRZoneInt) (y8 : TRZoneInt) : V.joinF zq68.E Tryz.f13.ntmps [1, 1, 1, 1, 1, 1, 1, 1, 1, 1, 1, 1, 1, 1, 1, 1, 1, 1, 1, 1, 1, 1, 1, 1, 1] [] (V.codeOf Tryz.f13) (zq68.kt x0 x1 x2 x3) (zq68.s73 x0 x1 x2 x3 y8 y13) = zq68.g73 x0 x1 x2 x3 y8 y13 (fun y28 => V.jn (V.joinF zq68.E Tryz.f13.ntmps [1, 1, 1, 1, 1, 1, 1, 1, 1, 1, 1, 1, 1, 1, 1, 1, 1, 1, 1, 1, 1, 1, 1, 1, 1, 1, 1, 1, 1, 1, 1, 1, 1] [] (V.codeOf Tryz.f13) (zq68.kt x0 x1 x2 x3)) (zq68.s95 y28)) := by kernel_rfl
theorem zq68.e73 (x0 : TZone) (x1 : List Int) (x2 : THead) (x3 : List TEntry) (y13 : TRZoneInt) (y8 : TRZoneInt) : V.jn (V.joinF zq68.E Tryz.f13.ntmps [1, 1, 1, 1, 1, 1, 1, 1, 1, 1, 1, 1, 1, 1, 1, 1, 1, 1, 1, 1, 1, 1, 1, 1, 1] [] (V.codeOf Tryz.f13) (zq68.kt x0 x1 x2 x3)) (zq68.s73 x0 x1 x2 x3 y8 y13) = zq68.l73 x0 x1 x2 x3 y8 y13 := by
  rw [V.jn_eq, zq68.r73]
  simp only [zq68.e95]
  rfl
theorem zq68.r43 (x0 : TZone) (x1 : List Int) (x2 : THead) (x3 : List TEntry) (y10 : List Int) (y11 : THead) (y12 : List TEntry) (y13 : TRZoneInt) (y8 : TRZoneInt) (y9 : TZone) : V.joinF zq68.E Tryz.f13.ntmps [1, 1, 1, 1, 1, 1, 1, 1, 1, 1, 1, 1, 1, 1, 1] [] (V.codeOf Tryz.f13) (zq68.kt x0 x1 x2 x3) (zq68.s43 x0 x1 x2 x3 y8 y9 y10 y11 y12 y13) = zq68.g43 x0 x1 x2 x3 y8 y9 y10 y11 y12 y13 (fun y8 y13 => V.jn (V.joinF zq68.E Tryz.f13.ntmps [1, 1, 1, 1, 1, 1, 1, 1, 1, 1, 1, 1, 1, 1, 1, 1, 1, 1, 1, 1, 1, 1, 1, 1, 1] [] (V.codeOf Tryz.f13) (zq68.kt x0 x1 x2 x3)) (zq68.s73 x0 x1 x2 x3 y8 y13)) := by kernel_rfl
theorem zq68.e43 (x0 : TZone) (x1 : List Int) (x2 : THead) (x3 : List TEntry) (y10 : List Int) (y11 : THead) (y12 : List TEntry) (y13 : TRZoneInt) (y8 : TRZoneInt) (y9 : TZone) : V.jn (V.joinF zq68.E Tryz.f13.ntmps [1, 1, 1, 1, 1, 1, 1, 1, 1, 1, 1, 1, 1, 1, 1] [] (V.codeOf Tryz.f13) (zq68.kt x0 x1 x2 x3)) (zq68.s43 x0 x1 x2 x3 y8 y9 y10 y11 y12 y13) = zq68.l43 x0 x1 x2 x3 y8 y9 y10 y11 y12 y13 := by
  rw [V.jn_eq, zq68.r43]
  simp only [zq68.e73]
  rfl
noncomputable abbrev zq68.s (x0 : TZone) (x1 : List Int) (x2 : THead) (x3 : List TEntry) : V.St := ⟨[(0, .v true [.val (.sl V.eSigned x0.1), .val (.sl V.eEntry x0.2)]), (1, .v false [.val (.sl (.cons (.int .i64) .nil) x1)]), (2, .v true [.val (.int .i64 x2.1), .val (.int .i64 x2.2.1), .val (.int .i64 x2.2.2.1), .val (.int .i64 x2.2.2.2.1), .val (.int .i64 x2.2.2.2.2.1), .val (.int .i64 x2.2.2.2.2.2.1), .val (.int .i64 x2.2.2.2.2.2.2.1), .val (.int .i64 x2.2.2.2.2.2.2.2.1), .val (.sl (.cons (.int .i64) .nil) x2.2.2.2.2.2.2.2.2.1), .val (.int .i64 x2.2.2.2.2.2.2.2.2.2.1), .val (.sl (.cons (.int .i64) .nil) x2.2.2.2.2.2.2.2.2.2.2.1), .val (.int .i64 x2.2.2.2.2.2.2.2.2.2.2.2.1), .val (.int .i64 x2.2.2.2.2.2.2.2.2.2.2.2.2.1), .val (.sl (.cons (.int .i64) .nil) x2.2.2.2.2.2.2.2.2.2.2.2.2.2.1), .val (.int .i64 x2.2.2.2.2.2.2.2.2.2.2.2.2.2.2.1), .val (.bool x2.2.2.2.2.2.2.2.2.2.2.2.2.2.2.2)]), (3, .v false [.val (.sl V.eEntry x3)])], []⟩
theorem zq68.v0 (x0 : TZone) (x1 : List Int) (x2 : THead) (x3 : List TEntry) : V.evBody zq68.E zq68.con Tryz.f13 (V.fl9 x0 x1 x2 x3) = V.evC zq68.E Tryz.f13.ntmps (V.codeOf Tryz.f13) (zq68.kt x0 x1 x2 x3) (zq68.s x0 x1 x2 x3) := by kernel_rfl
theorem zq68.v (x0 : TZone) (x1 : List Int) (x2 : THead) (x3 : List TEntry) : V.evC zq68.E Tryz.f13.ntmps (V.codeOf Tryz.f13) (zq68.kt x0 x1 x2 x3) (zq68.s x0 x1 x2 x3) = zq68.b x0 x1 x2 x3 (fun y8 y9 y10 y11 y12 y13 => V.jn (V.joinF zq68.E Tryz.f13.ntmps [1, 1, 1, 1, 1, 1, 1, 1, 1, 1, 1, 1, 1, 1, 1] [] (V.codeOf Tryz.f13) (zq68.kt x0 x1 x2 x3)) (zq68.s43 x0 x1 x2 x3 y8 y9 y10 y11 y12 y13)) := by kernel_rfl
theorem zq68.eq (x0 : TZone) (x1 : List Int) (x2 : THead) (x3 : List TEntry) : V.evBody zq68.E zq68.con Tryz.f13 (V.fl9 x0 x1 x2 x3) = zq68 x0 x1 x2 x3 := by
  rw [zq68.v0, zq68.v]
  simp only [zq68.e43]
  rfl
theorem zq68.ok : V.Valid Tryz.prog 13 zq68.con :=
  V.fo (V.tab_cons zq97.ok (V.tab_cons zq96.ok (V.tab_cons zq107.ok (V.tab_cons zq106.ok (V.tab_cons zq71.ok (V.tab_cons zq70.ok (V.tab_cons zq87.ok (V.tab_cons zq86.ok (V.tab_cons zq104.ok (V.tab_cons zq115.ok (V.tab_cons zq79.ok (V.tab_cons zq94.ok (V.tab_cons zq85.ok (V.tab_cons zq162.ok (V.tab_cons zq108.ok (V.tab_cons zq35.ok (V.tab_cons zq72.ok (V.tab_cons zq88.ok V.tab_nil)))))))))))))))))) Tryz.func13 (by kernel_rfl) (fun x y h => (show V.evBody zq68.E zq68.con Tryz.f13 x = _ from zq68.eq (V.p9_0 x) (V.p9_1 x) (V.p9_2 x) (V.p9_3 x)).trans (V.cfl (by kernel_rfl) h))
end Go.Proofs.YtpioofmdambjoaaGreat
