/- That the functions compute it, part 1. -/
import Derived.Test.YtpioofmdambjoaaGreatXStoreWalk0
namespace Go.Proofs.YtpioofmdambjoaaGreat
set_option linter.unusedVariables false
set_option maxRecDepth 100000
noncomputable abbrev zq33.con : V.Con := ⟨V.A5, (.cons (.int .i64) .nil), fun (x : V.D5) => zq33 (V.p5_0 x) (V.p5_1 x), [], [(true, 16), (true, 17)], [(false, 1)], [false], []⟩
noncomputable abbrev zq33.E : V.Env := V.mkE V.tys [(194, zq16.con), (288, zq62.con), (289, zq67.con), (290, zq58.con), (291, zq65.con)] [(5, [2, 3, 5], [])] [] [] [] []
noncomputable abbrev zq33.kt (x0 : THead) (x1 : TSigned) : V.Kt Int := V.ktOf zq33.E zq33.con Tryz.f244 (V.fl5 x0 x1)
noncomputable abbrev zq33.s5 (x0 : THead) (x1 : TSigned) (v5_0 : Bool) : V.St := ⟨[(2, .v false [.ptr 64000 0]), (3, .v false [.ptr 64064 0]), (5, .v false [.val (.bool v5_0)])], [(64000, .box [.val (.int .i64 x0.1), .val (.int .i64 x0.2.1), .val (.int .i64 x0.2.2.1), .val (.int .i64 x0.2.2.2.1), .val (.int .i64 x0.2.2.2.2.1), .val (.int .i64 x0.2.2.2.2.2.1), .val (.int .i64 x0.2.2.2.2.2.2.1), .val (.int .i64 x0.2.2.2.2.2.2.2.1), .val (.sl (.cons (.int .i64) .nil) x0.2.2.2.2.2.2.2.2.1), .val (.int .i64 x0.2.2.2.2.2.2.2.2.2.1), .val (.sl (.cons (.int .i64) .nil) x0.2.2.2.2.2.2.2.2.2.2.1), .val (.int .i64 x0.2.2.2.2.2.2.2.2.2.2.2.1), .val (.int .i64 x0.2.2.2.2.2.2.2.2.2.2.2.2.1), .val (.sl (.cons (.int .i64) .nil) x0.2.2.2.2.2.2.2.2.2.2.2.2.2.1), .val (.int .i64 x0.2.2.2.2.2.2.2.2.2.2.2.2.2.2.1), .val (.bool x0.2.2.2.2.2.2.2.2.2.2.2.2.2.2.2)]), (64064, .box [.val (.int .i64 x1.1), .val (.int .i64 x1.2.1), .val (.int .i64 x1.2.2.1), .val (.int .i64 x1.2.2.2.1), .val (.int .i64 x1.2.2.2.2.1), .val (.int .i64 x1.2.2.2.2.2.1), .val (.int .i64 x1.2.2.2.2.2.2.1), .val (.int .i64 x1.2.2.2.2.2.2.2.1), .val (.sl (.cons (.int .i64) .nil) x1.2.2.2.2.2.2.2.2.1), .val (.int .i64 x1.2.2.2.2.2.2.2.2.2.1), .val (.sl (.cons (.int .i64) .nil) x1.2.2.2.2.2.2.2.2.2.2.1), .val (.int .i64 x1.2.2.2.2.2.2.2.2.2.2.2.1), .val (.int .i64 x1.2.2.2.2.2.2.2.2.2.2.2.2.1), .val (.sl (.cons (.int .i64) .nil) x1.2.2.2.2.2.2.2.2.2.2.2.2.2.1), .val (.int .i64 x1.2.2.2.2.2.2.2.2.2.2.2.2.2.2.1), .val (.bool x1.2.2.2.2.2.2.2.2.2.2.2.2.2.2.2.1), .val (.sl (.cons (.int .i64) (.cons (.int .i64) .nil)) x1.2.2.2.2.2.2.2.2.2.2.2.2.2.2.2.2)])]⟩
theorem zq33.r5 (x0 : THead) (x1 : TSigned) (v5_0 : Bool) : V.joinF zq33.E Tryz.f244.ntmps [1, 0, 0] [] (V.codeOf Tryz.f244) (zq33.kt x0 x1) (zq33.s5 x0 x1 v5_0) = zq33.g5 x0 x1 v5_0 := by kernel_rfl
theorem zq33.e5 (x0 : THead) (x1 : TSigned) (v5_0 : Bool) : V.jn (V.joinF zq33.E Tryz.f244.ntmps [1, 0, 0] [] (V.codeOf Tryz.f244) (zq33.kt x0 x1)) (zq33.s5 x0 x1 v5_0) = zq33.l5 x0 x1 v5_0 := by
  rw [V.jn_eq, zq33.r5]
  rfl
noncomputable abbrev zq33.s (x0 : THead) (x1 : TSigned) : V.St := ⟨[(0, .v true [.val (.int .i64 x0.1), .val (.int .i64 x0.2.1), .val (.int .i64 x0.2.2.1), .val (.int .i64 x0.2.2.2.1), .val (.int .i64 x0.2.2.2.2.1), .val (.int .i64 x0.2.2.2.2.2.1), .val (.int .i64 x0.2.2.2.2.2.2.1), .val (.int .i64 x0.2.2.2.2.2.2.2.1), .val (.sl (.cons (.int .i64) .nil) x0.2.2.2.2.2.2.2.2.1), .val (.int .i64 x0.2.2.2.2.2.2.2.2.2.1), .val (.sl (.cons (.int .i64) .nil) x0.2.2.2.2.2.2.2.2.2.2.1), .val (.int .i64 x0.2.2.2.2.2.2.2.2.2.2.2.1), .val (.int .i64 x0.2.2.2.2.2.2.2.2.2.2.2.2.1), .val (.sl (.cons (.int .i64) .nil) x0.2.2.2.2.2.2.2.2.2.2.2.2.2.1), .val (.int .i64 x0.2.2.2.2.2.2.2.2.2.2.2.2.2.2.1), .val (.bool x0.2.2.2.2.2.2.2.2.2.2.2.2.2.2.2)]), (1, .v true [.val (.int .i64 x1.1), .val (.int .i64 x1.2.1), .val (.int .i64 x1.2.2.1), .val (.int .i64 x1.2.2.2.1), .val (.int .i64 x1.2.2.2.2.1), .val (.int .i64 x1.2.2.2.2.2.1), .val (.int .i64 x1.2.2.2.2.2.2.1), .val (.int .i64 x1.2.2.2.2.2.2.2.1), .val (.sl (.cons (.int .i64) .nil) x1.2.2.2.2.2.2.2.2.1), .val (.int .i64 x1.2.2.2.2.2.2.2.2.2.1), .val (.sl (.cons (.int .i64) .nil) x1.2.2.2.2.2.2.2.2.2.2.1), .val (.int .i64 x1.2.2.2.2.2.2.2.2.2.2.2.1), .val (.int .i64 x1.2.2.2.2.2.2.2.2.2.2.2.2.1), .val (.sl (.cons (.int .i64) .nil) x1.2.2.2.2.2.2.2.2.2.2.2.2.2.1), .val (.int .i64 x1.2.2.2.2.2.2.2.2.2.2.2.2.2.2.1), .val (.bool x1.2.2.2.2.2.2.2.2.2.2.2.2.2.2.2.1), .val (.sl (.cons (.int .i64) (.cons (.int .i64) .nil)) x1.2.2.2.2.2.2.2.2.2.2.2.2.2.2.2.2)])], []⟩
theorem zq33.v0 (x0 : THead) (x1 : TSigned) : V.evBody zq33.E zq33.con Tryz.f244 (V.fl5 x0 x1) = V.evC zq33.E Tryz.f244.ntmps (V.codeOf Tryz.f244) (zq33.kt x0 x1) (zq33.s x0 x1) := by kernel_rfl
theorem zq33.v (x0 : THead) (x1 : TSigned) : V.evC zq33.E Tryz.f244.ntmps (V.codeOf Tryz.f244) (zq33.kt x0 x1) (zq33.s x0 x1) = zq33.b x0 x1 (fun v5_0 => V.jn (V.joinF zq33.E Tryz.f244.ntmps [1, 0, 0] [] (V.codeOf Tryz.f244) (zq33.kt x0 x1)) (zq33.s5 x0 x1 v5_0)) := by kernel_rfl
theorem zq33.eq (x0 : THead) (x1 : TSigned) : V.evBody zq33.E zq33.con Tryz.f244 (V.fl5 x0 x1) = zq33 x0 x1 := by
  rw [zq33.v0, zq33.v]
  simp only [zq33.e5]
  rfl
theorem zq33.ok : V.Valid Tryz.prog 244 zq33.con :=
  V.fo (V.tab_cons zq16.ok (V.tab_cons zq62.ok (V.tab_cons zq67.ok (V.tab_cons zq58.ok (V.tab_cons zq65.ok V.tab_nil))))) Tryz.func244 (by kernel_rfl) (fun x y h => (show V.evBody zq33.E zq33.con Tryz.f244 x = _ from zq33.eq (V.p5_0 x) (V.p5_1 x)).trans (V.cfl (by kernel_rfl) h))
noncomputable abbrev zq31.con : V.Con := ⟨V.A5, (.cons .bool .nil), fun (x : V.D5) => zq31 (V.p5_0 x) (V.p5_1 x), [], [(true, 16), (true, 17)], [(false, 1)], [false], []⟩
noncomputable abbrev zq31.E : V.Env := V.mkE V.tys [(244, zq33.con)] [] [] [] [] []
noncomputable abbrev zq31.kt (x0 : THead) (x1 : TSigned) : V.Kt Bool := V.ktOf zq31.E zq31.con Tryz.f269 (V.fl5 x0 x1)
noncomputable abbrev zq31.s (x0 : THead) (x1 : TSigned) : V.St := ⟨[(0, .v true [.val (.int .i64 x0.1), .val (.int .i64 x0.2.1), .val (.int .i64 x0.2.2.1), .val (.int .i64 x0.2.2.2.1), .val (.int .i64 x0.2.2.2.2.1), .val (.int .i64 x0.2.2.2.2.2.1), .val (.int .i64 x0.2.2.2.2.2.2.1), .val (.int .i64 x0.2.2.2.2.2.2.2.1), .val (.sl (.cons (.int .i64) .nil) x0.2.2.2.2.2.2.2.2.1), .val (.int .i64 x0.2.2.2.2.2.2.2.2.2.1), .val (.sl (.cons (.int .i64) .nil) x0.2.2.2.2.2.2.2.2.2.2.1), .val (.int .i64 x0.2.2.2.2.2.2.2.2.2.2.2.1), .val (.int .i64 x0.2.2.2.2.2.2.2.2.2.2.2.2.1), .val (.sl (.cons (.int .i64) .nil) x0.2.2.2.2.2.2.2.2.2.2.2.2.2.1), .val (.int .i64 x0.2.2.2.2.2.2.2.2.2.2.2.2.2.2.1), .val (.bool x0.2.2.2.2.2.2.2.2.2.2.2.2.2.2.2)]), (1, .v true [.val (.int .i64 x1.1), .val (.int .i64 x1.2.1), .val (.int .i64 x1.2.2.1), .val (.int .i64 x1.2.2.2.1), .val (.int .i64 x1.2.2.2.2.1), .val (.int .i64 x1.2.2.2.2.2.1), .val (.int .i64 x1.2.2.2.2.2.2.1), .val (.int .i64 x1.2.2.2.2.2.2.2.1), .val (.sl (.cons (.int .i64) .nil) x1.2.2.2.2.2.2.2.2.1), .val (.int .i64 x1.2.2.2.2.2.2.2.2.2.1), .val (.sl (.cons (.int .i64) .nil) x1.2.2.2.2.2.2.2.2.2.2.1), .val (.int .i64 x1.2.2.2.2.2.2.2.2.2.2.2.1), .val (.int .i64 x1.2.2.2.2.2.2.2.2.2.2.2.2.1), .val (.sl (.cons (.int .i64) .nil) x1.2.2.2.2.2.2.2.2.2.2.2.2.2.1), .val (.int .i64 x1.2.2.2.2.2.2.2.2.2.2.2.2.2.2.1), .val (.bool x1.2.2.2.2.2.2.2.2.2.2.2.2.2.2.2.1), .val (.sl (.cons (.int .i64) (.cons (.int .i64) .nil)) x1.2.2.2.2.2.2.2.2.2.2.2.2.2.2.2.2)])], []⟩
theorem zq31.v0 (x0 : THead) (x1 : TSigned) : V.evBody zq31.E zq31.con Tryz.f269 (V.fl5 x0 x1) = V.evC zq31.E Tryz.f269.ntmps (V.codeOf Tryz.f269) (zq31.kt x0 x1) (zq31.s x0 x1) := by kernel_rfl
theorem zq31.v (x0 : THead) (x1 : TSigned) : V.evC zq31.E Tryz.f269.ntmps (V.codeOf Tryz.f269) (zq31.kt x0 x1) (zq31.s x0 x1) = zq31 x0 x1 := by kernel_rfl
theorem zq31.eq (x0 : THead) (x1 : TSigned) : V.evBody zq31.E zq31.con Tryz.f269 (V.fl5 x0 x1) = zq31 x0 x1 := (zq31.v0 x0 x1).trans (zq31.v x0 x1)
theorem zq31.ok : V.Valid Tryz.prog 269 zq31.con :=
  V.fo (V.tab_cons zq33.ok V.tab_nil) Tryz.func269 (by kernel_rfl) (fun x y h => (show V.evBody zq31.E zq31.con Tryz.f269 x = _ from zq31.eq (V.p5_0 x) (V.p5_1 x)).trans (V.cfl (by kernel_rfl) h))
noncomputable abbrev zq8.con : V.Con := ⟨(.cons (.sl V.eSigned) .nil), (.cons (.int .i64) .nil), fun (x : List TSigned) => zq8 x, [], [(false, 1)], [(false, 1)], [false], []⟩
noncomputable abbrev zq8.E : V.Env := V.mkE V.tys [(268, zq15.con), (269, zq31.con)] [(4, [0, 5, 6, 7], [])] [(4, 18)] [] [] []
noncomputable abbrev zq8.kt (x0 : List TSigned) : V.Kt Int := V.ktOf zq8.E zq8.con Tryz.f207 ((x0) : List TSigned)
noncomputable abbrev zq8.s4 (x0 : List TSigned) (v4_2 : Int) (v4_3 : Int) : V.St := ⟨[(0, .v false [.val (.sl V.eSigned x0)]), (5, .v false [.val (.sl V.eSigned x0)]), (6, .v false [.val (.int .i64 v4_2)]), (7, .v false [.val (.int .i64 v4_3)])], []⟩
theorem zq8.r4 (x0 : List TSigned) (R : V.St → Option Int) (v4_2 : Int) (v4_3 : Int) : V.loopF zq8.E Tryz.f207.ntmps [1, 0, 1, 0] [] (V.codeOf Tryz.f207) (zq8.kt x0) R (zq8.s4 x0 v4_2 v4_3) = zq8.g4 x0 (fun v4_2 v4_3 => R (zq8.s4 x0 v4_2 v4_3)) v4_2 v4_3 := by kernel_rfl
theorem zq8.e4 (x0 : List TSigned) : ∀ (n : Nat) (v4_2 : Int) (v4_3 : Int), V.loopN (V.loopF zq8.E Tryz.f207.ntmps [1, 0, 1, 0] [] (V.codeOf Tryz.f207) (zq8.kt x0)) n (zq8.s4 x0 v4_2 v4_3) = zq8.l4 x0 n v4_2 v4_3 := by
  intro n
  induction n with
  | zero => intros; rw [V.loopN_z]; rfl
  | succ n ih =>
    intro v4_2 v4_3
    rw [V.loopN_s, zq8.r4]
    simp only [ih]
    first | exact (zq8.u4 ..).symm | rfl
theorem zq8.v (x0 : List TSigned) : V.evBody zq8.E zq8.con Tryz.f207 ((x0) : List TSigned) = zq8.b x0 (fun v4_2 v4_3 => V.loopN (V.loopF zq8.E Tryz.f207.ntmps [1, 0, 1, 0] [] (V.codeOf Tryz.f207) (zq8.kt x0)) V.KK (zq8.s4 x0 v4_2 v4_3)) := by kernel_rfl
theorem zq8.eq (x0 : List TSigned) : V.evBody zq8.E zq8.con Tryz.f207 ((x0) : List TSigned) = zq8 x0 := by
  rw [zq8.v]
  simp only [zq8.e4]
  rfl
theorem zq8.ok : V.Valid Tryz.prog 207 zq8.con :=
  V.fo (V.tab_cons zq15.ok (V.tab_cons zq31.ok V.tab_nil)) Tryz.func207 (by kernel_rfl) (fun x y h => (show V.evBody zq8.E zq8.con Tryz.f207 x = _ from zq8.eq x).trans (V.cfl (by kernel_rfl) h))
noncomputable abbrev zq13.con : V.Con := ⟨(.cons (.sl V.eSigned) .nil), (.cons .bool .nil), fun (x : List TSigned) => zq13 x, [], [(false, 1)], [(false, 1)], [false], []⟩
noncomputable abbrev zq13.E : V.Env := V.mkE V.tys [(151, zq12.con), (207, zq8.con)] [] [] [] [] []
theorem zq13.eq (x0 : List TSigned) : V.evBody zq13.E zq13.con Tryz.f104 ((x0) : List TSigned) = zq13 x0 := by kernel_rfl
theorem zq13.ok : V.Valid Tryz.prog 104 zq13.con :=
  V.fo (V.tab_cons zq12.ok (V.tab_cons zq8.ok V.tab_nil)) Tryz.func104 (by kernel_rfl) (fun x y h => (show V.evBody zq13.E zq13.con Tryz.f104 x = _ from zq13.eq x).trans (V.cfl (by kernel_rfl) h))
noncomputable abbrev zq66.con : V.Con := ⟨(.cons (.sl V.eSigned) .nil), V.eHead, fun (x : List TSigned) => zq66 x, [], [(false, 1)], [(true, 16)], [false, false, false, false, false, false, false, false, false, false, false, false, false, false, false, false], []⟩
noncomputable abbrev zq66.E : V.Env := V.mkE V.tys [] [] [] [] [] []
theorem zq66.eq (x0 : List TSigned) : V.evBody zq66.E zq66.con Tryz.f130 ((x0) : List TSigned) = zq66 x0 := by kernel_rfl
theorem zq66.ok : V.Valid Tryz.prog 130 zq66.con :=
  V.fo V.tab_nil Tryz.func130 (by kernel_rfl) (fun x y h => (show V.evBody zq66.E zq66.con Tryz.f130 x = _ from zq66.eq x).trans (V.cfl (by kernel_rfl) h))
noncomputable abbrev zq18.con : V.Con := ⟨(.cons .str .nil), (.cons .bool .nil), fun (x : ByteArray) => zq18 x, [], [(false, 1)], [(false, 1)], [false], []⟩
noncomputable abbrev zq18.E : V.Env := V.mkE V.tys [(151, zq12.con)] [(4, [0, 6, 7], [])] [] [] [] []
noncomputable abbrev zq18.kt (x0 : ByteArray) : V.Kt Bool := V.ktOf zq18.E zq18.con Tryz.f252 ((x0) : ByteArray)
noncomputable abbrev zq18.s4 (x0 : ByteArray) (v4_1 : Int) (v4_2 : Int) : V.St := ⟨[(0, .v false [.val (.str x0)]), (6, .v false [.val (.int .i64 v4_1)]), (7, .v false [.val (.int .i64 v4_2)])], []⟩
theorem zq18.r4 (x0 : ByteArray) (R : V.St → Option Bool) (v4_1 : Int) (v4_2 : Int) : V.loopF zq18.E Tryz.f252.ntmps [1, 0, 1, 0] [] (V.codeOf Tryz.f252) (zq18.kt x0) R (zq18.s4 x0 v4_1 v4_2) = zq18.g4 x0 (fun v4_1 v4_2 => R (zq18.s4 x0 v4_1 v4_2)) v4_1 v4_2 := by kernel_rfl
theorem zq18.e4 (x0 : ByteArray) : ∀ (n : Nat) (v4_1 : Int) (v4_2 : Int), V.loopN (V.loopF zq18.E Tryz.f252.ntmps [1, 0, 1, 0] [] (V.codeOf Tryz.f252) (zq18.kt x0)) n (zq18.s4 x0 v4_1 v4_2) = zq18.l4 x0 n v4_1 v4_2 := by
  intro n
  induction n with
  | zero => intros; rw [V.loopN_z]; rfl
  | succ n ih =>
    intro v4_1 v4_2
    rw [V.loopN_s, zq18.r4]
    simp only [ih]
    first | exact (zq18.u4 ..).symm | rfl
theorem zq18.v (x0 : ByteArray) : V.evBody zq18.E zq18.con Tryz.f252 ((x0) : ByteArray) = zq18.b x0 (fun v4_1 v4_2 => V.loopN (V.loopF zq18.E Tryz.f252.ntmps [1, 0, 1, 0] [] (V.codeOf Tryz.f252) (zq18.kt x0)) V.KK (zq18.s4 x0 v4_1 v4_2)) := by kernel_rfl
theorem zq18.eq (x0 : ByteArray) : V.evBody zq18.E zq18.con Tryz.f252 ((x0) : ByteArray) = zq18 x0 := by
  rw [zq18.v]
  simp only [zq18.e4]
  rfl
theorem zq18.ok : V.Valid Tryz.prog 252 zq18.con :=
  V.fo (V.tab_cons zq12.ok V.tab_nil) Tryz.func252 (by kernel_rfl) (fun x y h => (show V.evBody zq18.E zq18.con Tryz.f252 x = _ from zq18.eq x).trans (V.cfl (by kernel_rfl) h))
noncomputable abbrev zq20.con : V.Con := ⟨(.cons .str .nil), (.cons .bool .nil), fun (x : ByteArray) => zq20 x, [], [(false, 1)], [(false, 1)], [false], []⟩
noncomputable abbrev zq20.E : V.Env := V.mkE V.tys [(252, zq18.con)] [] [] [] [] []
theorem zq20.eq (x0 : ByteArray) : V.evBody zq20.E zq20.con Tryz.f296 ((x0) : ByteArray) = zq20 x0 := by kernel_rfl
theorem zq20.ok : V.Valid Tryz.prog 296 zq20.con :=
  V.fo (V.tab_cons zq18.ok V.tab_nil) Tryz.func296 (by kernel_rfl) (fun x y h => (show V.evBody zq20.E zq20.con Tryz.f296 x = _ from zq20.eq x).trans (V.cfl (by kernel_rfl) h))
noncomputable abbrev zq137.con : V.Con := ⟨(.cons (.sl (.cons .str .nil)) (.cons (.fn 296 false .nil .nil) .nil)), (.cons (.int .i64) .nil), fun (x : List ByteArray × (Unit) × (Unit)) => zq137 x.1 x.2, [], [(false, 1), (false, 1)], [(false, 1)], [false], []⟩
noncomputable abbrev zq137.E : V.Env := V.mkE V.tys [(296, zq20.con)] [(4, [0, 1, 7, 8], [])] [] [] [] []
noncomputable abbrev zq137.kt (x0 : List ByteArray) (x1 : (Unit) × (Unit)) : V.Kt Int := V.ktOf zq137.E zq137.con Tryz.f312 ((x0, x1) : List ByteArray × (Unit) × (Unit))
noncomputable abbrev zq137.s4 (x0 : List ByteArray) (v4_1 : Int) (v4_2 : Int) : V.St := ⟨[(0, .v false [.val (.sl (.cons .str .nil) x0)]), (1, .v false [.val (.fn 296 false .nil .nil () ())]), (7, .v false [.val (.int .i64 v4_1)]), (8, .v false [.val (.int .i64 v4_2)])], []⟩
theorem zq137.r4 (x0 : List ByteArray) (x1 : (Unit) × (Unit)) (R : V.St → Option Int) (v4_1 : Int) (v4_2 : Int) : V.loopF zq137.E Tryz.f312.ntmps [1, 0, 1, 0] [] (V.codeOf Tryz.f312) (zq137.kt x0 x1) R (zq137.s4 x0 v4_1 v4_2) = zq137.g4 x0 (fun v4_1 v4_2 => R (zq137.s4 x0 v4_1 v4_2)) v4_1 v4_2 := by kernel_rfl
theorem zq137.e4 (x0 : List ByteArray) (x1 : (Unit) × (Unit)) : ∀ (n : Nat) (v4_1 : Int) (v4_2 : Int), V.loopN (V.loopF zq137.E Tryz.f312.ntmps [1, 0, 1, 0] [] (V.codeOf Tryz.f312) (zq137.kt x0 x1)) n (zq137.s4 x0 v4_1 v4_2) = zq137.l4 x0 n v4_1 v4_2 := by
  intro n
  induction n with
  | zero => intros; rw [V.loopN_z]; rfl
  | succ n ih =>
    intro v4_1 v4_2
    rw [V.loopN_s, zq137.r4]
    simp only [ih]
    first | exact (zq137.u4 ..).symm | rfl
theorem zq137.v (x0 : List ByteArray) (x1 : (Unit) × (Unit)) : V.evBody zq137.E zq137.con Tryz.f312 ((x0, x1) : List ByteArray × (Unit) × (Unit)) = zq137.b x0 x1 (fun v4_1 v4_2 => V.loopN (V.loopF zq137.E Tryz.f312.ntmps [1, 0, 1, 0] [] (V.codeOf Tryz.f312) (zq137.kt x0 x1)) V.KK (zq137.s4 x0 v4_1 v4_2)) := by kernel_rfl
theorem zq137.eq (x0 : List ByteArray) (x1 : (Unit) × (Unit)) : V.evBody zq137.E zq137.con Tryz.f312 ((x0, x1) : List ByteArray × (Unit) × (Unit)) = zq137 x0 x1 := by
  rw [zq137.v]
  simp only [zq137.e4]
  rfl
theorem zq137.ok : V.Valid Tryz.prog 312 zq137.con :=
  V.fo (V.tab_cons zq20.ok V.tab_nil) Tryz.func312 (by kernel_rfl) (fun x y h => (show V.evBody zq137.E zq137.con Tryz.f312 x = _ from zq137.eq x.1 x.2).trans (V.cfl (by kernel_rfl) h))
noncomputable abbrev zq131.con : V.Con := ⟨(.cons (.sl (.cons .str .nil)) (.cons (.fn 296 false .nil .nil) .nil)), (.cons .bool .nil), fun (x : List ByteArray × (Unit) × (Unit)) => zq131 x.1 x.2, [], [(false, 1), (false, 1)], [(false, 1)], [false], []⟩
noncomputable abbrev zq131.E : V.Env := V.mkE V.tys [(312, zq137.con)] [] [] [] [] []
theorem zq131.eq (x0 : List ByteArray) (x1 : (Unit) × (Unit)) : V.evBody zq131.E zq131.con Tryz.f295 ((x0, x1) : List ByteArray × (Unit) × (Unit)) = zq131 x0 x1 := by kernel_rfl
theorem zq131.ok : V.Valid Tryz.prog 295 zq131.con :=
  V.fo (V.tab_cons zq137.ok V.tab_nil) Tryz.func295 (by kernel_rfl) (fun x y h => (show V.evBody zq131.E zq131.con Tryz.f295 x = _ from zq131.eq x.1 x.2).trans (V.cfl (by kernel_rfl) h))
noncomputable abbrev zq19.con : V.Con := ⟨(.cons (.sl (.cons .str .nil)) .nil), (.cons .bool .nil), fun (x : List ByteArray) => zq19 x, [], [(false, 1)], [(false, 1)], [false], []⟩
noncomputable abbrev zq19.E : V.Env := V.mkE V.tys [(151, zq12.con), (295, zq131.con)] [] [] [] [] []
theorem zq19.eq (x0 : List ByteArray) : V.evBody zq19.E zq19.con Tryz.f253 ((x0) : List ByteArray) = zq19 x0 := by kernel_rfl
theorem zq19.ok : V.Valid Tryz.prog 253 zq19.con :=
  V.fo (V.tab_cons zq12.ok (V.tab_cons zq131.ok V.tab_nil)) Tryz.func253 (by kernel_rfl) (fun x y h => (show V.evBody zq19.E zq19.con Tryz.f253 x = _ from zq19.eq x).trans (V.cfl (by kernel_rfl) h))
noncomputable abbrev zq14.con : V.Con := ⟨V.eEntry, (.cons .bool .nil), fun (x : ByteArray × Int × Int × List ByteArray) => zq14 x, [], [(true, 4)], [(false, 1)], [false], []⟩
noncomputable abbrev zq14.E : V.Env := V.mkE V.tys [(151, zq12.con), (217, zq59.con), (252, zq18.con), (253, zq19.con)] [] [] [] [] []
theorem zq14.eq (x0 : TEntry) : V.evBody zq14.E zq14.con Tryz.f192 ((x0.1, x0.2.1, x0.2.2.1, x0.2.2.2) : ByteArray × Int × Int × List ByteArray) = zq14 x0 := by kernel_rfl
theorem zq14.ok : V.Valid Tryz.prog 192 zq14.con :=
  V.fo (V.tab_cons zq12.ok (V.tab_cons zq59.ok (V.tab_cons zq18.ok (V.tab_cons zq19.ok V.tab_nil)))) Tryz.func192 (by kernel_rfl) (fun x y h => (show V.evBody zq14.E zq14.con Tryz.f192 x = _ from zq14.eq x).trans (V.cfl (by kernel_rfl) h))
noncomputable abbrev zq69.con : V.Con := ⟨.cons .str (.cons .str .nil), .cons (.int .i64) .nil, fun (x : ByteArray × ByteArray) => zq69 x.1 x.2, [], [(false, 1), (false, 1)], [(false, 1)], [false], []⟩
theorem zq69.ok : V.Valid Tryz.prog 297 zq69.con :=
  V.cmp_valid (ρ := ⟨fun n => bif Nat.beq n 213 then 297 else 313, fun t => bif Nat.beq t 3 then 3 else 9, fun x => x⟩) { mixed := V.mixed, f213 := by kernel_rfl, f265 := by kernel_rfl, t3 := by kernel_rfl, a3 := fun w => rfl, z3 := fun w => rfl, v3 := fun w => rfl, t9 := by kernel_rfl, a9 := fun w => rfl, z9 := fun w => rfl, v9 := fun w => rfl }
noncomputable abbrev zq195.con : V.Con := ⟨(.cons .str (.cons .str .nil)), (.cons (.int .i64) .nil), fun (x : ByteArray × ByteArray) => zq195 x.1 x.2, [], [(false, 1), (false, 1)], [(false, 1)], [false], []⟩
noncomputable abbrev zq195.E : V.Env := V.mkE V.tys [(297, zq69.con)] [] [] [] [] []
theorem zq195.eq (x0 : ByteArray) (x1 : ByteArray) : V.evBody zq195.E zq195.con Tryz.f254 ((x0, x1) : ByteArray × ByteArray) = zq195 x0 x1 := by kernel_rfl
theorem zq195.ok : V.Valid Tryz.prog 254 zq195.con :=
  V.fo (V.tab_cons zq69.ok V.tab_nil) Tryz.func254 (by kernel_rfl) (fun x y h => (show V.evBody zq195.E zq195.con Tryz.f254 x = _ from zq195.eq x.1 x.2).trans (V.cfl (by kernel_rfl) h))
noncomputable abbrev zq3.con : V.Con := ⟨(.cons .str (.cons .str .nil)), (.cons (.int .i64) .nil), fun (x : ByteArray × ByteArray) => zq3 x.1 x.2, [], [(false, 1), (false, 1)], [(false, 1)], [false], []⟩
noncomputable abbrev zq3.E : V.Env := V.mkE V.tys [(254, zq195.con)] [] [] [] [] []
theorem zq3.eq (x0 : ByteArray) (x1 : ByteArray) : V.evBody zq3.E zq3.con Tryz.f193 ((x0, x1) : ByteArray × ByteArray) = zq3 x0 x1 := by kernel_rfl
theorem zq3.ok : V.Valid Tryz.prog 193 zq3.con :=
  V.fo (V.tab_cons zq195.ok V.tab_nil) Tryz.func193 (by kernel_rfl) (fun x y h => (show V.evBody zq3.E zq3.con Tryz.f193 x = _ from zq3.eq x.1 x.2).trans (V.cfl (by kernel_rfl) h))
noncomputable abbrev zq0.con : V.Con := ⟨(.cons (.sl V.eEntry) .nil), (.cons .bool .nil), fun (x : List TEntry) => zq0 x, [], [(false, 1)], [(false, 1)], [false], []⟩
noncomputable abbrev zq0.E : V.Env := V.mkE V.tys [(192, zq14.con), (193, zq3.con)] [(4, [0, 5, 6, 7], [])] [(4, 15)] [] [] []
noncomputable abbrev zq0.kt (x0 : List TEntry) : V.Kt Bool := V.ktOf zq0.E zq0.con Tryz.f91 ((x0) : List TEntry)
noncomputable abbrev zq0.s4 (x0 : List TEntry) (v4_2 : Int) (v4_3 : Int) : V.St := ⟨[(0, .v false [.val (.sl V.eEntry x0)]), (5, .v false [.val (.sl V.eEntry x0)]), (6, .v false [.val (.int .i64 v4_2)]), (7, .v false [.val (.int .i64 v4_3)])], []⟩
theorem zq0.r4 (x0 : List TEntry) (R : V.St → Option Bool) (v4_2 : Int) (v4_3 : Int) : V.loopF zq0.E Tryz.f91.ntmps [1, 0, 1, 0] [] (V.codeOf Tryz.f91) (zq0.kt x0) R (zq0.s4 x0 v4_2 v4_3) = zq0.g4 x0 (fun v4_2 v4_3 => R (zq0.s4 x0 v4_2 v4_3)) v4_2 v4_3 := by kernel_rfl
theorem zq0.e4 (x0 : List TEntry) : ∀ (n : Nat) (v4_2 : Int) (v4_3 : Int), V.loopN (V.loopF zq0.E Tryz.f91.ntmps [1, 0, 1, 0] [] (V.codeOf Tryz.f91) (zq0.kt x0)) n (zq0.s4 x0 v4_2 v4_3) = zq0.l4 x0 n v4_2 v4_3 := by
  intro n
  induction n with
  | zero => intros; rw [V.loopN_z]; rfl
  | succ n ih =>
    intro v4_2 v4_3
    rw [V.loopN_s, zq0.r4]
    simp only [ih]
    first | exact (zq0.u4 ..).symm | rfl
theorem zq0.v (x0 : List TEntry) : V.evBody zq0.E zq0.con Tryz.f91 ((x0) : List TEntry) = zq0.b x0 (fun v4_2 v4_3 => V.loopN (V.loopF zq0.E Tryz.f91.ntmps [1, 0, 1, 0] [] (V.codeOf Tryz.f91) (zq0.kt x0)) V.KK (zq0.s4 x0 v4_2 v4_3)) := by kernel_rfl
theorem zq0.eq (x0 : List TEntry) : V.evBody zq0.E zq0.con Tryz.f91 ((x0) : List TEntry) = zq0 x0 := by
  rw [zq0.v]
  simp only [zq0.e4]
  rfl
theorem zq0.ok : V.Valid Tryz.prog 91 zq0.con :=
  V.fo (V.tab_cons zq14.ok (V.tab_cons zq3.ok V.tab_nil)) Tryz.func91 (by kernel_rfl) (fun x y h => (show V.evBody zq0.E zq0.con Tryz.f91 x = _ from zq0.eq x).trans (V.cfl (by kernel_rfl) h))
noncomputable abbrev zq1.con : V.Con := ⟨(.cons (.sl (.cons (.int .u8) .nil)) .nil), (.cons (.sl (.cons (.int .i64) .nil)) .nil), fun (x : List Int) => zq1 x, [], [(false, 1)], [(false, 1)], [true], []⟩
noncomputable abbrev zq1.E : V.Env := V.mkE V.tys [] [(6, [3, 9, 10, 11], [])] [] [] [] []
noncomputable abbrev zq1.kt (x0 : List Int) : V.Kt (List Int) := V.ktOf zq1.E zq1.con Tryz.f318 ((x0) : List Int)
noncomputable abbrev zq1.s6 (x0 : List Int) (v6_1 : Int) (v6_2 : Int) (v6_3 : List Int) : V.St := ⟨[(3, .v false [.ref 64000038400192]), (9, .v false [.val (.sl (.cons (.int .u8) .nil) x0)]), (10, .v false [.val (.int .i64 v6_1)]), (11, .v false [.val (.int .i64 v6_2)])], [(64000038400192, .row (.cons (.int .i64) .nil) true v6_3)]⟩
theorem zq1.r6 (x0 : List Int) (R : V.St → Option (List Int)) (v6_1 : Int) (v6_2 : Int) (v6_3 : List Int) : V.loopF zq1.E Tryz.f318.ntmps [1, 1, 0, 1, 0] [] (V.codeOf Tryz.f318) (zq1.kt x0) R (zq1.s6 x0 v6_1 v6_2 v6_3) = zq1.g6 x0 (fun v6_1 v6_2 v6_3 => R (zq1.s6 x0 v6_1 v6_2 v6_3)) v6_1 v6_2 v6_3 := by kernel_rfl
theorem zq1.e6 (x0 : List Int) : ∀ (n : Nat) (v6_1 : Int) (v6_2 : Int) (v6_3 : List Int), V.loopN (V.loopF zq1.E Tryz.f318.ntmps [1, 1, 0, 1, 0] [] (V.codeOf Tryz.f318) (zq1.kt x0)) n (zq1.s6 x0 v6_1 v6_2 v6_3) = zq1.l6 x0 n v6_1 v6_2 v6_3 := by
  intro n
  induction n with
  | zero => intros; rw [V.loopN_z]; rfl
  | succ n ih =>
    intro v6_1 v6_2 v6_3
    rw [V.loopN_s, zq1.r6]
    simp only [ih]
    first | exact (zq1.u6 ..).symm | rfl
theorem zq1.v (x0 : List Int) : V.evBody zq1.E zq1.con Tryz.f318 ((x0) : List Int) = zq1.b x0 (fun v6_1 v6_2 v6_3 => V.loopN (V.loopF zq1.E Tryz.f318.ntmps [1, 1, 0, 1, 0] [] (V.codeOf Tryz.f318) (zq1.kt x0)) V.KK (zq1.s6 x0 v6_1 v6_2 v6_3)) := by kernel_rfl
theorem zq1.eq (x0 : List Int) : V.evBody zq1.E zq1.con Tryz.f318 ((x0) : List Int) = zq1 x0 := by
  rw [zq1.v]
  simp only [zq1.e6]
  rfl
theorem zq1.ok : V.Valid Tryz.prog 318 zq1.con :=
  V.fo V.tab_nil Tryz.func318 (by kernel_rfl) (fun x y h => (show V.evBody zq1.E zq1.con Tryz.f318 x = _ from zq1.eq x).trans (V.cfl (by kernel_rfl) h))
noncomputable abbrev zq28.con : V.Con := ⟨(.cons .str .nil), (.cons (.sl (.cons (.int .i64) .nil)) .nil), fun (x : ByteArray) => zq28 x, [], [(false, 1)], [(false, 1)], [true], []⟩
noncomputable abbrev zq28.E : V.Env := V.mkE V.tys [(318, zq1.con)] [] [] [] [] []
theorem zq28.eq (x0 : ByteArray) : V.evBody zq28.E zq28.con Tryz.f314 ((x0) : ByteArray) = zq28 x0 := by kernel_rfl
theorem zq28.ok : V.Valid Tryz.prog 314 zq28.con :=
  V.fo (V.tab_cons zq1.ok V.tab_nil) Tryz.func314 (by kernel_rfl) (fun x y h => (show V.evBody zq28.E zq28.con Tryz.f314 x = _ from zq28.eq x).trans (V.cfl (by kernel_rfl) h))
noncomputable abbrev zq6.con : V.Con := ⟨V.eEntry, (.cons (.sl (.cons (.int .i64) .nil)) .nil), fun (x : ByteArray × Int × Int × List ByteArray) => zq6 x, [], [(true, 4)], [(false, 1)], [true], []⟩
noncomputable abbrev zq6.E : V.Env := V.mkE V.tys [(314, zq28.con)] [(6, [3, 19, 20, 21], [])] [(1, 11)] [] [] []
noncomputable abbrev zq6.kt (x0 : TEntry) : V.Kt (List Int) := V.ktOf zq6.E zq6.con Tryz.f301 ((x0.1, x0.2.1, x0.2.2.1, x0.2.2.2) : ByteArray × Int × Int × List ByteArray)
noncomputable abbrev zq6.s6 (x0 : TEntry) (v6_1 : Int) (v6_2 : Int) (v6_3 : List Int) : V.St := ⟨[(3, .v false [.ref 64000038400192]), (19, .v false [.val (.sl (.cons .str .nil) x0.2.2.2)]), (20, .v false [.val (.int .i64 v6_1)]), (21, .v false [.val (.int .i64 v6_2)])], [(64000038400192, .row (.cons (.int .i64) .nil) true v6_3)]⟩
theorem zq6.r6 (x0 : TEntry) (R : V.St → Option (List Int)) (v6_1 : Int) (v6_2 : Int) (v6_3 : List Int) : V.loopF zq6.E Tryz.f301.ntmps [1, 1, 0, 1, 0] [] (V.codeOf Tryz.f301) (zq6.kt x0) R (zq6.s6 x0 v6_1 v6_2 v6_3) = zq6.g6 x0 (fun v6_1 v6_2 v6_3 => R (zq6.s6 x0 v6_1 v6_2 v6_3)) v6_1 v6_2 v6_3 := by kernel_rfl
theorem zq6.e6 (x0 : TEntry) : ∀ (n : Nat) (v6_1 : Int) (v6_2 : Int) (v6_3 : List Int), V.loopN (V.loopF zq6.E Tryz.f301.ntmps [1, 1, 0, 1, 0] [] (V.codeOf Tryz.f301) (zq6.kt x0)) n (zq6.s6 x0 v6_1 v6_2 v6_3) = zq6.l6 x0 n v6_1 v6_2 v6_3 := by
  intro n
  induction n with
  | zero => intros; rw [V.loopN_z]; rfl
  | succ n ih =>
    intro v6_1 v6_2 v6_3
    rw [V.loopN_s, zq6.r6]
    simp only [ih]
    first | exact (zq6.u6 ..).symm | rfl
theorem zq6.v (x0 : TEntry) : V.evBody zq6.E zq6.con Tryz.f301 ((x0.1, x0.2.1, x0.2.2.1, x0.2.2.2) : ByteArray × Int × Int × List ByteArray) = zq6.b x0 (fun v6_1 v6_2 v6_3 => V.loopN (V.loopF zq6.E Tryz.f301.ntmps [1, 1, 0, 1, 0] [] (V.codeOf Tryz.f301) (zq6.kt x0)) V.KK (zq6.s6 x0 v6_1 v6_2 v6_3)) := by kernel_rfl
theorem zq6.eq (x0 : TEntry) : V.evBody zq6.E zq6.con Tryz.f301 ((x0.1, x0.2.1, x0.2.2.1, x0.2.2.2) : ByteArray × Int × Int × List ByteArray) = zq6 x0 := by
  rw [zq6.v]
  simp only [zq6.e6]
  rfl
theorem zq6.ok : V.Valid Tryz.prog 301 zq6.con :=
  V.fo (V.tab_cons zq28.ok V.tab_nil) Tryz.func301 (by kernel_rfl) (fun x y h => (show V.evBody zq6.E zq6.con Tryz.f301 x = _ from zq6.eq x).trans (V.cfl (by kernel_rfl) h))
noncomputable abbrev zq29.con : V.Con := ⟨V.eEntry, (.cons (.int .i64) .nil), fun (x : ByteArray × Int × Int × List ByteArray) => zq29 x, [], [(true, 4)], [(false, 1)], [false], []⟩
noncomputable abbrev zq29.E : V.Env := V.mkE V.tys [(260, zq9.con), (301, zq6.con)] [] [] [] [] []
theorem zq29.eq (x0 : TEntry) : V.evBody zq29.E zq29.con Tryz.f263 ((x0.1, x0.2.1, x0.2.2.1, x0.2.2.2) : ByteArray × Int × Int × List ByteArray) = zq29 x0 := by kernel_rfl
theorem zq29.ok : V.Valid Tryz.prog 263 zq29.con :=
  V.fo (V.tab_cons zq9.ok (V.tab_cons zq6.ok V.tab_nil)) Tryz.func263 (by kernel_rfl) (fun x y h => (show V.evBody zq29.E zq29.con Tryz.f263 x = _ from zq29.eq x).trans (V.cfl (by kernel_rfl) h))
noncomputable abbrev zq30.con : V.Con := ⟨(.cons (.sl V.eEntry) .nil), (.cons (.sl (.cons (.int .i64) .nil)) .nil), fun (x : List TEntry) => zq30 x, [], [(false, 1)], [(false, 1)], [true], []⟩
noncomputable abbrev zq30.E : V.Env := V.mkE V.tys [(263, zq29.con)] [(6, [3, 7, 8, 9], [(64000038400192, (.cons (.int .i64) .nil), true)])] [] [] [] []
noncomputable abbrev zq30.kt (x0 : List TEntry) : V.Kt (List Int) := V.ktOf zq30.E zq30.con Tryz.f200 ((x0) : List TEntry)
noncomputable abbrev zq30.s6 (x0 : List TEntry) (v6_1 : Int) (v6_2 : Int) (v6_3 : List Int) : V.St := ⟨[(3, .v false [.ref 64000038400192]), (7, .v false [.val (.sl V.eEntry x0)]), (8, .v false [.val (.int .i64 v6_1)]), (9, .v false [.val (.int .i64 v6_2)])], [(64000038400192, .row (.cons (.int .i64) .nil) true v6_3)]⟩
theorem zq30.r6 (x0 : List TEntry) (R : V.St → Option (List Int)) (v6_1 : Int) (v6_2 : Int) (v6_3 : List Int) : V.loopF zq30.E Tryz.f200.ntmps [1, 1, 0, 1, 0] [] (V.codeOf Tryz.f200) (zq30.kt x0) R (zq30.s6 x0 v6_1 v6_2 v6_3) = zq30.g6 x0 (fun v6_1 v6_2 v6_3 => R (zq30.s6 x0 v6_1 v6_2 v6_3)) v6_1 v6_2 v6_3 := by kernel_rfl
theorem zq30.e6 (x0 : List TEntry) : ∀ (n : Nat) (v6_1 : Int) (v6_2 : Int) (v6_3 : List Int), V.loopN (V.loopF zq30.E Tryz.f200.ntmps [1, 1, 0, 1, 0] [] (V.codeOf Tryz.f200) (zq30.kt x0)) n (zq30.s6 x0 v6_1 v6_2 v6_3) = zq30.l6 x0 n v6_1 v6_2 v6_3 := by
  intro n
  induction n with
  | zero => intros; rw [V.loopN_z]; rfl
  | succ n ih =>
    intro v6_1 v6_2 v6_3
    rw [V.loopN_s, zq30.r6]
    simp only [ih]
    first | exact (zq30.u6 ..).symm | rfl
theorem zq30.v (x0 : List TEntry) : V.evBody zq30.E zq30.con Tryz.f200 ((x0) : List TEntry) = zq30.b x0 (fun v6_1 v6_2 v6_3 => V.loopN (V.loopF zq30.E Tryz.f200.ntmps [1, 1, 0, 1, 0] [] (V.codeOf Tryz.f200) (zq30.kt x0)) V.KK (zq30.s6 x0 v6_1 v6_2 v6_3)) := by kernel_rfl
theorem zq30.eq (x0 : List TEntry) : V.evBody zq30.E zq30.con Tryz.f200 ((x0) : List TEntry) = zq30 x0 := by
  rw [zq30.v]
  simp only [zq30.e6]
  rfl
theorem zq30.ok : V.Valid Tryz.prog 200 zq30.con :=
  V.fo (V.tab_cons zq29.ok V.tab_nil) Tryz.func200 (by kernel_rfl) (fun x y h => (show V.evBody zq30.E zq30.con Tryz.f200 x = _ from zq30.eq x).trans (V.cfl (by kernel_rfl) h))
noncomputable abbrev zq57.con : V.Con := ⟨(.cons (.sl (.cons (.int .i64) .nil)) .nil), (.cons (.int .i64) .nil), fun (x : List Int) => zq57 x, [], [(false, 1)], [(false, 1)], [false], []⟩
noncomputable abbrev zq57.E : V.Env := V.mkE V.tys [(260, zq9.con)] [] [] [] [] []
theorem zq57.eq (x0 : List Int) : V.evBody zq57.E zq57.con Tryz.f261 ((x0) : List Int) = zq57 x0 := by kernel_rfl
theorem zq57.ok : V.Valid Tryz.prog 261 zq57.con :=
  V.fo (V.tab_cons zq9.ok V.tab_nil) Tryz.func261 (by kernel_rfl) (fun x y h => (show V.evBody zq57.E zq57.con Tryz.f261 x = _ from zq57.eq x).trans (V.cfl (by kernel_rfl) h))
noncomputable abbrev zq35.con : V.Con := ⟨(.cons (.int .i64) (.cons (.int .i64) .nil)), (.cons (.int .i64) .nil), fun (x : Int × Int) => zq35 x.1 x.2, [], [(false, 1), (false, 1)], [(false, 1)], [false], []⟩
noncomputable abbrev zq35.E : V.Env := V.mkE V.tys [(261, zq57.con)] [] [] [] [] []
theorem zq35.eq (x0 : Int) (x1 : Int) : V.evBody zq35.E zq35.con Tryz.f300 ((x0, x1) : Int × Int) = zq35 x0 x1 := by kernel_rfl
theorem zq35.ok : V.Valid Tryz.prog 300 zq35.con :=
  V.fo (V.tab_cons zq57.ok V.tab_nil) Tryz.func300 (by kernel_rfl) (fun x y h => (show V.evBody zq35.E zq35.con Tryz.f300 x = _ from zq35.eq x.1 x.2).trans (V.cfl (by kernel_rfl) h))
noncomputable abbrev zq46.con : V.Con := ⟨(.cons (.sl (.cons (.int .i64) .nil)) .nil), (.cons (.sl (.cons (.int .i64) .nil)) .nil), fun (x : List Int) => zq46 x, [], [(false, 1)], [(false, 1)], [true], []⟩
noncomputable abbrev zq46.E : V.Env := V.mkE V.tys [(300, zq35.con)] [(6, [0, 3, 4], [(64000038400192, (.cons (.int .i64) .nil), true)])] [(6, 12)] [] [] []
noncomputable abbrev zq46.kt (x0 : List Int) : V.Kt (List Int) := V.ktOf zq46.E zq46.con Tryz.f262 ((x0) : List Int)
noncomputable abbrev zq46.s6 (x0 : List Int) (v6_1 : Int) (v6_2 : List Int) : V.St := ⟨[(0, .v false [.val (.sl (.cons (.int .i64) .nil) x0)]), (3, .v false [.ref 64000038400192]), (4, .v false [.val (.int .i64 v6_1)])], [(64000038400192, .row (.cons (.int .i64) .nil) true v6_2)]⟩
theorem zq46.r6 (x0 : List Int) (R : V.St → Option (List Int)) (v6_1 : Int) (v6_2 : List Int) : V.loopF zq46.E Tryz.f262.ntmps [1, 1, 0, 1, 0] [] (V.codeOf Tryz.f262) (zq46.kt x0) R (zq46.s6 x0 v6_1 v6_2) = zq46.g6 x0 (fun v6_1 v6_2 => R (zq46.s6 x0 v6_1 v6_2)) v6_1 v6_2 := by kernel_rfl
theorem zq46.e6 (x0 : List Int) : ∀ (n : Nat) (v6_1 : Int) (v6_2 : List Int), V.loopN (V.loopF zq46.E Tryz.f262.ntmps [1, 1, 0, 1, 0] [] (V.codeOf Tryz.f262) (zq46.kt x0)) n (zq46.s6 x0 v6_1 v6_2) = zq46.l6 x0 n v6_1 v6_2 := by
  intro n
  induction n with
  | zero => intros; rw [V.loopN_z]; rfl
  | succ n ih =>
    intro v6_1 v6_2
    rw [V.loopN_s, zq46.r6]
    simp only [ih]
    first | exact (zq46.u6 ..).symm | rfl
theorem zq46.v (x0 : List Int) : V.evBody zq46.E zq46.con Tryz.f262 ((x0) : List Int) = zq46.b x0 (fun v6_1 v6_2 => V.loopN (V.loopF zq46.E Tryz.f262.ntmps [1, 1, 0, 1, 0] [] (V.codeOf Tryz.f262) (zq46.kt x0)) V.KK (zq46.s6 x0 v6_1 v6_2)) := by kernel_rfl
theorem zq46.eq (x0 : List Int) : V.evBody zq46.E zq46.con Tryz.f262 ((x0) : List Int) = zq46 x0 := by
  rw [zq46.v]
  simp only [zq46.e6]
  rfl
theorem zq46.ok : V.Valid Tryz.prog 262 zq46.con :=
  V.fo (V.tab_cons zq35.ok V.tab_nil) Tryz.func262 (by kernel_rfl) (fun x y h => (show V.evBody zq46.E zq46.con Tryz.f262 x = _ from zq46.eq x).trans (V.cfl (by kernel_rfl) h))
noncomputable abbrev zq43.con : V.Con := ⟨(.cons (.sl (.cons (.int .i64) .nil)) .nil), (.cons (.int .i64) .nil), fun (x : List Int) => zq43 x, [], [(false, 1)], [(false, 1)], [false], []⟩
noncomputable abbrev zq43.E : V.Env := V.mkE V.tys [(261, zq57.con), (262, zq46.con)] [(6, [0], [(0, (.cons (.int .i64) .nil), false)])] [] [] [] []
noncomputable abbrev zq43.kt (x0 : List Int) : V.Kt Int := V.ktOf zq43.E zq43.con Tryz.f199 ((x0) : List Int)
noncomputable abbrev zq43.s6 (v6_0 : List Int) : V.St := ⟨[(0, .v false [.val (.sl (.cons (.int .i64) .nil) v6_0)])], []⟩
theorem zq43.r6 (x0 : List Int) (R : V.St → Option Int) (v6_0 : List Int) : V.loopF zq43.E Tryz.f199.ntmps [1, 1, 0, 0] [] (V.codeOf Tryz.f199) (zq43.kt x0) R (zq43.s6 v6_0) = zq43.g6 (fun v6_0 => R (zq43.s6 v6_0)) v6_0 := by kernel_rfl
theorem zq43.e6 (x0 : List Int) : ∀ (n : Nat) (v6_0 : List Int), V.loopN (V.loopF zq43.E Tryz.f199.ntmps [1, 1, 0, 0] [] (V.codeOf Tryz.f199) (zq43.kt x0)) n (zq43.s6 v6_0) = zq43.l6 n v6_0 := by
  intro n
  induction n with
  | zero => intros; rw [V.loopN_z]; rfl
  | succ n ih =>
    intro v6_0
    rw [V.loopN_s, zq43.r6]
    simp only [ih]
    first | exact (zq43.u6 ..).symm | rfl
theorem zq43.v (x0 : List Int) : V.evBody zq43.E zq43.con Tryz.f199 ((x0) : List Int) = zq43.b x0 (fun v6_0 => V.loopN (V.loopF zq43.E Tryz.f199.ntmps [1, 1, 0, 0] [] (V.codeOf Tryz.f199) (zq43.kt x0)) V.KK (zq43.s6 v6_0)) := by kernel_rfl
theorem zq43.eq (x0 : List Int) : V.evBody zq43.E zq43.con Tryz.f199 ((x0) : List Int) = zq43 x0 := by
  rw [zq43.v]
  simp only [zq43.e6]
  rfl
theorem zq43.ok : V.Valid Tryz.prog 199 zq43.con :=
  V.fo (V.tab_cons zq57.ok (V.tab_cons zq46.ok V.tab_nil)) Tryz.func199 (by kernel_rfl) (fun x y h => (show V.evBody zq43.E zq43.con Tryz.f199 x = _ from zq43.eq x).trans (V.cfl (by kernel_rfl) h))
noncomputable abbrev zq68.con : V.Con := ⟨(.cons (.int .i64) (.cons (.int .i64) .nil)), (.cons (.int .i64) .nil), fun (x : Int × Int) => zq68 x.1 x.2, [], [(false, 1), (false, 1)], [(false, 1)], [false], []⟩
noncomputable abbrev zq68.E : V.Env := V.mkE V.tys [(261, zq57.con)] [] [] [] [] []
theorem zq68.eq (x0 : Int) (x1 : Int) : V.evBody zq68.E zq68.con Tryz.f198 ((x0, x1) : Int × Int) = zq68 x0 x1 := by kernel_rfl
theorem zq68.ok : V.Valid Tryz.prog 198 zq68.con :=
  V.fo (V.tab_cons zq57.ok V.tab_nil) Tryz.func198 (by kernel_rfl) (fun x y h => (show V.evBody zq68.E zq68.con Tryz.f198 x = _ from zq68.eq x.1 x.2).trans (V.cfl (by kernel_rfl) h))
noncomputable abbrev zq36.con : V.Con := ⟨(.cons (.sl V.eEntry) .nil), (.cons (.int .i64) .nil), fun (x : List TEntry) => zq36 x, [], [(false, 1)], [(false, 1)], [false], []⟩
noncomputable abbrev zq36.E : V.Env := V.mkE V.tys [(198, zq68.con), (199, zq43.con), (200, zq30.con)] [] [] [] [] []
theorem zq36.eq (x0 : List TEntry) : V.evBody zq36.E zq36.con Tryz.f94 ((x0) : List TEntry) = zq36 x0 := by kernel_rfl
theorem zq36.ok : V.Valid Tryz.prog 94 zq36.con :=
  V.fo (V.tab_cons zq68.ok (V.tab_cons zq43.ok (V.tab_cons zq30.ok V.tab_nil))) Tryz.func94 (by kernel_rfl) (fun x y h => (show V.evBody zq36.E zq36.con Tryz.f94 x = _ from zq36.eq x).trans (V.cfl (by kernel_rfl) h))
noncomputable abbrev zq2.con : V.Con := ⟨(.cons (.int .i64) (.cons (.sl V.eEntry) .nil)), (.cons .bool .nil), fun (x : Int × List TEntry) => zq2 x.1 x.2, [], [(false, 1), (false, 1)], [(false, 1)], [false], []⟩
noncomputable abbrev zq2.E : V.Env := V.mkE V.tys [(91, zq0.con), (94, zq36.con)] [] [] [] [] []
theorem zq2.eq (x0 : Int) (x1 : List TEntry) : V.evBody zq2.E zq2.con Tryz.f136 ((x0, x1) : Int × List TEntry) = zq2 x0 x1 := by kernel_rfl
theorem zq2.ok : V.Valid Tryz.prog 136 zq2.con :=
  V.fo (V.tab_cons zq0.ok (V.tab_cons zq36.ok V.tab_nil)) Tryz.func136 (by kernel_rfl) (fun x y h => (show V.evBody zq2.E zq2.con Tryz.f136 x = _ from zq2.eq x.1 x.2).trans (V.cfl (by kernel_rfl) h))
noncomputable abbrev zq25.con : V.Con := ⟨(.cons (.sl V.eSigned) (.cons (.sl V.eEntry) .nil)), (.cons .bool .nil), fun (x : List TSigned × List TEntry) => zq25 x, [], [(true, 2)], [(false, 1)], [false], []⟩
noncomputable abbrev zq25.E : V.Env := V.mkE V.tys [(104, zq13.con), (130, zq66.con), (136, zq2.con)] [] [] [] [] []
theorem zq25.eq (x0 : TZone) : V.evBody zq25.E zq25.con Tryz.f46 ((x0.1, x0.2) : List TSigned × List TEntry) = zq25 x0 := by kernel_rfl
theorem zq25.ok : V.Valid Tryz.prog 46 zq25.con :=
  V.fo (V.tab_cons zq13.ok (V.tab_cons zq66.ok (V.tab_cons zq2.ok V.tab_nil))) Tryz.func46 (by kernel_rfl) (fun x y h => (show V.evBody zq25.E zq25.con Tryz.f46 x = _ from zq25.eq x).trans (V.cfl (by kernel_rfl) h))
noncomputable abbrev zq22.con : V.Con := ⟨(.cons (.sl V.eSigned) (.cons (.sl V.eEntry) .nil)), (.cons .bool .nil), fun (x : List TSigned × List TEntry) => zq22 x, [], [(true, 2)], [(false, 1)], [false], []⟩
noncomputable abbrev zq22.E : V.Env := V.mkE V.tys [(46, zq25.con)] [] [] [] [] []
theorem zq22.eq (x0 : TZone) : V.evBody zq22.E zq22.con Tryz.f150 ((x0.1, x0.2) : List TSigned × List TEntry) = zq22 x0 := by kernel_rfl
theorem zq22.ok : V.Valid Tryz.prog 150 zq22.con :=
  V.fo (V.tab_cons zq25.ok V.tab_nil) Tryz.func150 (by kernel_rfl) (fun x y h => (show V.evBody zq22.E zq22.con Tryz.f150 x = _ from zq22.eq x).trans (V.cfl (by kernel_rfl) h))
noncomputable abbrev zq135.con : V.Con := ⟨(.cons (.sl (.cons (.sl V.eSigned) (.cons (.sl V.eEntry) .nil))) (.cons (.fn 150 false .nil .nil) .nil)), (.cons (.int .i64) .nil), fun (x : List TZone × (Unit) × (Unit)) => zq135 x.1 x.2, [], [(false, 1), (false, 1)], [(false, 1)], [false], []⟩
noncomputable abbrev zq135.E : V.Env := V.mkE V.tys [(150, zq22.con)] [(4, [0, 1, 7, 8], [])] [] [] [] []
noncomputable abbrev zq135.kt (x0 : List TZone) (x1 : (Unit) × (Unit)) : V.Kt Int := V.ktOf zq135.E zq135.con Tryz.f153 ((x0, x1) : List TZone × (Unit) × (Unit))
noncomputable abbrev zq135.s4 (x0 : List TZone) (v4_1 : Int) (v4_2 : Int) : V.St := ⟨[(0, .v false [.val (.sl (.cons (.sl V.eSigned) (.cons (.sl V.eEntry) .nil)) x0)]), (1, .v false [.val (.fn 150 false .nil .nil () ())]), (7, .v false [.val (.int .i64 v4_1)]), (8, .v false [.val (.int .i64 v4_2)])], []⟩
theorem zq135.r4 (x0 : List TZone) (x1 : (Unit) × (Unit)) (R : V.St → Option Int) (v4_1 : Int) (v4_2 : Int) : V.loopF zq135.E Tryz.f153.ntmps [1, 0, 1, 0] [] (V.codeOf Tryz.f153) (zq135.kt x0 x1) R (zq135.s4 x0 v4_1 v4_2) = zq135.g4 x0 (fun v4_1 v4_2 => R (zq135.s4 x0 v4_1 v4_2)) v4_1 v4_2 := by kernel_rfl
theorem zq135.e4 (x0 : List TZone) (x1 : (Unit) × (Unit)) : ∀ (n : Nat) (v4_1 : Int) (v4_2 : Int), V.loopN (V.loopF zq135.E Tryz.f153.ntmps [1, 0, 1, 0] [] (V.codeOf Tryz.f153) (zq135.kt x0 x1)) n (zq135.s4 x0 v4_1 v4_2) = zq135.l4 x0 n v4_1 v4_2 := by
  intro n
  induction n with
  | zero => intros; rw [V.loopN_z]; rfl
  | succ n ih =>
    intro v4_1 v4_2
    rw [V.loopN_s, zq135.r4]
    simp only [ih]
    first | exact (zq135.u4 ..).symm | rfl
theorem zq135.v (x0 : List TZone) (x1 : (Unit) × (Unit)) : V.evBody zq135.E zq135.con Tryz.f153 ((x0, x1) : List TZone × (Unit) × (Unit)) = zq135.b x0 x1 (fun v4_1 v4_2 => V.loopN (V.loopF zq135.E Tryz.f153.ntmps [1, 0, 1, 0] [] (V.codeOf Tryz.f153) (zq135.kt x0 x1)) V.KK (zq135.s4 x0 v4_1 v4_2)) := by kernel_rfl
theorem zq135.eq (x0 : List TZone) (x1 : (Unit) × (Unit)) : V.evBody zq135.E zq135.con Tryz.f153 ((x0, x1) : List TZone × (Unit) × (Unit)) = zq135 x0 x1 := by
  rw [zq135.v]
  simp only [zq135.e4]
  rfl
theorem zq135.ok : V.Valid Tryz.prog 153 zq135.con :=
  V.fo (V.tab_cons zq22.ok V.tab_nil) Tryz.func153 (by kernel_rfl) (fun x y h => (show V.evBody zq135.E zq135.con Tryz.f153 x = _ from zq135.eq x.1 x.2).trans (V.cfl (by kernel_rfl) h))
noncomputable abbrev zq130.con : V.Con := ⟨(.cons (.sl (.cons (.sl V.eSigned) (.cons (.sl V.eEntry) .nil))) (.cons (.fn 150 false .nil .nil) .nil)), (.cons .bool .nil), fun (x : List TZone × (Unit) × (Unit)) => zq130 x.1 x.2, [], [(false, 1), (false, 1)], [(false, 1)], [false], []⟩
noncomputable abbrev zq130.E : V.Env := V.mkE V.tys [(153, zq135.con)] [] [] [] [] []
theorem zq130.eq (x0 : List TZone) (x1 : (Unit) × (Unit)) : V.evBody zq130.E zq130.con Tryz.f149 ((x0, x1) : List TZone × (Unit) × (Unit)) = zq130 x0 x1 := by kernel_rfl
theorem zq130.ok : V.Valid Tryz.prog 149 zq130.con :=
  V.fo (V.tab_cons zq135.ok V.tab_nil) Tryz.func149 (by kernel_rfl) (fun x y h => (show V.evBody zq130.E zq130.con Tryz.f149 x = _ from zq130.eq x.1 x.2).trans (V.cfl (by kernel_rfl) h))
noncomputable abbrev zq21.con : V.Con := ⟨(.cons (.sl (.cons (.sl V.eSigned) (.cons (.sl V.eEntry) .nil))) (.cons (.int .i64) .nil)), (.cons .bool .nil), fun (x : List TZone × Int) => zq21 x, [], [(true, 2)], [(false, 1)], [false], []⟩
noncomputable abbrev zq21.E : V.Env := V.mkE V.tys [(149, zq130.con), (151, zq12.con)] [] [] [] [] []
theorem zq21.eq (x0 : TServer) : V.evBody zq21.E zq21.con Tryz.f61 ((x0.1, x0.2) : List TZone × Int) = zq21 x0 := by kernel_rfl
theorem zq21.ok : V.Valid Tryz.prog 61 zq21.con :=
  V.fo (V.tab_cons zq130.ok (V.tab_cons zq12.ok V.tab_nil)) Tryz.func61 (by kernel_rfl) (fun x y h => (show V.evBody zq21.E zq21.con Tryz.f61 x = _ from zq21.eq x).trans (V.cfl (by kernel_rfl) h))
noncomputable abbrev zq44.con : V.Con := ⟨(.cons (.sl V.eSigned) (.cons (.sl V.eEntry) .nil)), (.cons (.int .i64) .nil), fun (x : List TSigned × List TEntry) => zq44 x, [], [(true, 2)], [(false, 1)], [false], []⟩
noncomputable abbrev zq44.E : V.Env := V.mkE V.tys [(46, zq25.con), (130, zq66.con)] [] [] [] [] []
theorem zq44.eq (x0 : TZone) : V.evBody zq44.E zq44.con Tryz.f49 ((x0.1, x0.2) : List TSigned × List TEntry) = zq44 x0 := by kernel_rfl
theorem zq44.ok : V.Valid Tryz.prog 49 zq44.con :=
  V.fo (V.tab_cons zq25.ok (V.tab_cons zq66.ok V.tab_nil)) Tryz.func49 (by kernel_rfl) (fun x y h => (show V.evBody zq44.E zq44.con Tryz.f49 x = _ from zq44.eq x).trans (V.cfl (by kernel_rfl) h))
noncomputable abbrev zq39.con : V.Con := ⟨(.cons (.sl V.eSigned) (.cons (.sl V.eEntry) (.cons (.ptr (.cons (.int .i64) .nil)) .nil))), (.cons .bool .nil), fun (x : List TSigned × List TEntry × Int) => zq39 (x.1, x.2.1) x.2.2, [], [(true, 2), (false, 1)], [(false, 1)], [false], []⟩
noncomputable abbrev zq39.E : V.Env := V.mkE V.tys [(49, zq44.con)] [] [(1, 3)] [] [] []
theorem zq39.eq (x0 : TZone) (x1 : Int) : V.evBody zq39.E zq39.con Tryz.f154 ((x0.1, x0.2, x1) : List TSigned × List TEntry × Int) = zq39 x0 x1 := by kernel_rfl
theorem zq39.ok : V.Valid Tryz.prog 154 zq39.con :=
  V.fo (V.tab_cons zq44.ok V.tab_nil) Tryz.func154 (by kernel_rfl) (fun x y h => (show V.evBody zq39.E zq39.con Tryz.f154 x = _ from zq39.eq (x.1, x.2.1) x.2.2).trans (V.cfl (by kernel_rfl) h))
noncomputable abbrev zq136.con : V.Con := ⟨(.cons (.sl (.cons (.sl V.eSigned) (.cons (.sl V.eEntry) .nil))) (.cons (.fn 154 false .nil (.cons (.ptr (.cons (.int .i64) .nil)) .nil)) .nil)), (.cons (.int .i64) .nil), fun (x : List TZone × (Unit) × (Int)) => zq136 x.1 x.2, [], [(false, 1), (false, 1)], [(false, 1)], [false], []⟩
noncomputable abbrev zq136.E : V.Env := V.mkE V.tys [(154, zq39.con)] [(4, [0, 1, 7, 8], [])] [] [] [] []
noncomputable abbrev zq136.kt (x0 : List TZone) (x1 : (Unit) × (Int)) : V.Kt Int := V.ktOf zq136.E zq136.con Tryz.f153 ((x0, x1) : List TZone × (Unit) × (Int))
noncomputable abbrev zq136.s4 (x0 : List TZone) (x1 : (Unit) × (Int)) (v4_2 : Int) (v4_3 : Int) : V.St := ⟨[(0, .v false [.val (.sl (.cons (.sl V.eSigned) (.cons (.sl V.eEntry) .nil)) x0)]), (1, .v false [.val (.fn 154 false .nil (.cons (.ptr (.cons (.int .i64) .nil)) .nil) () x1.2)]), (7, .v false [.val (.int .i64 v4_2)]), (8, .v false [.val (.int .i64 v4_3)])], []⟩
theorem zq136.r4 (x0 : List TZone) (x1 : (Unit) × (Int)) (R : V.St → Option Int) (v4_2 : Int) (v4_3 : Int) : V.loopF zq136.E Tryz.f153.ntmps [1, 0, 1, 0] [] (V.codeOf Tryz.f153) (zq136.kt x0 x1) R (zq136.s4 x0 x1 v4_2 v4_3) = zq136.g4 x0 x1 (fun v4_2 v4_3 => R (zq136.s4 x0 x1 v4_2 v4_3)) v4_2 v4_3 := by kernel_rfl
theorem zq136.e4 (x0 : List TZone) (x1 : (Unit) × (Int)) : ∀ (n : Nat) (v4_2 : Int) (v4_3 : Int), V.loopN (V.loopF zq136.E Tryz.f153.ntmps [1, 0, 1, 0] [] (V.codeOf Tryz.f153) (zq136.kt x0 x1)) n (zq136.s4 x0 x1 v4_2 v4_3) = zq136.l4 x0 x1 n v4_2 v4_3 := by
  intro n
  induction n with
  | zero => intros; rw [V.loopN_z]; rfl
  | succ n ih =>
    intro v4_2 v4_3
    rw [V.loopN_s, zq136.r4]
    simp only [ih]
    first | exact (zq136.u4 ..).symm | rfl
theorem zq136.v (x0 : List TZone) (x1 : (Unit) × (Int)) : V.evBody zq136.E zq136.con Tryz.f153 ((x0, x1) : List TZone × (Unit) × (Int)) = zq136.b x0 x1 (fun v4_2 v4_3 => V.loopN (V.loopF zq136.E Tryz.f153.ntmps [1, 0, 1, 0] [] (V.codeOf Tryz.f153) (zq136.kt x0 x1)) V.KK (zq136.s4 x0 x1 v4_2 v4_3)) := by kernel_rfl
theorem zq136.eq (x0 : List TZone) (x1 : (Unit) × (Int)) : V.evBody zq136.E zq136.con Tryz.f153 ((x0, x1) : List TZone × (Unit) × (Int)) = zq136 x0 x1 := by
  rw [zq136.v]
  simp only [zq136.e4]
  rfl
theorem zq136.ok : V.Valid Tryz.prog 153 zq136.con :=
  V.fo (V.tab_cons zq39.ok V.tab_nil) Tryz.func153 (by kernel_rfl) (fun x y h => (show V.evBody zq136.E zq136.con Tryz.f153 x = _ from zq136.eq x.1 x.2).trans (V.cfl (by kernel_rfl) h))
noncomputable abbrev zq38.con : V.Con := ⟨(.cons (.sl (.cons (.sl V.eSigned) (.cons (.sl V.eEntry) .nil))) (.cons (.int .i64) (.cons (.int .i64) .nil))), (.cons (.int .i64) .nil), fun (x : List TZone × Int × Int) => zq38 (x.1, x.2.1) x.2.2, [], [(true, 2), (false, 1)], [(false, 1)], [false], []⟩
noncomputable abbrev zq38.E : V.Env := V.mkE V.tys [(153, zq136.con)] [] [] [] [] []
theorem zq38.eq (x0 : TServer) (x1 : Int) : V.evBody zq38.E zq38.con Tryz.f64 ((x0.1, x0.2, x1) : List TZone × Int × Int) = zq38 x0 x1 := by kernel_rfl
theorem zq38.ok : V.Valid Tryz.prog 64 zq38.con :=
  V.fo (V.tab_cons zq136.ok V.tab_nil) Tryz.func64 (by kernel_rfl) (fun x y h => (show V.evBody zq38.E zq38.con Tryz.f64 x = _ from zq38.eq (x.1, x.2.1) x.2.2).trans (V.cfl (by kernel_rfl) h))
noncomputable abbrev zq41.con : V.Con := ⟨(.cons (.sl (.cons (.sl V.eSigned) (.cons (.sl V.eEntry) .nil))) (.cons (.int .i64) (.cons (.sl V.eSigned) (.cons (.sl V.eEntry) .nil)))), (.cons (.sl (.cons (.sl V.eSigned) (.cons (.sl V.eEntry) .nil))) (.cons (.int .i64) (.cons .bool .nil))), fun (x : List TZone × Int × List TSigned × List TEntry) => zq41 (x.1, x.2.1) x.2.2, [], [(true, 2), (true, 2)], [(true, 2), (false, 1)], [true, false, false], []⟩
noncomputable abbrev zq41.E : V.Env := V.mkE V.tys [(46, zq25.con), (49, zq44.con), (61, zq21.con), (64, zq38.con), (175, zq56.con), (179, zq54.con)] [(7, [2, 3, 4, 6, 17], [])] [(4, 3), (5, 4), (7, 5)] [] [] [(5, [0, 1])]
noncomputable abbrev zq41.kt (x0 : TServer) (x1 : TZone) : V.Kt TRServerBool := V.ktOf zq41.E zq41.con Tryz.f82 ((x0.1, x0.2, x1.1, x1.2) : List TZone × Int × List TSigned × List TEntry)
noncomputable abbrev zq41.s7 (x0 : TServer) (x1 : TZone) (y1 : TServer) (v7_0 : Bool) : V.St := ⟨[(2, .v false [.ptr 64000 0]), (3, .v false [.ptr 64064 0]), (4, .v false [.ptr 64128 0]), (6, .v false [.ptr 128128 0]), (17, .v false [.val (.bool v7_0)])], [(64000, .box [.val (.sl (.cons (.sl V.eSigned) (.cons (.sl V.eEntry) .nil)) x0.1), .val (.int .i64 x0.2)]), (64064, .box [.val (.sl V.eSigned x1.1), .val (.sl V.eEntry x1.2)]), (64128, .box [.nil0, .val (.int .i64 (0 : Int))]), (128128, .box [.ref 64000000000008200192, .val (.int .i64 y1.2)]), (64000000000008200192, .row (.cons (.sl V.eSigned) (.cons (.sl V.eEntry) .nil)) true y1.1)]⟩
theorem zq41.r7 (x0 : TServer) (x1 : TZone) (y1 : TServer) (v7_0 : Bool) : V.joinF zq41.E Tryz.f82.ntmps [1, 1, 0] [] (V.codeOf Tryz.f82) (zq41.kt x0 x1) (zq41.s7 x0 x1 y1 v7_0) = zq41.g7 x0 x1 y1 v7_0 := by kernel_rfl
theorem zq41.e7 (x0 : TServer) (x1 : TZone) (y1 : TServer) (v7_0 : Bool) : V.jn (V.joinF zq41.E Tryz.f82.ntmps [1, 1, 0] [] (V.codeOf Tryz.f82) (zq41.kt x0 x1)) (zq41.s7 x0 x1 y1 v7_0) = zq41.l7 x0 x1 y1 v7_0 := by
  rw [V.jn_eq, zq41.r7]
  rfl
theorem zq41.v (x0 : TServer) (x1 : TZone) : V.evBody zq41.E zq41.con Tryz.f82 ((x0.1, x0.2, x1.1, x1.2) : List TZone × Int × List TSigned × List TEntry) = zq41.b x0 x1 (fun y1 v7_0 => V.jn (V.joinF zq41.E Tryz.f82.ntmps [1, 1, 0] [] (V.codeOf Tryz.f82) (zq41.kt x0 x1)) (zq41.s7 x0 x1 y1 v7_0)) := by kernel_rfl
theorem zq41.eq (x0 : TServer) (x1 : TZone) : V.evBody zq41.E zq41.con Tryz.f82 ((x0.1, x0.2, x1.1, x1.2) : List TZone × Int × List TSigned × List TEntry) = zq41 x0 x1 := by
  rw [zq41.v]
  simp only [zq41.e7]
  rfl
theorem zq41.ok : V.Valid Tryz.prog 82 zq41.con :=
  V.fo (V.tab_cons zq25.ok (V.tab_cons zq44.ok (V.tab_cons zq21.ok (V.tab_cons zq38.ok (V.tab_cons zq56.ok (V.tab_cons zq54.ok V.tab_nil)))))) Tryz.func82 (by kernel_rfl) (fun x y h => (show V.evBody zq41.E zq41.con Tryz.f82 x = _ from zq41.eq (x.1, x.2.1) x.2.2).trans (V.cfl (by kernel_rfl) h))
noncomputable abbrev zq74.con : V.Con := ⟨(.cons (.sl (.cons (.int .i64) .nil)) (.cons (.sl (.cons (.int .i64) .nil)) .nil)), (.cons .bool .nil), fun (x : List Int × List Int) => zq74 x.1 x.2, [], [(false, 1), (false, 1)], [(false, 1)], [false], []⟩
noncomputable abbrev zq74.E : V.Env := V.mkE V.tys [] [(8, [0, 1, 5], [])] [(6, 8)] [] [] []
noncomputable abbrev zq74.kt (x0 : List Int) (x1 : List Int) : V.Kt Bool := V.ktOf zq74.E zq74.con Tryz.f79 ((x0, x1) : List Int × List Int)
noncomputable abbrev zq74.s8 (x0 : List Int) (x1 : List Int) (v8_2 : Int) : V.St := ⟨[(0, .v false [.val (.sl (.cons (.int .i64) .nil) x0)]), (1, .v false [.val (.sl (.cons (.int .i64) .nil) x1)]), (5, .v false [.val (.int .i64 v8_2)])], []⟩
theorem zq74.r8 (x0 : List Int) (x1 : List Int) (R : V.St → Option Bool) (v8_2 : Int) : V.loopF zq74.E Tryz.f79.ntmps [1, 1, 0, 1, 0] [] (V.codeOf Tryz.f79) (zq74.kt x0 x1) R (zq74.s8 x0 x1 v8_2) = zq74.g8 x0 x1 (fun v8_2 => R (zq74.s8 x0 x1 v8_2)) v8_2 := by kernel_rfl
theorem zq74.e8 (x0 : List Int) (x1 : List Int) : ∀ (n : Nat) (v8_2 : Int), V.loopN (V.loopF zq74.E Tryz.f79.ntmps [1, 1, 0, 1, 0] [] (V.codeOf Tryz.f79) (zq74.kt x0 x1)) n (zq74.s8 x0 x1 v8_2) = zq74.l8 x0 x1 n v8_2 := by
  intro n
  induction n with
  | zero => intros; rw [V.loopN_z]; rfl
  | succ n ih =>
    intro v8_2
    rw [V.loopN_s, zq74.r8]
    simp only [ih]
    first | exact (zq74.u8 ..).symm | rfl
theorem zq74.v (x0 : List Int) (x1 : List Int) : V.evBody zq74.E zq74.con Tryz.f79 ((x0, x1) : List Int × List Int) = zq74.b x0 x1 (fun v8_2 => V.loopN (V.loopF zq74.E Tryz.f79.ntmps [1, 1, 0, 1, 0] [] (V.codeOf Tryz.f79) (zq74.kt x0 x1)) V.KK (zq74.s8 x0 x1 v8_2)) := by kernel_rfl
theorem zq74.eq (x0 : List Int) (x1 : List Int) : V.evBody zq74.E zq74.con Tryz.f79 ((x0, x1) : List Int × List Int) = zq74 x0 x1 := by
  rw [zq74.v]
  simp only [zq74.e8]
  rfl
theorem zq74.ok : V.Valid Tryz.prog 79 zq74.con :=
  V.fo V.tab_nil Tryz.func79 (by kernel_rfl) (fun x y h => (show V.evBody zq74.E zq74.con Tryz.f79 x = _ from zq74.eq x.1 x.2).trans (V.cfl (by kernel_rfl) h))
noncomputable abbrev zq75.con : V.Con := ⟨(.cons (.sl (.cons (.int .i64) .nil)) (.cons (.int .i64) (.cons (.sl (.cons (.int .i64) .nil)) (.cons (.int .i64) .nil)))), (.cons .bool .nil), fun (x : List Int × Int × List Int × Int) => zq75 (x.1, x.2.1) x.2.2, [], [(true, 2), (true, 2)], [(false, 1)], [false], []⟩
noncomputable abbrev zq75.E : V.Env := V.mkE V.tys [(79, zq74.con)] [] [] [] [] []
theorem zq75.eq (x0 : TKeys) (x1 : TKeys) : V.evBody zq75.E zq75.con Tryz.f54 ((x0.1, x0.2, x1.1, x1.2) : List Int × Int × List Int × Int) = zq75 x0 x1 := by kernel_rfl
theorem zq75.ok : V.Valid Tryz.prog 54 zq75.con :=
  V.fo (V.tab_cons zq74.ok V.tab_nil) Tryz.func54 (by kernel_rfl) (fun x y h => (show V.evBody zq75.E zq75.con Tryz.f54 x = _ from zq75.eq (x.1, x.2.1) x.2.2).trans (V.cfl (by kernel_rfl) h))
noncomputable abbrev zq73.con : V.Con := ⟨V.A4, (.cons .bool .nil), fun (x : V.D4) => zq73 (V.p4_0 x) (V.p4_1 x), [], [(true, 16), (true, 16)], [(false, 1)], [false], []⟩
noncomputable abbrev zq73.E : V.Env := V.mkE V.tys [(54, zq75.con)] [] [] [] [] []
noncomputable abbrev zq73.kt (x0 : THead) (x1 : THead) : V.Kt Bool := V.ktOf zq73.E zq73.con Tryz.f21 (V.fl4 x0 x1)
noncomputable abbrev zq73.s (x0 : THead) (x1 : THead) : V.St := ⟨[(0, .v true [.val (.int .i64 x0.1), .val (.int .i64 x0.2.1), .val (.int .i64 x0.2.2.1), .val (.int .i64 x0.2.2.2.1), .val (.int .i64 x0.2.2.2.2.1), .val (.int .i64 x0.2.2.2.2.2.1), .val (.int .i64 x0.2.2.2.2.2.2.1), .val (.int .i64 x0.2.2.2.2.2.2.2.1), .val (.sl (.cons (.int .i64) .nil) x0.2.2.2.2.2.2.2.2.1), .val (.int .i64 x0.2.2.2.2.2.2.2.2.2.1), .val (.sl (.cons (.int .i64) .nil) x0.2.2.2.2.2.2.2.2.2.2.1), .val (.int .i64 x0.2.2.2.2.2.2.2.2.2.2.2.1), .val (.int .i64 x0.2.2.2.2.2.2.2.2.2.2.2.2.1), .val (.sl (.cons (.int .i64) .nil) x0.2.2.2.2.2.2.2.2.2.2.2.2.2.1), .val (.int .i64 x0.2.2.2.2.2.2.2.2.2.2.2.2.2.2.1), .val (.bool x0.2.2.2.2.2.2.2.2.2.2.2.2.2.2.2)]), (1, .v true [.val (.int .i64 x1.1), .val (.int .i64 x1.2.1), .val (.int .i64 x1.2.2.1), .val (.int .i64 x1.2.2.2.1), .val (.int .i64 x1.2.2.2.2.1), .val (.int .i64 x1.2.2.2.2.2.1), .val (.int .i64 x1.2.2.2.2.2.2.1), .val (.int .i64 x1.2.2.2.2.2.2.2.1), .val (.sl (.cons (.int .i64) .nil) x1.2.2.2.2.2.2.2.2.1), .val (.int .i64 x1.2.2.2.2.2.2.2.2.2.1), .val (.sl (.cons (.int .i64) .nil) x1.2.2.2.2.2.2.2.2.2.2.1), .val (.int .i64 x1.2.2.2.2.2.2.2.2.2.2.2.1), .val (.int .i64 x1.2.2.2.2.2.2.2.2.2.2.2.2.1), .val (.sl (.cons (.int .i64) .nil) x1.2.2.2.2.2.2.2.2.2.2.2.2.2.1), .val (.int .i64 x1.2.2.2.2.2.2.2.2.2.2.2.2.2.2.1), .val (.bool x1.2.2.2.2.2.2.2.2.2.2.2.2.2.2.2)])], []⟩
theorem zq73.v0 (x0 : THead) (x1 : THead) : V.evBody zq73.E zq73.con Tryz.f21 (V.fl4 x0 x1) = V.evC zq73.E Tryz.f21.ntmps (V.codeOf Tryz.f21) (zq73.kt x0 x1) (zq73.s x0 x1) := by kernel_rfl
theorem zq73.v (x0 : THead) (x1 : THead) : V.evC zq73.E Tryz.f21.ntmps (V.codeOf Tryz.f21) (zq73.kt x0 x1) (zq73.s x0 x1) = zq73 x0 x1 := by kernel_rfl
theorem zq73.eq (x0 : THead) (x1 : THead) : V.evBody zq73.E zq73.con Tryz.f21 (V.fl4 x0 x1) = zq73 x0 x1 := (zq73.v0 x0 x1).trans (zq73.v x0 x1)
theorem zq73.ok : V.Valid Tryz.prog 21 zq73.con :=
  V.fo (V.tab_cons zq75.ok V.tab_nil) Tryz.func21 (by kernel_rfl) (fun x y h => (show V.evBody zq73.E zq73.con Tryz.f21 x = _ from zq73.eq (V.p4_0 x) (V.p4_1 x)).trans (V.cfl (by kernel_rfl) h))
noncomputable abbrev zq77.con : V.Con := ⟨(.cons (.int .i64) (.cons (.int .i64) (.cons (.int .i64) (.cons (.int .i64) .nil)))), (.cons .bool .nil), fun (x : Int × Int × Int × Int) => zq77 (x.1, x.2.1) x.2.2, [], [(true, 2), (true, 2)], [(false, 1)], [false], []⟩
noncomputable abbrev zq77.E : V.Env := V.mkE V.tys [] [] [] [] [] []
theorem zq77.eq (x0 : TSig) (x1 : TSig) : V.evBody zq77.E zq77.con Tryz.f40 ((x0.1, x0.2, x1.1, x1.2) : Int × Int × Int × Int) = zq77 x0 x1 := by kernel_rfl
theorem zq77.ok : V.Valid Tryz.prog 40 zq77.con :=
  V.fo V.tab_nil Tryz.func40 (by kernel_rfl) (fun x y h => (show V.evBody zq77.E zq77.con Tryz.f40 x = _ from zq77.eq (x.1, x.2.1) x.2.2).trans (V.cfl (by kernel_rfl) h))
noncomputable abbrev zq78.con : V.Con := ⟨(.cons (.sl (.cons (.int .i64) (.cons (.int .i64) .nil))) (.cons (.sl (.cons (.int .i64) (.cons (.int .i64) .nil))) .nil)), (.cons .bool .nil), fun (x : List TSig × List TSig) => zq78 x.1 x.2, [], [(false, 1), (false, 1)], [(false, 1)], [false], []⟩
noncomputable abbrev zq78.E : V.Env := V.mkE V.tys [(40, zq77.con)] [(8, [0, 1, 5], [])] [(6, 8)] [] [] []
noncomputable abbrev zq78.kt (x0 : List TSig) (x1 : List TSig) : V.Kt Bool := V.ktOf zq78.E zq78.con Tryz.f212 ((x0, x1) : List TSig × List TSig)
noncomputable abbrev zq78.s8 (x0 : List TSig) (x1 : List TSig) (v8_2 : Int) : V.St := ⟨[(0, .v false [.val (.sl (.cons (.int .i64) (.cons (.int .i64) .nil)) x0)]), (1, .v false [.val (.sl (.cons (.int .i64) (.cons (.int .i64) .nil)) x1)]), (5, .v false [.val (.int .i64 v8_2)])], []⟩
theorem zq78.r8 (x0 : List TSig) (x1 : List TSig) (R : V.St → Option Bool) (v8_2 : Int) : V.loopF zq78.E Tryz.f212.ntmps [1, 1, 0, 1, 0] [] (V.codeOf Tryz.f212) (zq78.kt x0 x1) R (zq78.s8 x0 x1 v8_2) = zq78.g8 x0 x1 (fun v8_2 => R (zq78.s8 x0 x1 v8_2)) v8_2 := by kernel_rfl
theorem zq78.e8 (x0 : List TSig) (x1 : List TSig) : ∀ (n : Nat) (v8_2 : Int), V.loopN (V.loopF zq78.E Tryz.f212.ntmps [1, 1, 0, 1, 0] [] (V.codeOf Tryz.f212) (zq78.kt x0 x1)) n (zq78.s8 x0 x1 v8_2) = zq78.l8 x0 x1 n v8_2 := by
  intro n
  induction n with
  | zero => intros; rw [V.loopN_z]; rfl
  | succ n ih =>
    intro v8_2
    rw [V.loopN_s, zq78.r8]
    simp only [ih]
    first | exact (zq78.u8 ..).symm | rfl
theorem zq78.v (x0 : List TSig) (x1 : List TSig) : V.evBody zq78.E zq78.con Tryz.f212 ((x0, x1) : List TSig × List TSig) = zq78.b x0 x1 (fun v8_2 => V.loopN (V.loopF zq78.E Tryz.f212.ntmps [1, 1, 0, 1, 0] [] (V.codeOf Tryz.f212) (zq78.kt x0 x1)) V.KK (zq78.s8 x0 x1 v8_2)) := by kernel_rfl
theorem zq78.eq (x0 : List TSig) (x1 : List TSig) : V.evBody zq78.E zq78.con Tryz.f212 ((x0, x1) : List TSig × List TSig) = zq78 x0 x1 := by
  rw [zq78.v]
  simp only [zq78.e8]
  rfl
theorem zq78.ok : V.Valid Tryz.prog 212 zq78.con :=
  V.fo (V.tab_cons zq77.ok V.tab_nil) Tryz.func212 (by kernel_rfl) (fun x y h => (show V.evBody zq78.E zq78.con Tryz.f212 x = _ from zq78.eq x.1 x.2).trans (V.cfl (by kernel_rfl) h))
noncomputable abbrev zq79.con : V.Con := ⟨V.A7, (.cons .bool .nil), fun (x : V.D7) => zq79 (V.p7_0 x) (V.p7_1 x), [], [(true, 17), (true, 17)], [(false, 1)], [false], []⟩
noncomputable abbrev zq79.E : V.Env := V.mkE V.tys [(21, zq73.con), (212, zq78.con)] [] [] [] [] []
noncomputable abbrev zq79.kt (x0 : TSigned) (x1 : TSigned) : V.Kt Bool := V.ktOf zq79.E zq79.con Tryz.f108 (V.fl7 x0 x1)
noncomputable abbrev zq79.s (x0 : TSigned) (x1 : TSigned) : V.St := ⟨[(0, .v true [.val (.int .i64 x0.1), .val (.int .i64 x0.2.1), .val (.int .i64 x0.2.2.1), .val (.int .i64 x0.2.2.2.1), .val (.int .i64 x0.2.2.2.2.1), .val (.int .i64 x0.2.2.2.2.2.1), .val (.int .i64 x0.2.2.2.2.2.2.1), .val (.int .i64 x0.2.2.2.2.2.2.2.1), .val (.sl (.cons (.int .i64) .nil) x0.2.2.2.2.2.2.2.2.1), .val (.int .i64 x0.2.2.2.2.2.2.2.2.2.1), .val (.sl (.cons (.int .i64) .nil) x0.2.2.2.2.2.2.2.2.2.2.1), .val (.int .i64 x0.2.2.2.2.2.2.2.2.2.2.2.1), .val (.int .i64 x0.2.2.2.2.2.2.2.2.2.2.2.2.1), .val (.sl (.cons (.int .i64) .nil) x0.2.2.2.2.2.2.2.2.2.2.2.2.2.1), .val (.int .i64 x0.2.2.2.2.2.2.2.2.2.2.2.2.2.2.1), .val (.bool x0.2.2.2.2.2.2.2.2.2.2.2.2.2.2.2.1), .val (.sl (.cons (.int .i64) (.cons (.int .i64) .nil)) x0.2.2.2.2.2.2.2.2.2.2.2.2.2.2.2.2)]), (1, .v true [.val (.int .i64 x1.1), .val (.int .i64 x1.2.1), .val (.int .i64 x1.2.2.1), .val (.int .i64 x1.2.2.2.1), .val (.int .i64 x1.2.2.2.2.1), .val (.int .i64 x1.2.2.2.2.2.1), .val (.int .i64 x1.2.2.2.2.2.2.1), .val (.int .i64 x1.2.2.2.2.2.2.2.1), .val (.sl (.cons (.int .i64) .nil) x1.2.2.2.2.2.2.2.2.1), .val (.int .i64 x1.2.2.2.2.2.2.2.2.2.1), .val (.sl (.cons (.int .i64) .nil) x1.2.2.2.2.2.2.2.2.2.2.1), .val (.int .i64 x1.2.2.2.2.2.2.2.2.2.2.2.1), .val (.int .i64 x1.2.2.2.2.2.2.2.2.2.2.2.2.1), .val (.sl (.cons (.int .i64) .nil) x1.2.2.2.2.2.2.2.2.2.2.2.2.2.1), .val (.int .i64 x1.2.2.2.2.2.2.2.2.2.2.2.2.2.2.1), .val (.bool x1.2.2.2.2.2.2.2.2.2.2.2.2.2.2.2.1), .val (.sl (.cons (.int .i64) (.cons (.int .i64) .nil)) x1.2.2.2.2.2.2.2.2.2.2.2.2.2.2.2.2)])], []⟩
theorem zq79.v0 (x0 : TSigned) (x1 : TSigned) : V.evBody zq79.E zq79.con Tryz.f108 (V.fl7 x0 x1) = V.evC zq79.E Tryz.f108.ntmps (V.codeOf Tryz.f108) (zq79.kt x0 x1) (zq79.s x0 x1) := by kernel_rfl
theorem zq79.v (x0 : TSigned) (x1 : TSigned) : V.evC zq79.E Tryz.f108.ntmps (V.codeOf Tryz.f108) (zq79.kt x0 x1) (zq79.s x0 x1) = zq79 x0 x1 := by kernel_rfl
theorem zq79.eq (x0 : TSigned) (x1 : TSigned) : V.evBody zq79.E zq79.con Tryz.f108 (V.fl7 x0 x1) = zq79 x0 x1 := (zq79.v0 x0 x1).trans (zq79.v x0 x1)
theorem zq79.ok : V.Valid Tryz.prog 108 zq79.con :=
  V.fo (V.tab_cons zq73.ok (V.tab_cons zq78.ok V.tab_nil)) Tryz.func108 (by kernel_rfl) (fun x y h => (show V.evBody zq79.E zq79.con Tryz.f108 x = _ from zq79.eq (V.p7_0 x) (V.p7_1 x)).trans (V.cfl (by kernel_rfl) h))
noncomputable abbrev zq80.con : V.Con := ⟨(.cons (.sl V.eSigned) (.cons (.sl V.eSigned) .nil)), (.cons .bool .nil), fun (x : List TSigned × List TSigned) => zq80 x.1 x.2, [], [(false, 1), (false, 1)], [(false, 1)], [false], []⟩
noncomputable abbrev zq80.E : V.Env := V.mkE V.tys [(108, zq79.con)] [(8, [0, 1, 5], [])] [(6, 8)] [] [] []
noncomputable abbrev zq80.kt (x0 : List TSigned) (x1 : List TSigned) : V.Kt Bool := V.ktOf zq80.E zq80.con Tryz.f31 ((x0, x1) : List TSigned × List TSigned)
noncomputable abbrev zq80.s8 (x0 : List TSigned) (x1 : List TSigned) (v8_2 : Int) : V.St := ⟨[(0, .v false [.val (.sl V.eSigned x0)]), (1, .v false [.val (.sl V.eSigned x1)]), (5, .v false [.val (.int .i64 v8_2)])], []⟩
theorem zq80.r8 (x0 : List TSigned) (x1 : List TSigned) (R : V.St → Option Bool) (v8_2 : Int) : V.loopF zq80.E Tryz.f31.ntmps [1, 1, 0, 1, 0] [] (V.codeOf Tryz.f31) (zq80.kt x0 x1) R (zq80.s8 x0 x1 v8_2) = zq80.g8 x0 x1 (fun v8_2 => R (zq80.s8 x0 x1 v8_2)) v8_2 := by kernel_rfl
theorem zq80.e8 (x0 : List TSigned) (x1 : List TSigned) : ∀ (n : Nat) (v8_2 : Int), V.loopN (V.loopF zq80.E Tryz.f31.ntmps [1, 1, 0, 1, 0] [] (V.codeOf Tryz.f31) (zq80.kt x0 x1)) n (zq80.s8 x0 x1 v8_2) = zq80.l8 x0 x1 n v8_2 := by
  intro n
  induction n with
  | zero => intros; rw [V.loopN_z]; rfl
  | succ n ih =>
    intro v8_2
    rw [V.loopN_s, zq80.r8]
    simp only [ih]
    first | exact (zq80.u8 ..).symm | rfl
theorem zq80.v (x0 : List TSigned) (x1 : List TSigned) : V.evBody zq80.E zq80.con Tryz.f31 ((x0, x1) : List TSigned × List TSigned) = zq80.b x0 x1 (fun v8_2 => V.loopN (V.loopF zq80.E Tryz.f31.ntmps [1, 1, 0, 1, 0] [] (V.codeOf Tryz.f31) (zq80.kt x0 x1)) V.KK (zq80.s8 x0 x1 v8_2)) := by kernel_rfl
theorem zq80.eq (x0 : List TSigned) (x1 : List TSigned) : V.evBody zq80.E zq80.con Tryz.f31 ((x0, x1) : List TSigned × List TSigned) = zq80 x0 x1 := by
  rw [zq80.v]
  simp only [zq80.e8]
  rfl
theorem zq80.ok : V.Valid Tryz.prog 31 zq80.con :=
  V.fo (V.tab_cons zq79.ok V.tab_nil) Tryz.func31 (by kernel_rfl) (fun x y h => (show V.evBody zq80.E zq80.con Tryz.f31 x = _ from zq80.eq x.1 x.2).trans (V.cfl (by kernel_rfl) h))
noncomputable abbrev zq81.con : V.Con := ⟨(.cons (.sl (.cons .str .nil)) (.cons (.sl (.cons .str .nil)) .nil)), (.cons .bool .nil), fun (x : List ByteArray × List ByteArray) => zq81 x.1 x.2, [], [(false, 1), (false, 1)], [(false, 1)], [false], []⟩
noncomputable abbrev zq81.E : V.Env := V.mkE V.tys [] [(8, [0, 1, 5], [])] [(6, 8)] [] [] []
noncomputable abbrev zq81.kt (x0 : List ByteArray) (x1 : List ByteArray) : V.Kt Bool := V.ktOf zq81.E zq81.con Tryz.f168 ((x0, x1) : List ByteArray × List ByteArray)
noncomputable abbrev zq81.s8 (x0 : List ByteArray) (x1 : List ByteArray) (v8_2 : Int) : V.St := ⟨[(0, .v false [.val (.sl (.cons .str .nil) x0)]), (1, .v false [.val (.sl (.cons .str .nil) x1)]), (5, .v false [.val (.int .i64 v8_2)])], []⟩
theorem zq81.r8 (x0 : List ByteArray) (x1 : List ByteArray) (R : V.St → Option Bool) (v8_2 : Int) : V.loopF zq81.E Tryz.f168.ntmps [1, 1, 0, 1, 0] [] (V.codeOf Tryz.f168) (zq81.kt x0 x1) R (zq81.s8 x0 x1 v8_2) = zq81.g8 x0 x1 (fun v8_2 => R (zq81.s8 x0 x1 v8_2)) v8_2 := by kernel_rfl
theorem zq81.e8 (x0 : List ByteArray) (x1 : List ByteArray) : ∀ (n : Nat) (v8_2 : Int), V.loopN (V.loopF zq81.E Tryz.f168.ntmps [1, 1, 0, 1, 0] [] (V.codeOf Tryz.f168) (zq81.kt x0 x1)) n (zq81.s8 x0 x1 v8_2) = zq81.l8 x0 x1 n v8_2 := by
  intro n
  induction n with
  | zero => intros; rw [V.loopN_z]; rfl
  | succ n ih =>
    intro v8_2
    rw [V.loopN_s, zq81.r8]
    simp only [ih]
    first | exact (zq81.u8 ..).symm | rfl
theorem zq81.v (x0 : List ByteArray) (x1 : List ByteArray) : V.evBody zq81.E zq81.con Tryz.f168 ((x0, x1) : List ByteArray × List ByteArray) = zq81.b x0 x1 (fun v8_2 => V.loopN (V.loopF zq81.E Tryz.f168.ntmps [1, 1, 0, 1, 0] [] (V.codeOf Tryz.f168) (zq81.kt x0 x1)) V.KK (zq81.s8 x0 x1 v8_2)) := by kernel_rfl
theorem zq81.eq (x0 : List ByteArray) (x1 : List ByteArray) : V.evBody zq81.E zq81.con Tryz.f168 ((x0, x1) : List ByteArray × List ByteArray) = zq81 x0 x1 := by
  rw [zq81.v]
  simp only [zq81.e8]
  rfl
theorem zq81.ok : V.Valid Tryz.prog 168 zq81.con :=
  V.fo V.tab_nil Tryz.func168 (by kernel_rfl) (fun x y h => (show V.evBody zq81.E zq81.con Tryz.f168 x = _ from zq81.eq x.1 x.2).trans (V.cfl (by kernel_rfl) h))
noncomputable abbrev zq71.con : V.Con := ⟨(.cons .str (.cons (.int .i64) (.cons (.int .i64) (.cons (.sl (.cons .str .nil)) (.cons .str (.cons (.int .i64) (.cons (.int .i64) (.cons (.sl (.cons .str .nil)) .nil)))))))), (.cons .bool .nil), fun (x : ByteArray × Int × Int × List ByteArray × ByteArray × Int × Int × List ByteArray) => zq71 (x.1, x.2.1, x.2.2.1, x.2.2.2.1) x.2.2.2.2, [], [(true, 4), (true, 4)], [(false, 1)], [false], []⟩
noncomputable abbrev zq71.E : V.Env := V.mkE V.tys [(168, zq81.con)] [] [] [] [] []
theorem zq71.eq (x0 : TEntry) (x1 : TEntry) : V.evBody zq71.E zq71.con Tryz.f72 ((x0.1, x0.2.1, x0.2.2.1, x0.2.2.2, x1.1, x1.2.1, x1.2.2.1, x1.2.2.2) : ByteArray × Int × Int × List ByteArray × ByteArray × Int × Int × List ByteArray) = zq71 x0 x1 := by kernel_rfl
theorem zq71.ok : V.Valid Tryz.prog 72 zq71.con :=
  V.fo (V.tab_cons zq81.ok V.tab_nil) Tryz.func72 (by kernel_rfl) (fun x y h => (show V.evBody zq71.E zq71.con Tryz.f72 x = _ from zq71.eq (x.1, x.2.1, x.2.2.1, x.2.2.2.1) x.2.2.2.2).trans (V.cfl (by kernel_rfl) h))
noncomputable abbrev zq72.con : V.Con := ⟨(.cons (.sl V.eEntry) (.cons (.sl V.eEntry) .nil)), (.cons .bool .nil), fun (x : List TEntry × List TEntry) => zq72 x.1 x.2, [], [(false, 1), (false, 1)], [(false, 1)], [false], []⟩
noncomputable abbrev zq72.E : V.Env := V.mkE V.tys [(72, zq71.con)] [(8, [0, 1, 5], [])] [(6, 8)] [] [] []
noncomputable abbrev zq72.kt (x0 : List TEntry) (x1 : List TEntry) : V.Kt Bool := V.ktOf zq72.E zq72.con Tryz.f22 ((x0, x1) : List TEntry × List TEntry)
noncomputable abbrev zq72.s8 (x0 : List TEntry) (x1 : List TEntry) (v8_2 : Int) : V.St := ⟨[(0, .v false [.val (.sl V.eEntry x0)]), (1, .v false [.val (.sl V.eEntry x1)]), (5, .v false [.val (.int .i64 v8_2)])], []⟩
theorem zq72.r8 (x0 : List TEntry) (x1 : List TEntry) (R : V.St → Option Bool) (v8_2 : Int) : V.loopF zq72.E Tryz.f22.ntmps [1, 1, 0, 1, 0] [] (V.codeOf Tryz.f22) (zq72.kt x0 x1) R (zq72.s8 x0 x1 v8_2) = zq72.g8 x0 x1 (fun v8_2 => R (zq72.s8 x0 x1 v8_2)) v8_2 := by kernel_rfl
theorem zq72.e8 (x0 : List TEntry) (x1 : List TEntry) : ∀ (n : Nat) (v8_2 : Int), V.loopN (V.loopF zq72.E Tryz.f22.ntmps [1, 1, 0, 1, 0] [] (V.codeOf Tryz.f22) (zq72.kt x0 x1)) n (zq72.s8 x0 x1 v8_2) = zq72.l8 x0 x1 n v8_2 := by
  intro n
  induction n with
  | zero => intros; rw [V.loopN_z]; rfl
  | succ n ih =>
    intro v8_2
    rw [V.loopN_s, zq72.r8]
    simp only [ih]
    first | exact (zq72.u8 ..).symm | rfl
theorem zq72.v (x0 : List TEntry) (x1 : List TEntry) : V.evBody zq72.E zq72.con Tryz.f22 ((x0, x1) : List TEntry × List TEntry) = zq72.b x0 x1 (fun v8_2 => V.loopN (V.loopF zq72.E Tryz.f22.ntmps [1, 1, 0, 1, 0] [] (V.codeOf Tryz.f22) (zq72.kt x0 x1)) V.KK (zq72.s8 x0 x1 v8_2)) := by kernel_rfl
theorem zq72.eq (x0 : List TEntry) (x1 : List TEntry) : V.evBody zq72.E zq72.con Tryz.f22 ((x0, x1) : List TEntry × List TEntry) = zq72 x0 x1 := by
  rw [zq72.v]
  simp only [zq72.e8]
  rfl
theorem zq72.ok : V.Valid Tryz.prog 22 zq72.con :=
  V.fo (V.tab_cons zq71.ok V.tab_nil) Tryz.func22 (by kernel_rfl) (fun x y h => (show V.evBody zq72.E zq72.con Tryz.f22 x = _ from zq72.eq x.1 x.2).trans (V.cfl (by kernel_rfl) h))
noncomputable abbrev zq82.con : V.Con := ⟨(.cons (.sl V.eSigned) (.cons (.sl V.eEntry) (.cons (.sl V.eSigned) (.cons (.sl V.eEntry) .nil)))), (.cons .bool .nil), fun (x : List TSigned × List TEntry × List TSigned × List TEntry) => zq82 (x.1, x.2.1) x.2.2, [], [(true, 2), (true, 2)], [(false, 1)], [false], []⟩
noncomputable abbrev zq82.E : V.Env := V.mkE V.tys [(22, zq72.con), (31, zq80.con)] [] [] [] [] []
theorem zq82.eq (x0 : TZone) (x1 : TZone) : V.evBody zq82.E zq82.con Tryz.f47 ((x0.1, x0.2, x1.1, x1.2) : List TSigned × List TEntry × List TSigned × List TEntry) = zq82 x0 x1 := by kernel_rfl
theorem zq82.ok : V.Valid Tryz.prog 47 zq82.con :=
  V.fo (V.tab_cons zq72.ok (V.tab_cons zq80.ok V.tab_nil)) Tryz.func47 (by kernel_rfl) (fun x y h => (show V.evBody zq82.E zq82.con Tryz.f47 x = _ from zq82.eq (x.1, x.2.1) x.2.2).trans (V.cfl (by kernel_rfl) h))
noncomputable abbrev zq83.con : V.Con := ⟨(.cons (.sl (.cons (.sl V.eSigned) (.cons (.sl V.eEntry) .nil))) (.cons (.sl (.cons (.sl V.eSigned) (.cons (.sl V.eEntry) .nil))) .nil)), (.cons .bool .nil), fun (x : List TZone × List TZone) => zq83 x.1 x.2, [], [(false, 1), (false, 1)], [(false, 1)], [false], []⟩
noncomputable abbrev zq83.E : V.Env := V.mkE V.tys [(47, zq82.con)] [(8, [0, 1, 5], [])] [(6, 8)] [] [] []
noncomputable abbrev zq83.kt (x0 : List TZone) (x1 : List TZone) : V.Kt Bool := V.ktOf zq83.E zq83.con Tryz.f152 ((x0, x1) : List TZone × List TZone)
noncomputable abbrev zq83.s8 (x0 : List TZone) (x1 : List TZone) (v8_2 : Int) : V.St := ⟨[(0, .v false [.val (.sl (.cons (.sl V.eSigned) (.cons (.sl V.eEntry) .nil)) x0)]), (1, .v false [.val (.sl (.cons (.sl V.eSigned) (.cons (.sl V.eEntry) .nil)) x1)]), (5, .v false [.val (.int .i64 v8_2)])], []⟩
theorem zq83.r8 (x0 : List TZone) (x1 : List TZone) (R : V.St → Option Bool) (v8_2 : Int) : V.loopF zq83.E Tryz.f152.ntmps [1, 1, 0, 1, 0] [] (V.codeOf Tryz.f152) (zq83.kt x0 x1) R (zq83.s8 x0 x1 v8_2) = zq83.g8 x0 x1 (fun v8_2 => R (zq83.s8 x0 x1 v8_2)) v8_2 := by kernel_rfl
theorem zq83.e8 (x0 : List TZone) (x1 : List TZone) : ∀ (n : Nat) (v8_2 : Int), V.loopN (V.loopF zq83.E Tryz.f152.ntmps [1, 1, 0, 1, 0] [] (V.codeOf Tryz.f152) (zq83.kt x0 x1)) n (zq83.s8 x0 x1 v8_2) = zq83.l8 x0 x1 n v8_2 := by
  intro n
  induction n with
  | zero => intros; rw [V.loopN_z]; rfl
  | succ n ih =>
    intro v8_2
    rw [V.loopN_s, zq83.r8]
    simp only [ih]
    first | exact (zq83.u8 ..).symm | rfl
theorem zq83.v (x0 : List TZone) (x1 : List TZone) : V.evBody zq83.E zq83.con Tryz.f152 ((x0, x1) : List TZone × List TZone) = zq83.b x0 x1 (fun v8_2 => V.loopN (V.loopF zq83.E Tryz.f152.ntmps [1, 1, 0, 1, 0] [] (V.codeOf Tryz.f152) (zq83.kt x0 x1)) V.KK (zq83.s8 x0 x1 v8_2)) := by kernel_rfl
theorem zq83.eq (x0 : List TZone) (x1 : List TZone) : V.evBody zq83.E zq83.con Tryz.f152 ((x0, x1) : List TZone × List TZone) = zq83 x0 x1 := by
  rw [zq83.v]
  simp only [zq83.e8]
  rfl
theorem zq83.ok : V.Valid Tryz.prog 152 zq83.con :=
  V.fo (V.tab_cons zq82.ok V.tab_nil) Tryz.func152 (by kernel_rfl) (fun x y h => (show V.evBody zq83.E zq83.con Tryz.f152 x = _ from zq83.eq x.1 x.2).trans (V.cfl (by kernel_rfl) h))
noncomputable abbrev zq76.con : V.Con := ⟨(.cons (.sl (.cons (.sl V.eSigned) (.cons (.sl V.eEntry) .nil))) (.cons (.int .i64) (.cons (.sl (.cons (.sl V.eSigned) (.cons (.sl V.eEntry) .nil))) (.cons (.int .i64) .nil)))), (.cons .bool .nil), fun (x : List TZone × Int × List TZone × Int) => zq76 (x.1, x.2.1) x.2.2, [], [(true, 2), (true, 2)], [(false, 1)], [false], []⟩
noncomputable abbrev zq76.E : V.Env := V.mkE V.tys [(152, zq83.con)] [] [] [] [] []
theorem zq76.eq (x0 : TServer) (x1 : TServer) : V.evBody zq76.E zq76.con Tryz.f62 ((x0.1, x0.2, x1.1, x1.2) : List TZone × Int × List TZone × Int) = zq76 x0 x1 := by kernel_rfl
theorem zq76.ok : V.Valid Tryz.prog 62 zq76.con :=
  V.fo (V.tab_cons zq83.ok V.tab_nil) Tryz.func62 (by kernel_rfl) (fun x y h => (show V.evBody zq76.E zq76.con Tryz.f62 x = _ from zq76.eq (x.1, x.2.1) x.2.2).trans (V.cfl (by kernel_rfl) h))
noncomputable abbrev zq92.con : V.Con := ⟨(.cons (.sl (.cons (.int .i64) .nil)) (.cons (.int .i64) .nil)), (.cons (.sl (.cons (.int .i64) .nil)) (.cons (.int .i64) .nil)), fun (x : List Int × Int) => zq92 x.1 x.2, [(0, false)], [(false, 1), (false, 1)], [(false, 1)], [false], []⟩
noncomputable abbrev zq92.E : V.Env := V.mkE V.tys [] [(4, [0, 1, 5], [])] [] [] [] []
noncomputable abbrev zq92.kt (x0 : List Int) (x1 : Int) : V.Kt TKeys := V.ktOf zq92.E zq92.con Tryz.f80 ((x0, x1) : List Int × Int)
noncomputable abbrev zq92.s4 (v4_0 : Int) (v4_1 : Int) (v4_2 : List Int) : V.St := ⟨[(0, .v false [.ref 0]), (1, .v false [.val (.int .i64 v4_0)]), (5, .v false [.val (.int .i64 v4_1)])], [(0, .row (.cons (.int .i64) .nil) true v4_2)]⟩
theorem zq92.r4 (x0 : List Int) (x1 : Int) (R : V.St → Option TKeys) (v4_0 : Int) (v4_1 : Int) (v4_2 : List Int) : V.loopF zq92.E Tryz.f80.ntmps [1, 0, 1, 0] [] (V.codeOf Tryz.f80) (zq92.kt x0 x1) R (zq92.s4 v4_0 v4_1 v4_2) = zq92.g4 (fun v4_0 v4_1 v4_2 => R (zq92.s4 v4_0 v4_1 v4_2)) v4_0 v4_1 v4_2 := by kernel_rfl
theorem zq92.e4 (x0 : List Int) (x1 : Int) : ∀ (n : Nat) (v4_0 : Int) (v4_1 : Int) (v4_2 : List Int), V.loopN (V.loopF zq92.E Tryz.f80.ntmps [1, 0, 1, 0] [] (V.codeOf Tryz.f80) (zq92.kt x0 x1)) n (zq92.s4 v4_0 v4_1 v4_2) = zq92.l4 n v4_0 v4_1 v4_2 := by
  intro n
  induction n with
  | zero => intros; rw [V.loopN_z]; rfl
  | succ n ih =>
    intro v4_0 v4_1 v4_2
    rw [V.loopN_s, zq92.r4]
    simp only [ih]
    first | exact (zq92.u4 ..).symm | rfl
theorem zq92.v (x0 : List Int) (x1 : Int) : V.evBody zq92.E zq92.con Tryz.f80 ((x0, x1) : List Int × Int) = zq92.b x0 x1 (fun v4_0 v4_1 v4_2 => V.loopN (V.loopF zq92.E Tryz.f80.ntmps [1, 0, 1, 0] [] (V.codeOf Tryz.f80) (zq92.kt x0 x1)) V.KK (zq92.s4 v4_0 v4_1 v4_2)) := by kernel_rfl
theorem zq92.eq (x0 : List Int) (x1 : Int) : V.evBody zq92.E zq92.con Tryz.f80 ((x0, x1) : List Int × Int) = zq92 x0 x1 := by
  rw [zq92.v]
  simp only [zq92.e4]
  rfl
theorem zq92.ok : V.Valid Tryz.prog 80 zq92.con :=
  V.fo V.tab_nil Tryz.func80 (by kernel_rfl) (fun x y h => (show V.evBody zq92.E zq92.con Tryz.f80 x = _ from zq92.eq x.1 x.2).trans (V.cfl (by kernel_rfl) h))
noncomputable abbrev zq94.con : V.Con := ⟨(.cons (.sl (.cons (.int .i64) (.cons (.int .i64) .nil))) (.cons (.int .i64) .nil)), (.cons (.sl (.cons (.int .i64) (.cons (.int .i64) .nil))) (.cons (.int .i64) .nil)), fun (x : List TSig × Int) => zq94 x.1 x.2, [(0, false)], [(false, 1), (false, 1)], [(false, 1)], [false], []⟩
noncomputable abbrev zq94.E : V.Env := V.mkE V.tys [] [(4, [0, 1, 5], [])] [] [] [] []
noncomputable abbrev zq94.kt (x0 : List TSig) (x1 : Int) : V.Kt (List TSig × Int) := V.ktOf zq94.E zq94.con Tryz.f109 ((x0, x1) : List TSig × Int)
noncomputable abbrev zq94.s4 (v4_0 : Int) (v4_1 : Int) (v4_2 : List TSig) : V.St := ⟨[(0, .v false [.ref 0]), (1, .v false [.val (.int .i64 v4_0)]), (5, .v false [.val (.int .i64 v4_1)])], [(0, .row (.cons (.int .i64) (.cons (.int .i64) .nil)) true v4_2)]⟩
theorem zq94.r4 (x0 : List TSig) (x1 : Int) (R : V.St → Option (List TSig × Int)) (v4_0 : Int) (v4_1 : Int) (v4_2 : List TSig) : V.loopF zq94.E Tryz.f109.ntmps [1, 0, 1, 0] [] (V.codeOf Tryz.f109) (zq94.kt x0 x1) R (zq94.s4 v4_0 v4_1 v4_2) = zq94.g4 (fun v4_0 v4_1 v4_2 => R (zq94.s4 v4_0 v4_1 v4_2)) v4_0 v4_1 v4_2 := by kernel_rfl
theorem zq94.e4 (x0 : List TSig) (x1 : Int) : ∀ (n : Nat) (v4_0 : Int) (v4_1 : Int) (v4_2 : List TSig), V.loopN (V.loopF zq94.E Tryz.f109.ntmps [1, 0, 1, 0] [] (V.codeOf Tryz.f109) (zq94.kt x0 x1)) n (zq94.s4 v4_0 v4_1 v4_2) = zq94.l4 n v4_0 v4_1 v4_2 := by
  intro n
  induction n with
  | zero => intros; rw [V.loopN_z]; rfl
  | succ n ih =>
    intro v4_0 v4_1 v4_2
    rw [V.loopN_s, zq94.r4]
    simp only [ih]
    first | exact (zq94.u4 ..).symm | rfl
theorem zq94.v (x0 : List TSig) (x1 : Int) : V.evBody zq94.E zq94.con Tryz.f109 ((x0, x1) : List TSig × Int) = zq94.b x0 x1 (fun v4_0 v4_1 v4_2 => V.loopN (V.loopF zq94.E Tryz.f109.ntmps [1, 0, 1, 0] [] (V.codeOf Tryz.f109) (zq94.kt x0 x1)) V.KK (zq94.s4 v4_0 v4_1 v4_2)) := by kernel_rfl
theorem zq94.eq (x0 : List TSig) (x1 : Int) : V.evBody zq94.E zq94.con Tryz.f109 ((x0, x1) : List TSig × Int) = zq94 x0 x1 := by
  rw [zq94.v]
  simp only [zq94.e4]
  rfl
theorem zq94.ok : V.Valid Tryz.prog 109 zq94.con :=
  V.fo V.tab_nil Tryz.func109 (by kernel_rfl) (fun x y h => (show V.evBody zq94.E zq94.con Tryz.f109 x = _ from zq94.eq x.1 x.2).trans (V.cfl (by kernel_rfl) h))
noncomputable abbrev zq95.con : V.Con := ⟨(.cons (.sl V.eSigned) (.cons (.int .i64) .nil)), (.cons (.sl V.eSigned) (.cons (.int .i64) .nil)), fun (x : List TSigned × Int) => zq95 x.1 x.2, [(0, false)], [(false, 1), (false, 1)], [(false, 1)], [false], []⟩
noncomputable abbrev zq95.E : V.Env := V.mkE V.tys [(80, zq92.con), (109, zq94.con)] [(4, [0, 1, 5], [])] [] [] [] []
noncomputable abbrev zq95.kt (x0 : List TSigned) (x1 : Int) : V.Kt (List TSigned × Int) := V.ktOf zq95.E zq95.con Tryz.f32 ((x0, x1) : List TSigned × Int)
noncomputable abbrev zq95.s4 (v4_0 : Int) (v4_1 : Int) (v4_2 : List TSigned) : V.St := ⟨[(0, .v false [.ref 0]), (1, .v false [.val (.int .i64 v4_0)]), (5, .v false [.val (.int .i64 v4_1)])], [(0, .row V.eSigned true v4_2)]⟩
theorem zq95.r4 (x0 : List TSigned) (x1 : Int) (R : V.St → Option (List TSigned × Int)) (v4_0 : Int) (v4_1 : Int) (v4_2 : List TSigned) : V.loopF zq95.E Tryz.f32.ntmps [1, 0, 1, 0] [] (V.codeOf Tryz.f32) (zq95.kt x0 x1) R (zq95.s4 v4_0 v4_1 v4_2) = zq95.g4 (fun v4_0 v4_1 v4_2 => R (zq95.s4 v4_0 v4_1 v4_2)) v4_0 v4_1 v4_2 := by kernel_rfl
theorem zq95.e4 (x0 : List TSigned) (x1 : Int) : ∀ (n : Nat) (v4_0 : Int) (v4_1 : Int) (v4_2 : List TSigned), V.loopN (V.loopF zq95.E Tryz.f32.ntmps [1, 0, 1, 0] [] (V.codeOf Tryz.f32) (zq95.kt x0 x1)) n (zq95.s4 v4_0 v4_1 v4_2) = zq95.l4 n v4_0 v4_1 v4_2 := by
  intro n
  induction n with
  | zero => intros; rw [V.loopN_z]; rfl
  | succ n ih =>
    intro v4_0 v4_1 v4_2
    rw [V.loopN_s, zq95.r4]
    simp only [ih]
    first | exact (zq95.u4 ..).symm | rfl
theorem zq95.v (x0 : List TSigned) (x1 : Int) : V.evBody zq95.E zq95.con Tryz.f32 ((x0, x1) : List TSigned × Int) = zq95.b x0 x1 (fun v4_0 v4_1 v4_2 => V.loopN (V.loopF zq95.E Tryz.f32.ntmps [1, 0, 1, 0] [] (V.codeOf Tryz.f32) (zq95.kt x0 x1)) V.KK (zq95.s4 v4_0 v4_1 v4_2)) := by kernel_rfl
theorem zq95.eq (x0 : List TSigned) (x1 : Int) : V.evBody zq95.E zq95.con Tryz.f32 ((x0, x1) : List TSigned × Int) = zq95 x0 x1 := by
  rw [zq95.v]
  simp only [zq95.e4]
  rfl
theorem zq95.ok : V.Valid Tryz.prog 32 zq95.con :=
  V.fo (V.tab_cons zq92.ok (V.tab_cons zq94.ok V.tab_nil)) Tryz.func32 (by kernel_rfl) (fun x y h => (show V.evBody zq95.E zq95.con Tryz.f32 x = _ from zq95.eq x.1 x.2).trans (V.cfl (by kernel_rfl) h))
noncomputable abbrev zq97.con : V.Con := ⟨(.cons (.int .i64) .nil), (.cons .str .nil), fun (x : Int) => zq97 x, [], [(false, 1)], [(false, 1)], [false], []⟩
noncomputable abbrev zq97.E : V.Env := V.mkE V.tys [] [(8, [0, 3], [])] [] [] [] []
noncomputable abbrev zq97.kt (x0 : Int) : V.Kt ByteArray := V.ktOf zq97.E zq97.con Tryz.f95 ((x0) : Int)
noncomputable abbrev zq97.s8 (v8_0 : Int) (v8_1 : ByteArray) : V.St := ⟨[(0, .v false [.val (.int .i64 v8_0)]), (3, .v false [.val (.str v8_1)])], []⟩
theorem zq97.r8 (x0 : Int) (R : V.St → Option ByteArray) (v8_0 : Int) (v8_1 : ByteArray) : V.loopF zq97.E Tryz.f95.ntmps [1, 1, 1, 0, 0] [] (V.codeOf Tryz.f95) (zq97.kt x0) R (zq97.s8 v8_0 v8_1) = zq97.g8 (fun v8_0 v8_1 => R (zq97.s8 v8_0 v8_1)) v8_0 v8_1 := by kernel_rfl
theorem zq97.e8 (x0 : Int) : ∀ (n : Nat) (v8_0 : Int) (v8_1 : ByteArray), V.loopN (V.loopF zq97.E Tryz.f95.ntmps [1, 1, 1, 0, 0] [] (V.codeOf Tryz.f95) (zq97.kt x0)) n (zq97.s8 v8_0 v8_1) = zq97.l8 n v8_0 v8_1 := by
  intro n
  induction n with
  | zero => intros; rw [V.loopN_z]; rfl
  | succ n ih =>
    intro v8_0 v8_1
    rw [V.loopN_s, zq97.r8]
    simp only [ih]
    first | exact (zq97.u8 ..).symm | rfl
theorem zq97.v (x0 : Int) : V.evBody zq97.E zq97.con Tryz.f95 ((x0) : Int) = zq97.b x0 (fun v8_0 v8_1 => V.loopN (V.loopF zq97.E Tryz.f95.ntmps [1, 1, 1, 0, 0] [] (V.codeOf Tryz.f95) (zq97.kt x0)) V.KK (zq97.s8 v8_0 v8_1)) := by kernel_rfl
theorem zq97.eq (x0 : Int) : V.evBody zq97.E zq97.con Tryz.f95 ((x0) : Int) = zq97 x0 := by
  rw [zq97.v]
  simp only [zq97.e8]
  rfl
theorem zq97.ok : V.Valid Tryz.prog 95 zq97.con :=
  V.fo V.tab_nil Tryz.func95 (by kernel_rfl) (fun x y h => (show V.evBody zq97.E zq97.con Tryz.f95 x = _ from zq97.eq x).trans (V.cfl (by kernel_rfl) h))
noncomputable abbrev zq96.con : V.Con := ⟨(.cons (.sl (.cons .str .nil)) (.cons (.int .i64) .nil)), (.cons (.sl (.cons .str .nil)) (.cons (.int .i64) .nil)), fun (x : List ByteArray × Int) => zq96 x.1 x.2, [(0, false)], [(false, 1), (false, 1)], [(false, 1)], [false], []⟩
noncomputable abbrev zq96.E : V.Env := V.mkE V.tys [(95, zq97.con)] [(4, [0, 1, 5], [])] [] [] [] []
noncomputable abbrev zq96.kt (x0 : List ByteArray) (x1 : Int) : V.Kt (List ByteArray × Int) := V.ktOf zq96.E zq96.con Tryz.f96 ((x0, x1) : List ByteArray × Int)
noncomputable abbrev zq96.s4 (v4_0 : Int) (v4_1 : Int) (v4_2 : List ByteArray) : V.St := ⟨[(0, .v false [.ref 0]), (1, .v false [.val (.int .i64 v4_0)]), (5, .v false [.val (.int .i64 v4_1)])], [(0, .row (.cons .str .nil) true v4_2)]⟩
theorem zq96.r4 (x0 : List ByteArray) (x1 : Int) (R : V.St → Option (List ByteArray × Int)) (v4_0 : Int) (v4_1 : Int) (v4_2 : List ByteArray) : V.loopF zq96.E Tryz.f96.ntmps [1, 0, 1, 0] [] (V.codeOf Tryz.f96) (zq96.kt x0 x1) R (zq96.s4 v4_0 v4_1 v4_2) = zq96.g4 (fun v4_0 v4_1 v4_2 => R (zq96.s4 v4_0 v4_1 v4_2)) v4_0 v4_1 v4_2 := by kernel_rfl
theorem zq96.e4 (x0 : List ByteArray) (x1 : Int) : ∀ (n : Nat) (v4_0 : Int) (v4_1 : Int) (v4_2 : List ByteArray), V.loopN (V.loopF zq96.E Tryz.f96.ntmps [1, 0, 1, 0] [] (V.codeOf Tryz.f96) (zq96.kt x0 x1)) n (zq96.s4 v4_0 v4_1 v4_2) = zq96.l4 n v4_0 v4_1 v4_2 := by
  intro n
  induction n with
  | zero => intros; rw [V.loopN_z]; rfl
  | succ n ih =>
    intro v4_0 v4_1 v4_2
    rw [V.loopN_s, zq96.r4]
    simp only [ih]
    first | exact (zq96.u4 ..).symm | rfl
theorem zq96.v (x0 : List ByteArray) (x1 : Int) : V.evBody zq96.E zq96.con Tryz.f96 ((x0, x1) : List ByteArray × Int) = zq96.b x0 x1 (fun v4_0 v4_1 v4_2 => V.loopN (V.loopF zq96.E Tryz.f96.ntmps [1, 0, 1, 0] [] (V.codeOf Tryz.f96) (zq96.kt x0 x1)) V.KK (zq96.s4 v4_0 v4_1 v4_2)) := by kernel_rfl
theorem zq96.eq (x0 : List ByteArray) (x1 : Int) : V.evBody zq96.E zq96.con Tryz.f96 ((x0, x1) : List ByteArray × Int) = zq96 x0 x1 := by
  rw [zq96.v]
  simp only [zq96.e4]
  rfl
theorem zq96.ok : V.Valid Tryz.prog 96 zq96.con :=
  V.fo (V.tab_cons zq97.ok V.tab_nil) Tryz.func96 (by kernel_rfl) (fun x y h => (show V.evBody zq96.E zq96.con Tryz.f96 x = _ from zq96.eq x.1 x.2).trans (V.cfl (by kernel_rfl) h))
noncomputable abbrev zq91.con : V.Con := ⟨(.cons (.sl V.eEntry) (.cons (.int .i64) .nil)), (.cons (.sl V.eEntry) (.cons (.int .i64) .nil)), fun (x : List TEntry × Int) => zq91 x.1 x.2, [(0, false)], [(false, 1), (false, 1)], [(false, 1)], [false], []⟩
noncomputable abbrev zq91.E : V.Env := V.mkE V.tys [(95, zq97.con), (96, zq96.con)] [(4, [0, 1, 5], [])] [] [] [] []
noncomputable abbrev zq91.kt (x0 : List TEntry) (x1 : Int) : V.Kt (List TEntry × Int) := V.ktOf zq91.E zq91.con Tryz.f24 ((x0, x1) : List TEntry × Int)
noncomputable abbrev zq91.s4 (v4_0 : Int) (v4_1 : Int) (v4_2 : List TEntry) : V.St := ⟨[(0, .v false [.ref 0]), (1, .v false [.val (.int .i64 v4_0)]), (5, .v false [.val (.int .i64 v4_1)])], [(0, .row V.eEntry true v4_2)]⟩
theorem zq91.r4 (x0 : List TEntry) (x1 : Int) (R : V.St → Option (List TEntry × Int)) (v4_0 : Int) (v4_1 : Int) (v4_2 : List TEntry) : V.loopF zq91.E Tryz.f24.ntmps [1, 0, 1, 0] [] (V.codeOf Tryz.f24) (zq91.kt x0 x1) R (zq91.s4 v4_0 v4_1 v4_2) = zq91.g4 (fun v4_0 v4_1 v4_2 => R (zq91.s4 v4_0 v4_1 v4_2)) v4_0 v4_1 v4_2 := by kernel_rfl
theorem zq91.e4 (x0 : List TEntry) (x1 : Int) : ∀ (n : Nat) (v4_0 : Int) (v4_1 : Int) (v4_2 : List TEntry), V.loopN (V.loopF zq91.E Tryz.f24.ntmps [1, 0, 1, 0] [] (V.codeOf Tryz.f24) (zq91.kt x0 x1)) n (zq91.s4 v4_0 v4_1 v4_2) = zq91.l4 n v4_0 v4_1 v4_2 := by
  intro n
  induction n with
  | zero => intros; rw [V.loopN_z]; rfl
  | succ n ih =>
    intro v4_0 v4_1 v4_2
    rw [V.loopN_s, zq91.r4]
    simp only [ih]
    first | exact (zq91.u4 ..).symm | rfl
theorem zq91.v (x0 : List TEntry) (x1 : Int) : V.evBody zq91.E zq91.con Tryz.f24 ((x0, x1) : List TEntry × Int) = zq91.b x0 x1 (fun v4_0 v4_1 v4_2 => V.loopN (V.loopF zq91.E Tryz.f24.ntmps [1, 0, 1, 0] [] (V.codeOf Tryz.f24) (zq91.kt x0 x1)) V.KK (zq91.s4 v4_0 v4_1 v4_2)) := by kernel_rfl
theorem zq91.eq (x0 : List TEntry) (x1 : Int) : V.evBody zq91.E zq91.con Tryz.f24 ((x0, x1) : List TEntry × Int) = zq91 x0 x1 := by
  rw [zq91.v]
  simp only [zq91.e4]
  rfl
theorem zq91.ok : V.Valid Tryz.prog 24 zq91.con :=
  V.fo (V.tab_cons zq97.ok (V.tab_cons zq96.ok V.tab_nil)) Tryz.func24 (by kernel_rfl) (fun x y h => (show V.evBody zq91.E zq91.con Tryz.f24 x = _ from zq91.eq x.1 x.2).trans (V.cfl (by kernel_rfl) h))
noncomputable abbrev zq99.con : V.Con := ⟨(.cons (.sl (.cons (.sl V.eSigned) (.cons (.sl V.eEntry) .nil))) (.cons (.int .i64) .nil)), (.cons (.sl (.cons (.sl V.eSigned) (.cons (.sl V.eEntry) .nil))) (.cons (.int .i64) .nil)), fun (x : List TZone × Int) => zq99 x.1 x.2, [(0, false)], [(false, 1), (false, 1)], [(false, 1)], [false], []⟩
noncomputable abbrev zq99.E : V.Env := V.mkE V.tys [(24, zq91.con), (32, zq95.con)] [(4, [0, 1, 5], [])] [] [] [] []
noncomputable abbrev zq99.kt (x0 : List TZone) (x1 : Int) : V.Kt TServer := V.ktOf zq99.E zq99.con Tryz.f180 ((x0, x1) : List TZone × Int)
noncomputable abbrev zq99.s4 (v4_0 : Int) (v4_1 : Int) (v4_2 : List TZone) : V.St := ⟨[(0, .v false [.ref 0]), (1, .v false [.val (.int .i64 v4_0)]), (5, .v false [.val (.int .i64 v4_1)])], [(0, .row (.cons (.sl V.eSigned) (.cons (.sl V.eEntry) .nil)) true v4_2)]⟩
theorem zq99.r4 (x0 : List TZone) (x1 : Int) (R : V.St → Option TServer) (v4_0 : Int) (v4_1 : Int) (v4_2 : List TZone) : V.loopF zq99.E Tryz.f180.ntmps [1, 0, 1, 0] [] (V.codeOf Tryz.f180) (zq99.kt x0 x1) R (zq99.s4 v4_0 v4_1 v4_2) = zq99.g4 (fun v4_0 v4_1 v4_2 => R (zq99.s4 v4_0 v4_1 v4_2)) v4_0 v4_1 v4_2 := by kernel_rfl
theorem zq99.e4 (x0 : List TZone) (x1 : Int) : ∀ (n : Nat) (v4_0 : Int) (v4_1 : Int) (v4_2 : List TZone), V.loopN (V.loopF zq99.E Tryz.f180.ntmps [1, 0, 1, 0] [] (V.codeOf Tryz.f180) (zq99.kt x0 x1)) n (zq99.s4 v4_0 v4_1 v4_2) = zq99.l4 n v4_0 v4_1 v4_2 := by
  intro n
  induction n with
  | zero => intros; rw [V.loopN_z]; rfl
  | succ n ih =>
    intro v4_0 v4_1 v4_2
    rw [V.loopN_s, zq99.r4]
    simp only [ih]
    first | exact (zq99.u4 ..).symm | rfl
theorem zq99.v (x0 : List TZone) (x1 : Int) : V.evBody zq99.E zq99.con Tryz.f180 ((x0, x1) : List TZone × Int) = zq99.b x0 x1 (fun v4_0 v4_1 v4_2 => V.loopN (V.loopF zq99.E Tryz.f180.ntmps [1, 0, 1, 0] [] (V.codeOf Tryz.f180) (zq99.kt x0 x1)) V.KK (zq99.s4 v4_0 v4_1 v4_2)) := by kernel_rfl
theorem zq99.eq (x0 : List TZone) (x1 : Int) : V.evBody zq99.E zq99.con Tryz.f180 ((x0, x1) : List TZone × Int) = zq99 x0 x1 := by
  rw [zq99.v]
  simp only [zq99.e4]
  rfl
theorem zq99.ok : V.Valid Tryz.prog 180 zq99.con :=
  V.fo (V.tab_cons zq91.ok (V.tab_cons zq95.ok V.tab_nil)) Tryz.func180 (by kernel_rfl) (fun x y h => (show V.evBody zq99.E zq99.con Tryz.f180 x = _ from zq99.eq x.1 x.2).trans (V.cfl (by kernel_rfl) h))
noncomputable abbrev zq93.con : V.Con := ⟨(.cons (.sl (.cons (.sl V.eSigned) (.cons (.sl V.eEntry) .nil))) (.cons (.int .i64) (.cons (.int .i64) .nil))), (.cons (.sl (.cons (.sl V.eSigned) (.cons (.sl V.eEntry) .nil))) (.cons (.int .i64) .nil)), fun (x : List TZone × Int × Int) => zq93 (x.1, x.2.1) x.2.2, [(0, false)], [(true, 2), (false, 1)], [(false, 1)], [false], []⟩
noncomputable abbrev zq93.E : V.Env := V.mkE V.tys [(180, zq99.con)] [] [] [] [] []
theorem zq93.eq (x0 : TServer) (x1 : Int) : V.evBody zq93.E zq93.con Tryz.f83 ((x0.1, x0.2, x1) : List TZone × Int × Int) = zq93 x0 x1 := by kernel_rfl
theorem zq93.ok : V.Valid Tryz.prog 83 zq93.con :=
  V.fo (V.tab_cons zq99.ok V.tab_nil) Tryz.func83 (by kernel_rfl) (fun x y h => (show V.evBody zq93.E zq93.con Tryz.f83 x = _ from zq93.eq (x.1, x.2.1) x.2.2).trans (V.cfl (by kernel_rfl) h))
noncomputable abbrev zq98.con : V.Con := ⟨(.cons (.sl V.eSigned) (.cons (.sl V.eEntry) (.cons (.int .i64) .nil))), (.cons (.sl V.eSigned) (.cons (.sl V.eEntry) (.cons (.int .i64) .nil))), fun (x : List TSigned × List TEntry × Int) => zq98 (x.1, x.2.1) x.2.2, [(0, false), (1, false)], [(true, 2), (false, 1)], [(false, 1)], [false], []⟩
noncomputable abbrev zq98.E : V.Env := V.mkE V.tys [(24, zq91.con), (32, zq95.con)] [] [] [] [] []
theorem zq98.eq (x0 : TZone) (x1 : Int) : V.evBody zq98.E zq98.con Tryz.f56 ((x0.1, x0.2, x1) : List TSigned × List TEntry × Int) = zq98 x0 x1 := by kernel_rfl
theorem zq98.ok : V.Valid Tryz.prog 56 zq98.con :=
  V.fo (V.tab_cons zq91.ok (V.tab_cons zq95.ok V.tab_nil)) Tryz.func56 (by kernel_rfl) (fun x y h => (show V.evBody zq98.E zq98.con Tryz.f56 x = _ from zq98.eq (x.1, x.2.1) x.2.2).trans (V.cfl (by kernel_rfl) h))
noncomputable abbrev zq85.con : V.Con := ⟨(.cons (.sl (.cons (.int .i64) .nil)) (.cons (.int .i64) .nil)), (.cons (.int .i64) .nil), fun (x : List Int × Int) => zq85 x.1 x.2, [], [(false, 1), (false, 1)], [(false, 1)], [false], []⟩
noncomputable abbrev zq85.E : V.Env := V.mkE V.tys [] [(4, [0, 1, 5], [])] [] [] [] []
noncomputable abbrev zq85.kt (x0 : List Int) (x1 : Int) : V.Kt Int := V.ktOf zq85.E zq85.con Tryz.f201 ((x0, x1) : List Int × Int)
noncomputable abbrev zq85.s4 (x0 : List Int) (v4_1 : Int) (v4_2 : Int) : V.St := ⟨[(0, .v false [.val (.sl (.cons (.int .i64) .nil) x0)]), (1, .v false [.val (.int .i64 v4_1)]), (5, .v false [.val (.int .i64 v4_2)])], []⟩
theorem zq85.r4 (x0 : List Int) (x1 : Int) (R : V.St → Option Int) (v4_1 : Int) (v4_2 : Int) : V.loopF zq85.E Tryz.f201.ntmps [1, 0, 1, 0] [] (V.codeOf Tryz.f201) (zq85.kt x0 x1) R (zq85.s4 x0 v4_1 v4_2) = zq85.g4 x0 (fun v4_1 v4_2 => R (zq85.s4 x0 v4_1 v4_2)) v4_1 v4_2 := by kernel_rfl
theorem zq85.e4 (x0 : List Int) (x1 : Int) : ∀ (n : Nat) (v4_1 : Int) (v4_2 : Int), V.loopN (V.loopF zq85.E Tryz.f201.ntmps [1, 0, 1, 0] [] (V.codeOf Tryz.f201) (zq85.kt x0 x1)) n (zq85.s4 x0 v4_1 v4_2) = zq85.l4 x0 n v4_1 v4_2 := by
  intro n
  induction n with
  | zero => intros; rw [V.loopN_z]; rfl
  | succ n ih =>
    intro v4_1 v4_2
    rw [V.loopN_s, zq85.r4]
    simp only [ih]
    first | exact (zq85.u4 ..).symm | rfl
theorem zq85.v (x0 : List Int) (x1 : Int) : V.evBody zq85.E zq85.con Tryz.f201 ((x0, x1) : List Int × Int) = zq85.b x0 x1 (fun v4_1 v4_2 => V.loopN (V.loopF zq85.E Tryz.f201.ntmps [1, 0, 1, 0] [] (V.codeOf Tryz.f201) (zq85.kt x0 x1)) V.KK (zq85.s4 x0 v4_1 v4_2)) := by kernel_rfl
theorem zq85.eq (x0 : List Int) (x1 : Int) : V.evBody zq85.E zq85.con Tryz.f201 ((x0, x1) : List Int × Int) = zq85 x0 x1 := by
  rw [zq85.v]
  simp only [zq85.e4]
  rfl
theorem zq85.ok : V.Valid Tryz.prog 201 zq85.con :=
  V.fo V.tab_nil Tryz.func201 (by kernel_rfl) (fun x y h => (show V.evBody zq85.E zq85.con Tryz.f201 x = _ from zq85.eq x.1 x.2).trans (V.cfl (by kernel_rfl) h))
noncomputable abbrev zq87.con : V.Con := ⟨(.cons (.sl (.cons (.int .i64) (.cons (.int .i64) .nil))) (.cons (.int .i64) .nil)), (.cons (.int .i64) .nil), fun (x : List TSig × Int) => zq87 x.1 x.2, [], [(false, 1), (false, 1)], [(false, 1)], [false], []⟩
noncomputable abbrev zq87.E : V.Env := V.mkE V.tys [] [(4, [0, 1, 5], [])] [] [] [] []
noncomputable abbrev zq87.kt (x0 : List TSig) (x1 : Int) : V.Kt Int := V.ktOf zq87.E zq87.con Tryz.f213 ((x0, x1) : List TSig × Int)
noncomputable abbrev zq87.s4 (x0 : List TSig) (v4_1 : Int) (v4_2 : Int) : V.St := ⟨[(0, .v false [.val (.sl (.cons (.int .i64) (.cons (.int .i64) .nil)) x0)]), (1, .v false [.val (.int .i64 v4_1)]), (5, .v false [.val (.int .i64 v4_2)])], []⟩
theorem zq87.r4 (x0 : List TSig) (x1 : Int) (R : V.St → Option Int) (v4_1 : Int) (v4_2 : Int) : V.loopF zq87.E Tryz.f213.ntmps [1, 0, 1, 0] [] (V.codeOf Tryz.f213) (zq87.kt x0 x1) R (zq87.s4 x0 v4_1 v4_2) = zq87.g4 x0 (fun v4_1 v4_2 => R (zq87.s4 x0 v4_1 v4_2)) v4_1 v4_2 := by kernel_rfl
theorem zq87.e4 (x0 : List TSig) (x1 : Int) : ∀ (n : Nat) (v4_1 : Int) (v4_2 : Int), V.loopN (V.loopF zq87.E Tryz.f213.ntmps [1, 0, 1, 0] [] (V.codeOf Tryz.f213) (zq87.kt x0 x1)) n (zq87.s4 x0 v4_1 v4_2) = zq87.l4 x0 n v4_1 v4_2 := by
  intro n
  induction n with
  | zero => intros; rw [V.loopN_z]; rfl
  | succ n ih =>
    intro v4_1 v4_2
    rw [V.loopN_s, zq87.r4]
    simp only [ih]
    first | exact (zq87.u4 ..).symm | rfl
theorem zq87.v (x0 : List TSig) (x1 : Int) : V.evBody zq87.E zq87.con Tryz.f213 ((x0, x1) : List TSig × Int) = zq87.b x0 x1 (fun v4_1 v4_2 => V.loopN (V.loopF zq87.E Tryz.f213.ntmps [1, 0, 1, 0] [] (V.codeOf Tryz.f213) (zq87.kt x0 x1)) V.KK (zq87.s4 x0 v4_1 v4_2)) := by kernel_rfl
theorem zq87.eq (x0 : List TSig) (x1 : Int) : V.evBody zq87.E zq87.con Tryz.f213 ((x0, x1) : List TSig × Int) = zq87 x0 x1 := by
  rw [zq87.v]
  simp only [zq87.e4]
  rfl
theorem zq87.ok : V.Valid Tryz.prog 213 zq87.con :=
  V.fo V.tab_nil Tryz.func213 (by kernel_rfl) (fun x y h => (show V.evBody zq87.E zq87.con Tryz.f213 x = _ from zq87.eq x.1 x.2).trans (V.cfl (by kernel_rfl) h))
noncomputable abbrev zq88.con : V.Con := ⟨(.cons (.sl V.eSigned) (.cons (.int .i64) .nil)), (.cons (.int .i64) .nil), fun (x : List TSigned × Int) => zq88 x.1 x.2, [], [(false, 1), (false, 1)], [(false, 1)], [false], []⟩
noncomputable abbrev zq88.E : V.Env := V.mkE V.tys [(201, zq85.con), (213, zq87.con)] [(4, [0, 1, 5], [])] [] [] [] []
noncomputable abbrev zq88.kt (x0 : List TSigned) (x1 : Int) : V.Kt Int := V.ktOf zq88.E zq88.con Tryz.f144 ((x0, x1) : List TSigned × Int)
noncomputable abbrev zq88.s4 (x0 : List TSigned) (v4_1 : Int) (v4_2 : Int) : V.St := ⟨[(0, .v false [.val (.sl V.eSigned x0)]), (1, .v false [.val (.int .i64 v4_1)]), (5, .v false [.val (.int .i64 v4_2)])], []⟩
theorem zq88.r4 (x0 : List TSigned) (x1 : Int) (R : V.St → Option Int) (v4_1 : Int) (v4_2 : Int) : V.loopF zq88.E Tryz.f144.ntmps [1, 0, 1, 0] [] (V.codeOf Tryz.f144) (zq88.kt x0 x1) R (zq88.s4 x0 v4_1 v4_2) = zq88.g4 x0 (fun v4_1 v4_2 => R (zq88.s4 x0 v4_1 v4_2)) v4_1 v4_2 := by kernel_rfl
theorem zq88.e4 (x0 : List TSigned) (x1 : Int) : ∀ (n : Nat) (v4_1 : Int) (v4_2 : Int), V.loopN (V.loopF zq88.E Tryz.f144.ntmps [1, 0, 1, 0] [] (V.codeOf Tryz.f144) (zq88.kt x0 x1)) n (zq88.s4 x0 v4_1 v4_2) = zq88.l4 x0 n v4_1 v4_2 := by
  intro n
  induction n with
  | zero => intros; rw [V.loopN_z]; rfl
  | succ n ih =>
    intro v4_1 v4_2
    rw [V.loopN_s, zq88.r4]
    simp only [ih]
    first | exact (zq88.u4 ..).symm | rfl
theorem zq88.v (x0 : List TSigned) (x1 : Int) : V.evBody zq88.E zq88.con Tryz.f144 ((x0, x1) : List TSigned × Int) = zq88.b x0 x1 (fun v4_1 v4_2 => V.loopN (V.loopF zq88.E Tryz.f144.ntmps [1, 0, 1, 0] [] (V.codeOf Tryz.f144) (zq88.kt x0 x1)) V.KK (zq88.s4 x0 v4_1 v4_2)) := by kernel_rfl
theorem zq88.eq (x0 : List TSigned) (x1 : Int) : V.evBody zq88.E zq88.con Tryz.f144 ((x0, x1) : List TSigned × Int) = zq88 x0 x1 := by
  rw [zq88.v]
  simp only [zq88.e4]
  rfl
theorem zq88.ok : V.Valid Tryz.prog 144 zq88.con :=
  V.fo (V.tab_cons zq85.ok (V.tab_cons zq87.ok V.tab_nil)) Tryz.func144 (by kernel_rfl) (fun x y h => (show V.evBody zq88.E zq88.con Tryz.f144 x = _ from zq88.eq x.1 x.2).trans (V.cfl (by kernel_rfl) h))
noncomputable abbrev zq89.con : V.Con := ⟨(.cons (.sl (.cons .str .nil)) (.cons (.int .i64) .nil)), (.cons (.int .i64) .nil), fun (x : List ByteArray × Int) => zq89 x.1 x.2, [], [(false, 1), (false, 1)], [(false, 1)], [false], []⟩
noncomputable abbrev zq89.E : V.Env := V.mkE V.tys [(95, zq97.con)] [(4, [0, 1, 5], [])] [(4, 6)] [] [] []
noncomputable abbrev zq89.kt (x0 : List ByteArray) (x1 : Int) : V.Kt Int := V.ktOf zq89.E zq89.con Tryz.f171 ((x0, x1) : List ByteArray × Int)
noncomputable abbrev zq89.s4 (x0 : List ByteArray) (v4_1 : Int) (v4_2 : Int) : V.St := ⟨[(0, .v false [.val (.sl (.cons .str .nil) x0)]), (1, .v false [.val (.int .i64 v4_1)]), (5, .v false [.val (.int .i64 v4_2)])], []⟩
theorem zq89.r4 (x0 : List ByteArray) (x1 : Int) (R : V.St → Option Int) (v4_1 : Int) (v4_2 : Int) : V.loopF zq89.E Tryz.f171.ntmps [1, 0, 1, 0] [] (V.codeOf Tryz.f171) (zq89.kt x0 x1) R (zq89.s4 x0 v4_1 v4_2) = zq89.g4 x0 (fun v4_1 v4_2 => R (zq89.s4 x0 v4_1 v4_2)) v4_1 v4_2 := by kernel_rfl
theorem zq89.e4 (x0 : List ByteArray) (x1 : Int) : ∀ (n : Nat) (v4_1 : Int) (v4_2 : Int), V.loopN (V.loopF zq89.E Tryz.f171.ntmps [1, 0, 1, 0] [] (V.codeOf Tryz.f171) (zq89.kt x0 x1)) n (zq89.s4 x0 v4_1 v4_2) = zq89.l4 x0 n v4_1 v4_2 := by
  intro n
  induction n with
  | zero => intros; rw [V.loopN_z]; rfl
  | succ n ih =>
    intro v4_1 v4_2
    rw [V.loopN_s, zq89.r4]
    simp only [ih]
    first | exact (zq89.u4 ..).symm | rfl
theorem zq89.v (x0 : List ByteArray) (x1 : Int) : V.evBody zq89.E zq89.con Tryz.f171 ((x0, x1) : List ByteArray × Int) = zq89.b x0 x1 (fun v4_1 v4_2 => V.loopN (V.loopF zq89.E Tryz.f171.ntmps [1, 0, 1, 0] [] (V.codeOf Tryz.f171) (zq89.kt x0 x1)) V.KK (zq89.s4 x0 v4_1 v4_2)) := by kernel_rfl
theorem zq89.eq (x0 : List ByteArray) (x1 : Int) : V.evBody zq89.E zq89.con Tryz.f171 ((x0, x1) : List ByteArray × Int) = zq89 x0 x1 := by
  rw [zq89.v]
  simp only [zq89.e4]
  rfl
theorem zq89.ok : V.Valid Tryz.prog 171 zq89.con :=
  V.fo (V.tab_cons zq97.ok V.tab_nil) Tryz.func171 (by kernel_rfl) (fun x y h => (show V.evBody zq89.E zq89.con Tryz.f171 x = _ from zq89.eq x.1 x.2).trans (V.cfl (by kernel_rfl) h))
noncomputable abbrev zq84.con : V.Con := ⟨(.cons (.sl V.eEntry) (.cons (.int .i64) .nil)), (.cons (.int .i64) .nil), fun (x : List TEntry × Int) => zq84 x.1 x.2, [], [(false, 1), (false, 1)], [(false, 1)], [false], []⟩
noncomputable abbrev zq84.E : V.Env := V.mkE V.tys [(95, zq97.con), (171, zq89.con)] [(4, [0, 1, 5], [])] [(4, 7)] [] [] []
noncomputable abbrev zq84.kt (x0 : List TEntry) (x1 : Int) : V.Kt Int := V.ktOf zq84.E zq84.con Tryz.f145 ((x0, x1) : List TEntry × Int)
noncomputable abbrev zq84.s4 (x0 : List TEntry) (v4_1 : Int) (v4_2 : Int) : V.St := ⟨[(0, .v false [.val (.sl V.eEntry x0)]), (1, .v false [.val (.int .i64 v4_1)]), (5, .v false [.val (.int .i64 v4_2)])], []⟩
theorem zq84.r4 (x0 : List TEntry) (x1 : Int) (R : V.St → Option Int) (v4_1 : Int) (v4_2 : Int) : V.loopF zq84.E Tryz.f145.ntmps [1, 0, 1, 0] [] (V.codeOf Tryz.f145) (zq84.kt x0 x1) R (zq84.s4 x0 v4_1 v4_2) = zq84.g4 x0 (fun v4_1 v4_2 => R (zq84.s4 x0 v4_1 v4_2)) v4_1 v4_2 := by kernel_rfl
theorem zq84.e4 (x0 : List TEntry) (x1 : Int) : ∀ (n : Nat) (v4_1 : Int) (v4_2 : Int), V.loopN (V.loopF zq84.E Tryz.f145.ntmps [1, 0, 1, 0] [] (V.codeOf Tryz.f145) (zq84.kt x0 x1)) n (zq84.s4 x0 v4_1 v4_2) = zq84.l4 x0 n v4_1 v4_2 := by
  intro n
  induction n with
  | zero => intros; rw [V.loopN_z]; rfl
  | succ n ih =>
    intro v4_1 v4_2
    rw [V.loopN_s, zq84.r4]
    simp only [ih]
    first | exact (zq84.u4 ..).symm | rfl
theorem zq84.v (x0 : List TEntry) (x1 : Int) : V.evBody zq84.E zq84.con Tryz.f145 ((x0, x1) : List TEntry × Int) = zq84.b x0 x1 (fun v4_1 v4_2 => V.loopN (V.loopF zq84.E Tryz.f145.ntmps [1, 0, 1, 0] [] (V.codeOf Tryz.f145) (zq84.kt x0 x1)) V.KK (zq84.s4 x0 v4_1 v4_2)) := by kernel_rfl
theorem zq84.eq (x0 : List TEntry) (x1 : Int) : V.evBody zq84.E zq84.con Tryz.f145 ((x0, x1) : List TEntry × Int) = zq84 x0 x1 := by
  rw [zq84.v]
  simp only [zq84.e4]
  rfl
theorem zq84.ok : V.Valid Tryz.prog 145 zq84.con :=
  V.fo (V.tab_cons zq97.ok (V.tab_cons zq89.ok V.tab_nil)) Tryz.func145 (by kernel_rfl) (fun x y h => (show V.evBody zq84.E zq84.con Tryz.f145 x = _ from zq84.eq x.1 x.2).trans (V.cfl (by kernel_rfl) h))
noncomputable abbrev zq90.con : V.Con := ⟨(.cons (.sl (.cons (.sl V.eSigned) (.cons (.sl V.eEntry) .nil))) (.cons (.int .i64) .nil)), (.cons (.int .i64) .nil), fun (x : List TZone × Int) => zq90 x.1 x.2, [], [(false, 1), (false, 1)], [(false, 1)], [false], []⟩
noncomputable abbrev zq90.E : V.Env := V.mkE V.tys [(144, zq88.con), (145, zq84.con)] [(4, [0, 1, 5], [])] [] [] [] []
noncomputable abbrev zq90.kt (x0 : List TZone) (x1 : Int) : V.Kt Int := V.ktOf zq90.E zq90.con Tryz.f181 ((x0, x1) : List TZone × Int)
noncomputable abbrev zq90.s4 (x0 : List TZone) (v4_1 : Int) (v4_2 : Int) : V.St := ⟨[(0, .v false [.val (.sl (.cons (.sl V.eSigned) (.cons (.sl V.eEntry) .nil)) x0)]), (1, .v false [.val (.int .i64 v4_1)]), (5, .v false [.val (.int .i64 v4_2)])], []⟩
theorem zq90.r4 (x0 : List TZone) (x1 : Int) (R : V.St → Option Int) (v4_1 : Int) (v4_2 : Int) : V.loopF zq90.E Tryz.f181.ntmps [1, 0, 1, 0] [] (V.codeOf Tryz.f181) (zq90.kt x0 x1) R (zq90.s4 x0 v4_1 v4_2) = zq90.g4 x0 (fun v4_1 v4_2 => R (zq90.s4 x0 v4_1 v4_2)) v4_1 v4_2 := by kernel_rfl
theorem zq90.e4 (x0 : List TZone) (x1 : Int) : ∀ (n : Nat) (v4_1 : Int) (v4_2 : Int), V.loopN (V.loopF zq90.E Tryz.f181.ntmps [1, 0, 1, 0] [] (V.codeOf Tryz.f181) (zq90.kt x0 x1)) n (zq90.s4 x0 v4_1 v4_2) = zq90.l4 x0 n v4_1 v4_2 := by
  intro n
  induction n with
  | zero => intros; rw [V.loopN_z]; rfl
  | succ n ih =>
    intro v4_1 v4_2
    rw [V.loopN_s, zq90.r4]
    simp only [ih]
    first | exact (zq90.u4 ..).symm | rfl
theorem zq90.v (x0 : List TZone) (x1 : Int) : V.evBody zq90.E zq90.con Tryz.f181 ((x0, x1) : List TZone × Int) = zq90.b x0 x1 (fun v4_1 v4_2 => V.loopN (V.loopF zq90.E Tryz.f181.ntmps [1, 0, 1, 0] [] (V.codeOf Tryz.f181) (zq90.kt x0 x1)) V.KK (zq90.s4 x0 v4_1 v4_2)) := by kernel_rfl
theorem zq90.eq (x0 : List TZone) (x1 : Int) : V.evBody zq90.E zq90.con Tryz.f181 ((x0, x1) : List TZone × Int) = zq90 x0 x1 := by
  rw [zq90.v]
  simp only [zq90.e4]
  rfl
theorem zq90.ok : V.Valid Tryz.prog 181 zq90.con :=
  V.fo (V.tab_cons zq88.ok (V.tab_cons zq84.ok V.tab_nil)) Tryz.func181 (by kernel_rfl) (fun x y h => (show V.evBody zq90.E zq90.con Tryz.f181 x = _ from zq90.eq x.1 x.2).trans (V.cfl (by kernel_rfl) h))
noncomputable abbrev zq86.con : V.Con := ⟨(.cons (.sl (.cons (.sl V.eSigned) (.cons (.sl V.eEntry) .nil))) (.cons (.int .i64) (.cons (.int .i64) .nil))), (.cons (.int .i64) .nil), fun (x : List TZone × Int × Int) => zq86 (x.1, x.2.1) x.2.2, [], [(true, 2), (false, 1)], [(false, 1)], [false], []⟩
noncomputable abbrev zq86.E : V.Env := V.mkE V.tys [(181, zq90.con)] [] [] [] [] []
theorem zq86.eq (x0 : TServer) (x1 : Int) : V.evBody zq86.E zq86.con Tryz.f84 ((x0.1, x0.2, x1) : List TZone × Int × Int) = zq86 x0 x1 := by kernel_rfl
theorem zq86.ok : V.Valid Tryz.prog 84 zq86.con :=
  V.fo (V.tab_cons zq90.ok V.tab_nil) Tryz.func84 (by kernel_rfl) (fun x y h => (show V.evBody zq86.E zq86.con Tryz.f84 x = _ from zq86.eq (x.1, x.2.1) x.2.2).trans (V.cfl (by kernel_rfl) h))
noncomputable abbrev zq70.con : V.Con := ⟨(.cons (.sl (.cons (.sl V.eSigned) (.cons (.sl V.eEntry) .nil))) (.cons (.int .i64) (.cons (.sl V.eSigned) (.cons (.sl V.eEntry) .nil)))), (.cons .bool .nil), fun (x : List TZone × Int × List TSigned × List TEntry) => zq70 (x.1, x.2.1) x.2.2, [], [(true, 2), (true, 2)], [(false, 1)], [false], []⟩
noncomputable abbrev zq70.E : V.Env := V.mkE V.tys [(43, zq110.con), (45, zq123.con), (47, zq82.con), (56, zq98.con), (58, zq105.con), (60, zq117.con), (62, zq76.con), (81, zq175.con), (82, zq41.con), (83, zq93.con), (84, zq86.con)] [(29, [2, 3, 6, 7, 8, 9, 10, 11], []), (47, [2, 3, 6, 7, 10], []), (69, [10, 13], [])] [(8, 9), (14, 3), (16, 3), (31, 9)] [] [] []
noncomputable abbrev zq70.kt (x0 : TServer) (x1 : TZone) : V.Kt Bool := V.ktOf zq70.E zq70.con Tryz.f14 ((x0.1, x0.2, x1.1, x1.2) : List TZone × Int × List TSigned × List TEntry)
noncomputable abbrev zq70.s69 (y8 : TRServerBool) (y17 : TServer) : V.St := ⟨[(10, .v false [.ptr 768384 0]), (13, .v false [.val (.int .i64 y17.2)])], [(768384, .box [.ref 64000000000049176576, .val (.int .i64 y8.2.1)]), (64000000000049176576, .row (.cons (.sl V.eSigned) (.cons (.sl V.eEntry) .nil)) true y17.1)]⟩
noncomputable abbrev zq70.s47 (x0 : TServer) (x1 : TZone) (y5 : TRServerBool) (y8 : TRServerBool) : V.St := ⟨[(2, .v false [.ptr 64000 0]), (3, .v false [.ptr 64064 0]), (6, .v false [.ptr 576512 0]), (7, .v false [.val (.bool y5.2.2)]), (10, .v false [.ptr 768384 0])], [(64000, .box [.val (.sl (.cons (.sl V.eSigned) (.cons (.sl V.eEntry) .nil)) x0.1), .val (.int .i64 x0.2)]), (64064, .box [.val (.sl V.eSigned x1.1), .val (.sl V.eEntry x1.2)]), (576512, .box [.ref 64000000000036896768, .val (.int .i64 y5.2.1)]), (64000000000036896768, .row (.cons (.sl V.eSigned) (.cons (.sl V.eEntry) .nil)) true y5.1), (768384, .box [.ref 64000000000049176576, .val (.int .i64 y8.2.1)]), (64000000000049176576, .row (.cons (.sl V.eSigned) (.cons (.sl V.eEntry) .nil)) true y8.1)]⟩
noncomputable abbrev zq70.s29 (x0 : TServer) (x1 : TZone) (y5 : TRServerBool) (y6 : TServer) (y7 : TZone) (y8 : TRServerBool) : V.St := ⟨[(2, .v false [.ptr 64000 0]), (3, .v false [.ptr 64064 0]), (6, .v false [.ptr 576512 0]), (7, .v false [.val (.bool y5.2.2)]), (8, .v false [.ptr 640128 0]), (9, .v false [.ptr 704128 0]), (10, .v false [.ptr 768384 0]), (11, .v false [.val (.bool y8.2.2)])], [(64000, .box [.val (.sl (.cons (.sl V.eSigned) (.cons (.sl V.eEntry) .nil)) x0.1), .val (.int .i64 x0.2)]), (64064, .box [.val (.sl V.eSigned x1.1), .val (.sl V.eEntry x1.2)]), (576512, .box [.ref 64000000000036896768, .val (.int .i64 y5.2.1)]), (64000000000036896768, .row (.cons (.sl V.eSigned) (.cons (.sl V.eEntry) .nil)) true y5.1), (640128, .box [.ref 64000000000040968192, .val (.int .i64 y6.2)]), (64000000000040968192, .row (.cons (.sl V.eSigned) (.cons (.sl V.eEntry) .nil)) true y6.1), (704128, .box [.ref 64000000000045064192, .ref 64000000000045064193]), (64000000000045064192, .row V.eSigned true y7.1), (64000000000045064193, .row V.eEntry true y7.2), (768384, .box [.ref 64000000000049176576, .val (.int .i64 y8.2.1)]), (64000000000049176576, .row (.cons (.sl V.eSigned) (.cons (.sl V.eEntry) .nil)) true y8.1)]⟩
theorem zq70.r69 (x0 : TServer) (x1 : TZone) (y17 : TServer) (y8 : TRServerBool) : V.joinF zq70.E Tryz.f14.ntmps [1, 1, 1, 1, 1, 1, 1, 1, 1, 1, 1, 1, 1, 1, 1, 1, 1, 1, 1, 1, 1, 1, 1, 1] [] (V.codeOf Tryz.f14) (zq70.kt x0 x1) (zq70.s69 y8 y17) = zq70.g69 y8 y17 := by kernel_rfl
theorem zq70.e69 (x0 : TServer) (x1 : TZone) (y17 : TServer) (y8 : TRServerBool) : V.jn (V.joinF zq70.E Tryz.f14.ntmps [1, 1, 1, 1, 1, 1, 1, 1, 1, 1, 1, 1, 1, 1, 1, 1, 1, 1, 1, 1, 1, 1, 1, 1] [] (V.codeOf Tryz.f14) (zq70.kt x0 x1)) (zq70.s69 y8 y17) = zq70.l69 y8 y17 := by
  rw [V.jn_eq, zq70.r69]
  rfl
theorem zq70.r47 (x0 : TServer) (x1 : TZone) (y5 : TRServerBool) (y8 : TRServerBool) : V.joinF zq70.E Tryz.f14.ntmps [1, 1, 1, 1, 1, 1, 1, 1, 1, 1, 1, 1, 1, 1, 1, 1] [] (V.codeOf Tryz.f14) (zq70.kt x0 x1) (zq70.s47 x0 x1 y5 y8) = zq70.g47 x0 x1 y5 y8 (fun y8 y17 => V.jn (V.joinF zq70.E Tryz.f14.ntmps [1, 1, 1, 1, 1, 1, 1, 1, 1, 1, 1, 1, 1, 1, 1, 1, 1, 1, 1, 1, 1, 1, 1, 1] [] (V.codeOf Tryz.f14) (zq70.kt x0 x1)) (zq70.s69 y8 y17)) := by kernel_rfl
theorem zq70.e47 (x0 : TServer) (x1 : TZone) (y5 : TRServerBool) (y8 : TRServerBool) : V.jn (V.joinF zq70.E Tryz.f14.ntmps [1, 1, 1, 1, 1, 1, 1, 1, 1, 1, 1, 1, 1, 1, 1, 1] [] (V.codeOf Tryz.f14) (zq70.kt x0 x1)) (zq70.s47 x0 x1 y5 y8) = zq70.l47 x0 x1 y5 y8 := by
  rw [V.jn_eq, zq70.r47]
  simp only [zq70.e69]
  rfl
theorem zq70.r29 (x0 : TServer) (x1 : TZone) (y5 : TRServerBool) (y6 : TServer) (y7 : TZone) (y8 : TRServerBool) : V.joinF zq70.E Tryz.f14.ntmps [1, 1, 1, 1, 1, 1, 1, 1, 1, 1] [] (V.codeOf Tryz.f14) (zq70.kt x0 x1) (zq70.s29 x0 x1 y5 y6 y7 y8) = zq70.g29 x0 x1 y5 y6 y7 y8 (fun y5 y8 => V.jn (V.joinF zq70.E Tryz.f14.ntmps [1, 1, 1, 1, 1, 1, 1, 1, 1, 1, 1, 1, 1, 1, 1, 1] [] (V.codeOf Tryz.f14) (zq70.kt x0 x1)) (zq70.s47 x0 x1 y5 y8)) := by kernel_rfl
theorem zq70.e29 (x0 : TServer) (x1 : TZone) (y5 : TRServerBool) (y6 : TServer) (y7 : TZone) (y8 : TRServerBool) : V.jn (V.joinF zq70.E Tryz.f14.ntmps [1, 1, 1, 1, 1, 1, 1, 1, 1, 1] [] (V.codeOf Tryz.f14) (zq70.kt x0 x1)) (zq70.s29 x0 x1 y5 y6 y7 y8) = zq70.l29 x0 x1 y5 y6 y7 y8 := by
  rw [V.jn_eq, zq70.r29]
  simp only [zq70.e47]
  rfl
theorem zq70.v (x0 : TServer) (x1 : TZone) : V.evBody zq70.E zq70.con Tryz.f14 ((x0.1, x0.2, x1.1, x1.2) : List TZone × Int × List TSigned × List TEntry) = zq70.b x0 x1 (fun y5 y6 y7 y8 => V.jn (V.joinF zq70.E Tryz.f14.ntmps [1, 1, 1, 1, 1, 1, 1, 1, 1, 1] [] (V.codeOf Tryz.f14) (zq70.kt x0 x1)) (zq70.s29 x0 x1 y5 y6 y7 y8)) := by kernel_rfl
theorem zq70.eq (x0 : TServer) (x1 : TZone) : V.evBody zq70.E zq70.con Tryz.f14 ((x0.1, x0.2, x1.1, x1.2) : List TZone × Int × List TSigned × List TEntry) = zq70 x0 x1 := by
  rw [zq70.v]
  simp only [zq70.e29]
  rfl
theorem zq70.ok : V.Valid Tryz.prog 14 zq70.con :=
  V.fo (V.tab_cons zq110.ok (V.tab_cons zq123.ok (V.tab_cons zq82.ok (V.tab_cons zq98.ok (V.tab_cons zq105.ok (V.tab_cons zq117.ok (V.tab_cons zq76.ok (V.tab_cons zq175.ok (V.tab_cons zq41.ok (V.tab_cons zq93.ok (V.tab_cons zq86.ok V.tab_nil))))))))))) Tryz.func14 (by kernel_rfl) (fun x y h => (show V.evBody zq70.E zq70.con Tryz.f14 x = _ from zq70.eq (x.1, x.2.1) x.2.2).trans (V.cfl (by kernel_rfl) h))
end Go.Proofs.YtpioofmdambjoaaGreat
