/- That the functions compute it, part 1. -/
import Derived.Test.YtpioofmdambjoaaGreatXEntryInWalk0
namespace Go.Proofs.YtpioofmdambjoaaGreat
set_option linter.unusedVariables false
set_option maxRecDepth 100000
noncomputable abbrev zq64.con : V.Con := ⟨V.A9, (.cons (.int .i64) .nil), fun (x : V.D9) => zq64 (V.p9_0 x) (V.p9_1 x), [], [(true, 16), (true, 17)], [(false, 1)], [false], []⟩
noncomputable abbrev zq64.E : V.Env := V.mkE V.tys [(208, zq11.con), (259, zq38.con), (302, zq42.con), (310, zq41.con)] [(7, [2, 3, 5, 6], []), (13, [2, 3, 37], [])] [] [] [] []
noncomputable abbrev zq64.kt (x0 : THead) (x1 : TSigned) : V.Kt Int := V.ktOf zq64.E zq64.con Tryz.f291 (V.fl9 x0 x1)
noncomputable abbrev zq64.s13 (x0 : THead) (x1 : TSigned) (v13_0 : Bool) : V.St := ⟨[(2, .v false [.ptr 64000 0]), (3, .v false [.ptr 64064 0]), (37, .v false [.val (.bool v13_0)])], [(64000, .box [.val (.int .i64 x0.1), .val (.int .i64 x0.2.1), .val (.int .i64 x0.2.2.1), .val (.int .i64 x0.2.2.2.1), .val (.int .i64 x0.2.2.2.2.1), .val (.int .i64 x0.2.2.2.2.2.1), .val (.int .i64 x0.2.2.2.2.2.2.1), .val (.int .i64 x0.2.2.2.2.2.2.2.1), .val (.sl (.cons (.int .i64) .nil) x0.2.2.2.2.2.2.2.2.1), .val (.int .i64 x0.2.2.2.2.2.2.2.2.2.1), .val (.sl (.cons (.int .i64) .nil) x0.2.2.2.2.2.2.2.2.2.2.1), .val (.int .i64 x0.2.2.2.2.2.2.2.2.2.2.2.1), .val (.int .i64 x0.2.2.2.2.2.2.2.2.2.2.2.2.1), .val (.sl (.cons (.int .i64) .nil) x0.2.2.2.2.2.2.2.2.2.2.2.2.2.1), .val (.int .i64 x0.2.2.2.2.2.2.2.2.2.2.2.2.2.2.1), .val (.bool x0.2.2.2.2.2.2.2.2.2.2.2.2.2.2.2)]), (64064, .box [.val (.int .i64 x1.1), .val (.int .i64 x1.2.1), .val (.int .i64 x1.2.2.1), .val (.int .i64 x1.2.2.2.1), .val (.int .i64 x1.2.2.2.2.1), .val (.int .i64 x1.2.2.2.2.2.1), .val (.int .i64 x1.2.2.2.2.2.2.1), .val (.int .i64 x1.2.2.2.2.2.2.2.1), .val (.sl (.cons (.int .i64) .nil) x1.2.2.2.2.2.2.2.2.1), .val (.int .i64 x1.2.2.2.2.2.2.2.2.2.1), .val (.sl (.cons (.int .i64) .nil) x1.2.2.2.2.2.2.2.2.2.2.1), .val (.int .i64 x1.2.2.2.2.2.2.2.2.2.2.2.1), .val (.int .i64 x1.2.2.2.2.2.2.2.2.2.2.2.2.1), .val (.sl (.cons (.int .i64) .nil) x1.2.2.2.2.2.2.2.2.2.2.2.2.2.1), .val (.int .i64 x1.2.2.2.2.2.2.2.2.2.2.2.2.2.2.1), .val (.bool x1.2.2.2.2.2.2.2.2.2.2.2.2.2.2.2.1), .val (.sl (.cons (.int .i64) (.cons (.int .i64) .nil)) x1.2.2.2.2.2.2.2.2.2.2.2.2.2.2.2.2)])]⟩
noncomputable abbrev zq64.s7 (x0 : THead) (x1 : TSigned) (v7_0 : Bool) : V.St := ⟨[(2, .v false [.ptr 64000 0]), (3, .v false [.ptr 64064 0]), (5, .v false [.ptr 128128 0]), (6, .v false [.val (.bool v7_0)])], [(64000, .box [.val (.int .i64 x0.1), .val (.int .i64 x0.2.1), .val (.int .i64 x0.2.2.1), .val (.int .i64 x0.2.2.2.1), .val (.int .i64 x0.2.2.2.2.1), .val (.int .i64 x0.2.2.2.2.2.1), .val (.int .i64 x0.2.2.2.2.2.2.1), .val (.int .i64 x0.2.2.2.2.2.2.2.1), .val (.sl (.cons (.int .i64) .nil) x0.2.2.2.2.2.2.2.2.1), .val (.int .i64 x0.2.2.2.2.2.2.2.2.2.1), .val (.sl (.cons (.int .i64) .nil) x0.2.2.2.2.2.2.2.2.2.2.1), .val (.int .i64 x0.2.2.2.2.2.2.2.2.2.2.2.1), .val (.int .i64 x0.2.2.2.2.2.2.2.2.2.2.2.2.1), .val (.sl (.cons (.int .i64) .nil) x0.2.2.2.2.2.2.2.2.2.2.2.2.2.1), .val (.int .i64 x0.2.2.2.2.2.2.2.2.2.2.2.2.2.2.1), .val (.bool x0.2.2.2.2.2.2.2.2.2.2.2.2.2.2.2)]), (64064, .box [.val (.int .i64 x1.1), .val (.int .i64 x1.2.1), .val (.int .i64 x1.2.2.1), .val (.int .i64 x1.2.2.2.1), .val (.int .i64 x1.2.2.2.2.1), .val (.int .i64 x1.2.2.2.2.2.1), .val (.int .i64 x1.2.2.2.2.2.2.1), .val (.int .i64 x1.2.2.2.2.2.2.2.1), .val (.sl (.cons (.int .i64) .nil) x1.2.2.2.2.2.2.2.2.1), .val (.int .i64 x1.2.2.2.2.2.2.2.2.2.1), .val (.sl (.cons (.int .i64) .nil) x1.2.2.2.2.2.2.2.2.2.2.1), .val (.int .i64 x1.2.2.2.2.2.2.2.2.2.2.2.1), .val (.int .i64 x1.2.2.2.2.2.2.2.2.2.2.2.2.1), .val (.sl (.cons (.int .i64) .nil) x1.2.2.2.2.2.2.2.2.2.2.2.2.2.1), .val (.int .i64 x1.2.2.2.2.2.2.2.2.2.2.2.2.2.2.1), .val (.bool x1.2.2.2.2.2.2.2.2.2.2.2.2.2.2.2.1), .val (.sl (.cons (.int .i64) (.cons (.int .i64) .nil)) x1.2.2.2.2.2.2.2.2.2.2.2.2.2.2.2.2)]), (128128, .box [.val (.int .i64 x1.1), .val (.int .i64 x1.2.1), .val (.int .i64 x1.2.2.1), .val (.int .i64 x1.2.2.2.1), .val (.int .i64 x1.2.2.2.2.1), .val (.int .i64 x1.2.2.2.2.2.1), .val (.int .i64 x1.2.2.2.2.2.2.1), .val (.int .i64 x1.2.2.2.2.2.2.2.1), .val (.sl (.cons (.int .i64) .nil) x1.2.2.2.2.2.2.2.2.1), .val (.int .i64 x1.2.2.2.2.2.2.2.2.2.1), .val (.sl (.cons (.int .i64) .nil) x1.2.2.2.2.2.2.2.2.2.2.1), .val (.int .i64 x1.2.2.2.2.2.2.2.2.2.2.2.1), .val (.int .i64 x1.2.2.2.2.2.2.2.2.2.2.2.2.1), .val (.sl (.cons (.int .i64) .nil) x1.2.2.2.2.2.2.2.2.2.2.2.2.2.1), .val (.int .i64 x1.2.2.2.2.2.2.2.2.2.2.2.2.2.2.1), .val (.bool x1.2.2.2.2.2.2.2.2.2.2.2.2.2.2.2.1)])]⟩
theorem zq64.r13 (x0 : THead) (x1 : TSigned) (v13_0 : Bool) : V.joinF zq64.E Tryz.f291.ntmps [1, 1, 1, 0, 0, 1, 1] [] (V.codeOf Tryz.f291) (zq64.kt x0 x1) (zq64.s13 x0 x1 v13_0) = zq64.g13 x0 x1 v13_0 := by kernel_rfl
theorem zq64.e13 (x0 : THead) (x1 : TSigned) (v13_0 : Bool) : V.jn (V.joinF zq64.E Tryz.f291.ntmps [1, 1, 1, 0, 0, 1, 1] [] (V.codeOf Tryz.f291) (zq64.kt x0 x1)) (zq64.s13 x0 x1 v13_0) = zq64.l13 x0 x1 v13_0 := by
  rw [V.jn_eq, zq64.r13]
  rfl
theorem zq64.r7 (x0 : THead) (x1 : TSigned) (v7_0 : Bool) : V.joinF zq64.E Tryz.f291.ntmps [1, 1] [] (V.codeOf Tryz.f291) (zq64.kt x0 x1) (zq64.s7 x0 x1 v7_0) = zq64.g7 x0 x1 (fun v13_0 => V.jn (V.joinF zq64.E Tryz.f291.ntmps [1, 1, 1, 0, 0, 1, 1] [] (V.codeOf Tryz.f291) (zq64.kt x0 x1)) (zq64.s13 x0 x1 v13_0)) v7_0 := by kernel_rfl
theorem zq64.e7 (x0 : THead) (x1 : TSigned) (v7_0 : Bool) : V.jn (V.joinF zq64.E Tryz.f291.ntmps [1, 1] [] (V.codeOf Tryz.f291) (zq64.kt x0 x1)) (zq64.s7 x0 x1 v7_0) = zq64.l7 x0 x1 v7_0 := by
  rw [V.jn_eq, zq64.r7]
  simp only [zq64.e13]
  rfl
noncomputable abbrev zq64.s (x0 : THead) (x1 : TSigned) : V.St := ⟨[(0, .v true [.val (.int .i64 x0.1), .val (.int .i64 x0.2.1), .val (.int .i64 x0.2.2.1), .val (.int .i64 x0.2.2.2.1), .val (.int .i64 x0.2.2.2.2.1), .val (.int .i64 x0.2.2.2.2.2.1), .val (.int .i64 x0.2.2.2.2.2.2.1), .val (.int .i64 x0.2.2.2.2.2.2.2.1), .val (.sl (.cons (.int .i64) .nil) x0.2.2.2.2.2.2.2.2.1), .val (.int .i64 x0.2.2.2.2.2.2.2.2.2.1), .val (.sl (.cons (.int .i64) .nil) x0.2.2.2.2.2.2.2.2.2.2.1), .val (.int .i64 x0.2.2.2.2.2.2.2.2.2.2.2.1), .val (.int .i64 x0.2.2.2.2.2.2.2.2.2.2.2.2.1), .val (.sl (.cons (.int .i64) .nil) x0.2.2.2.2.2.2.2.2.2.2.2.2.2.1), .val (.int .i64 x0.2.2.2.2.2.2.2.2.2.2.2.2.2.2.1), .val (.bool x0.2.2.2.2.2.2.2.2.2.2.2.2.2.2.2)]), (1, .v true [.val (.int .i64 x1.1), .val (.int .i64 x1.2.1), .val (.int .i64 x1.2.2.1), .val (.int .i64 x1.2.2.2.1), .val (.int .i64 x1.2.2.2.2.1), .val (.int .i64 x1.2.2.2.2.2.1), .val (.int .i64 x1.2.2.2.2.2.2.1), .val (.int .i64 x1.2.2.2.2.2.2.2.1), .val (.sl (.cons (.int .i64) .nil) x1.2.2.2.2.2.2.2.2.1), .val (.int .i64 x1.2.2.2.2.2.2.2.2.2.1), .val (.sl (.cons (.int .i64) .nil) x1.2.2.2.2.2.2.2.2.2.2.1), .val (.int .i64 x1.2.2.2.2.2.2.2.2.2.2.2.1), .val (.int .i64 x1.2.2.2.2.2.2.2.2.2.2.2.2.1), .val (.sl (.cons (.int .i64) .nil) x1.2.2.2.2.2.2.2.2.2.2.2.2.2.1), .val (.int .i64 x1.2.2.2.2.2.2.2.2.2.2.2.2.2.2.1), .val (.bool x1.2.2.2.2.2.2.2.2.2.2.2.2.2.2.2.1), .val (.sl (.cons (.int .i64) (.cons (.int .i64) .nil)) x1.2.2.2.2.2.2.2.2.2.2.2.2.2.2.2.2)])], []⟩
theorem zq64.v0 (x0 : THead) (x1 : TSigned) : V.evBody zq64.E zq64.con Tryz.f291 (V.fl9 x0 x1) = V.evC zq64.E Tryz.f291.ntmps (V.codeOf Tryz.f291) (zq64.kt x0 x1) (zq64.s x0 x1) := by kernel_rfl
theorem zq64.v (x0 : THead) (x1 : TSigned) : V.evC zq64.E Tryz.f291.ntmps (V.codeOf Tryz.f291) (zq64.kt x0 x1) (zq64.s x0 x1) = zq64.b x0 x1 (fun v7_0 => V.jn (V.joinF zq64.E Tryz.f291.ntmps [1, 1] [] (V.codeOf Tryz.f291) (zq64.kt x0 x1)) (zq64.s7 x0 x1 v7_0)) := by kernel_rfl
theorem zq64.eq (x0 : THead) (x1 : TSigned) : V.evBody zq64.E zq64.con Tryz.f291 (V.fl9 x0 x1) = zq64 x0 x1 := by
  rw [zq64.v0, zq64.v]
  simp only [zq64.e7]
  rfl
theorem zq64.ok : V.Valid Tryz.prog 291 zq64.con :=
  V.fo (V.tab_cons zq11.ok (V.tab_cons zq38.ok (V.tab_cons zq42.ok (V.tab_cons zq41.ok V.tab_nil)))) Tryz.func291 (by kernel_rfl) (fun x y h => (show V.evBody zq64.E zq64.con Tryz.f291 x = _ from zq64.eq (V.p9_0 x) (V.p9_1 x)).trans (V.cfl (by kernel_rfl) h))
noncomputable abbrev zq37.con : V.Con := ⟨V.A9, (.cons (.int .i64) .nil), fun (x : V.D9) => zq37 (V.p9_0 x) (V.p9_1 x), [], [(true, 16), (true, 17)], [(false, 1)], [false], []⟩
noncomputable abbrev zq37.E : V.Env := V.mkE V.tys [(194, zq22.con), (288, zq58.con), (289, zq67.con), (290, zq54.con), (291, zq64.con)] [(5, [2, 3, 5], [])] [] [] [] []
noncomputable abbrev zq37.kt (x0 : THead) (x1 : TSigned) : V.Kt Int := V.ktOf zq37.E zq37.con Tryz.f244 (V.fl9 x0 x1)
noncomputable abbrev zq37.s5 (x0 : THead) (x1 : TSigned) (v5_0 : Bool) : V.St := ⟨[(2, .v false [.ptr 64000 0]), (3, .v false [.ptr 64064 0]), (5, .v false [.val (.bool v5_0)])], [(64000, .box [.val (.int .i64 x0.1), .val (.int .i64 x0.2.1), .val (.int .i64 x0.2.2.1), .val (.int .i64 x0.2.2.2.1), .val (.int .i64 x0.2.2.2.2.1), .val (.int .i64 x0.2.2.2.2.2.1), .val (.int .i64 x0.2.2.2.2.2.2.1), .val (.int .i64 x0.2.2.2.2.2.2.2.1), .val (.sl (.cons (.int .i64) .nil) x0.2.2.2.2.2.2.2.2.1), .val (.int .i64 x0.2.2.2.2.2.2.2.2.2.1), .val (.sl (.cons (.int .i64) .nil) x0.2.2.2.2.2.2.2.2.2.2.1), .val (.int .i64 x0.2.2.2.2.2.2.2.2.2.2.2.1), .val (.int .i64 x0.2.2.2.2.2.2.2.2.2.2.2.2.1), .val (.sl (.cons (.int .i64) .nil) x0.2.2.2.2.2.2.2.2.2.2.2.2.2.1), .val (.int .i64 x0.2.2.2.2.2.2.2.2.2.2.2.2.2.2.1), .val (.bool x0.2.2.2.2.2.2.2.2.2.2.2.2.2.2.2)]), (64064, .box [.val (.int .i64 x1.1), .val (.int .i64 x1.2.1), .val (.int .i64 x1.2.2.1), .val (.int .i64 x1.2.2.2.1), .val (.int .i64 x1.2.2.2.2.1), .val (.int .i64 x1.2.2.2.2.2.1), .val (.int .i64 x1.2.2.2.2.2.2.1), .val (.int .i64 x1.2.2.2.2.2.2.2.1), .val (.sl (.cons (.int .i64) .nil) x1.2.2.2.2.2.2.2.2.1), .val (.int .i64 x1.2.2.2.2.2.2.2.2.2.1), .val (.sl (.cons (.int .i64) .nil) x1.2.2.2.2.2.2.2.2.2.2.1), .val (.int .i64 x1.2.2.2.2.2.2.2.2.2.2.2.1), .val (.int .i64 x1.2.2.2.2.2.2.2.2.2.2.2.2.1), .val (.sl (.cons (.int .i64) .nil) x1.2.2.2.2.2.2.2.2.2.2.2.2.2.1), .val (.int .i64 x1.2.2.2.2.2.2.2.2.2.2.2.2.2.2.1), .val (.bool x1.2.2.2.2.2.2.2.2.2.2.2.2.2.2.2.1), .val (.sl (.cons (.int .i64) (.cons (.int .i64) .nil)) x1.2.2.2.2.2.2.2.2.2.2.2.2.2.2.2.2)])]⟩
theorem zq37.r5 (x0 : THead) (x1 : TSigned) (v5_0 : Bool) : V.joinF zq37.E Tryz.f244.ntmps [1, 0, 0] [] (V.codeOf Tryz.f244) (zq37.kt x0 x1) (zq37.s5 x0 x1 v5_0) = zq37.g5 x0 x1 v5_0 := by kernel_rfl
theorem zq37.e5 (x0 : THead) (x1 : TSigned) (v5_0 : Bool) : V.jn (V.joinF zq37.E Tryz.f244.ntmps [1, 0, 0] [] (V.codeOf Tryz.f244) (zq37.kt x0 x1)) (zq37.s5 x0 x1 v5_0) = zq37.l5 x0 x1 v5_0 := by
  rw [V.jn_eq, zq37.r5]
  rfl
noncomputable abbrev zq37.s (x0 : THead) (x1 : TSigned) : V.St := ⟨[(0, .v true [.val (.int .i64 x0.1), .val (.int .i64 x0.2.1), .val (.int .i64 x0.2.2.1), .val (.int .i64 x0.2.2.2.1), .val (.int .i64 x0.2.2.2.2.1), .val (.int .i64 x0.2.2.2.2.2.1), .val (.int .i64 x0.2.2.2.2.2.2.1), .val (.int .i64 x0.2.2.2.2.2.2.2.1), .val (.sl (.cons (.int .i64) .nil) x0.2.2.2.2.2.2.2.2.1), .val (.int .i64 x0.2.2.2.2.2.2.2.2.2.1), .val (.sl (.cons (.int .i64) .nil) x0.2.2.2.2.2.2.2.2.2.2.1), .val (.int .i64 x0.2.2.2.2.2.2.2.2.2.2.2.1), .val (.int .i64 x0.2.2.2.2.2.2.2.2.2.2.2.2.1), .val (.sl (.cons (.int .i64) .nil) x0.2.2.2.2.2.2.2.2.2.2.2.2.2.1), .val (.int .i64 x0.2.2.2.2.2.2.2.2.2.2.2.2.2.2.1), .val (.bool x0.2.2.2.2.2.2.2.2.2.2.2.2.2.2.2)]), (1, .v true [.val (.int .i64 x1.1), .val (.int .i64 x1.2.1), .val (.int .i64 x1.2.2.1), .val (.int .i64 x1.2.2.2.1), .val (.int .i64 x1.2.2.2.2.1), .val (.int .i64 x1.2.2.2.2.2.1), .val (.int .i64 x1.2.2.2.2.2.2.1), .val (.int .i64 x1.2.2.2.2.2.2.2.1), .val (.sl (.cons (.int .i64) .nil) x1.2.2.2.2.2.2.2.2.1), .val (.int .i64 x1.2.2.2.2.2.2.2.2.2.1), .val (.sl (.cons (.int .i64) .nil) x1.2.2.2.2.2.2.2.2.2.2.1), .val (.int .i64 x1.2.2.2.2.2.2.2.2.2.2.2.1), .val (.int .i64 x1.2.2.2.2.2.2.2.2.2.2.2.2.1), .val (.sl (.cons (.int .i64) .nil) x1.2.2.2.2.2.2.2.2.2.2.2.2.2.1), .val (.int .i64 x1.2.2.2.2.2.2.2.2.2.2.2.2.2.2.1), .val (.bool x1.2.2.2.2.2.2.2.2.2.2.2.2.2.2.2.1), .val (.sl (.cons (.int .i64) (.cons (.int .i64) .nil)) x1.2.2.2.2.2.2.2.2.2.2.2.2.2.2.2.2)])], []⟩
theorem zq37.v0 (x0 : THead) (x1 : TSigned) : V.evBody zq37.E zq37.con Tryz.f244 (V.fl9 x0 x1) = V.evC zq37.E Tryz.f244.ntmps (V.codeOf Tryz.f244) (zq37.kt x0 x1) (zq37.s x0 x1) := by kernel_rfl
theorem zq37.v (x0 : THead) (x1 : TSigned) : V.evC zq37.E Tryz.f244.ntmps (V.codeOf Tryz.f244) (zq37.kt x0 x1) (zq37.s x0 x1) = zq37.b x0 x1 (fun v5_0 => V.jn (V.joinF zq37.E Tryz.f244.ntmps [1, 0, 0] [] (V.codeOf Tryz.f244) (zq37.kt x0 x1)) (zq37.s5 x0 x1 v5_0)) := by kernel_rfl
theorem zq37.eq (x0 : THead) (x1 : TSigned) : V.evBody zq37.E zq37.con Tryz.f244 (V.fl9 x0 x1) = zq37 x0 x1 := by
  rw [zq37.v0, zq37.v]
  simp only [zq37.e5]
  rfl
theorem zq37.ok : V.Valid Tryz.prog 244 zq37.con :=
  V.fo (V.tab_cons zq22.ok (V.tab_cons zq58.ok (V.tab_cons zq67.ok (V.tab_cons zq54.ok (V.tab_cons zq64.ok V.tab_nil))))) Tryz.func244 (by kernel_rfl) (fun x y h => (show V.evBody zq37.E zq37.con Tryz.f244 x = _ from zq37.eq (V.p9_0 x) (V.p9_1 x)).trans (V.cfl (by kernel_rfl) h))
noncomputable abbrev zq35.con : V.Con := ⟨V.A9, (.cons .bool .nil), fun (x : V.D9) => zq35 (V.p9_0 x) (V.p9_1 x), [], [(true, 16), (true, 17)], [(false, 1)], [false], []⟩
noncomputable abbrev zq35.E : V.Env := V.mkE V.tys [(244, zq37.con)] [] [] [] [] []
noncomputable abbrev zq35.kt (x0 : THead) (x1 : TSigned) : V.Kt Bool := V.ktOf zq35.E zq35.con Tryz.f269 (V.fl9 x0 x1)
noncomputable abbrev zq35.s (x0 : THead) (x1 : TSigned) : V.St := ⟨[(0, .v true [.val (.int .i64 x0.1), .val (.int .i64 x0.2.1), .val (.int .i64 x0.2.2.1), .val (.int .i64 x0.2.2.2.1), .val (.int .i64 x0.2.2.2.2.1), .val (.int .i64 x0.2.2.2.2.2.1), .val (.int .i64 x0.2.2.2.2.2.2.1), .val (.int .i64 x0.2.2.2.2.2.2.2.1), .val (.sl (.cons (.int .i64) .nil) x0.2.2.2.2.2.2.2.2.1), .val (.int .i64 x0.2.2.2.2.2.2.2.2.2.1), .val (.sl (.cons (.int .i64) .nil) x0.2.2.2.2.2.2.2.2.2.2.1), .val (.int .i64 x0.2.2.2.2.2.2.2.2.2.2.2.1), .val (.int .i64 x0.2.2.2.2.2.2.2.2.2.2.2.2.1), .val (.sl (.cons (.int .i64) .nil) x0.2.2.2.2.2.2.2.2.2.2.2.2.2.1), .val (.int .i64 x0.2.2.2.2.2.2.2.2.2.2.2.2.2.2.1), .val (.bool x0.2.2.2.2.2.2.2.2.2.2.2.2.2.2.2)]), (1, .v true [.val (.int .i64 x1.1), .val (.int .i64 x1.2.1), .val (.int .i64 x1.2.2.1), .val (.int .i64 x1.2.2.2.1), .val (.int .i64 x1.2.2.2.2.1), .val (.int .i64 x1.2.2.2.2.2.1), .val (.int .i64 x1.2.2.2.2.2.2.1), .val (.int .i64 x1.2.2.2.2.2.2.2.1), .val (.sl (.cons (.int .i64) .nil) x1.2.2.2.2.2.2.2.2.1), .val (.int .i64 x1.2.2.2.2.2.2.2.2.2.1), .val (.sl (.cons (.int .i64) .nil) x1.2.2.2.2.2.2.2.2.2.2.1), .val (.int .i64 x1.2.2.2.2.2.2.2.2.2.2.2.1), .val (.int .i64 x1.2.2.2.2.2.2.2.2.2.2.2.2.1), .val (.sl (.cons (.int .i64) .nil) x1.2.2.2.2.2.2.2.2.2.2.2.2.2.1), .val (.int .i64 x1.2.2.2.2.2.2.2.2.2.2.2.2.2.2.1), .val (.bool x1.2.2.2.2.2.2.2.2.2.2.2.2.2.2.2.1), .val (.sl (.cons (.int .i64) (.cons (.int .i64) .nil)) x1.2.2.2.2.2.2.2.2.2.2.2.2.2.2.2.2)])], []⟩
theorem zq35.v0 (x0 : THead) (x1 : TSigned) : V.evBody zq35.E zq35.con Tryz.f269 (V.fl9 x0 x1) = V.evC zq35.E Tryz.f269.ntmps (V.codeOf Tryz.f269) (zq35.kt x0 x1) (zq35.s x0 x1) := by kernel_rfl
theorem zq35.v (x0 : THead) (x1 : TSigned) : V.evC zq35.E Tryz.f269.ntmps (V.codeOf Tryz.f269) (zq35.kt x0 x1) (zq35.s x0 x1) = zq35 x0 x1 := by kernel_rfl
theorem zq35.eq (x0 : THead) (x1 : TSigned) : V.evBody zq35.E zq35.con Tryz.f269 (V.fl9 x0 x1) = zq35 x0 x1 := (zq35.v0 x0 x1).trans (zq35.v x0 x1)
theorem zq35.ok : V.Valid Tryz.prog 269 zq35.con :=
  V.fo (V.tab_cons zq37.ok V.tab_nil) Tryz.func269 (by kernel_rfl) (fun x y h => (show V.evBody zq35.E zq35.con Tryz.f269 x = _ from zq35.eq (V.p9_0 x) (V.p9_1 x)).trans (V.cfl (by kernel_rfl) h))
noncomputable abbrev zq13.con : V.Con := ⟨(.cons (.sl V.eSigned) .nil), (.cons (.int .i64) .nil), fun (x : List TSigned) => zq13 x, [], [(false, 1)], [(false, 1)], [false], []⟩
noncomputable abbrev zq13.E : V.Env := V.mkE V.tys [(268, zq20.con), (269, zq35.con)] [(4, [0, 5, 6, 7], [])] [(4, 18)] [] [] []
noncomputable abbrev zq13.kt (x0 : List TSigned) : V.Kt Int := V.ktOf zq13.E zq13.con Tryz.f207 ((x0) : List TSigned)
noncomputable abbrev zq13.s4 (x0 : List TSigned) (v4_2 : Int) (v4_3 : Int) : V.St := ⟨[(0, .v false [.val (.sl V.eSigned x0)]), (5, .v false [.val (.sl V.eSigned x0)]), (6, .v false [.val (.int .i64 v4_2)]), (7, .v false [.val (.int .i64 v4_3)])], []⟩
theorem zq13.r4 (x0 : List TSigned) (R : V.St → Option Int) (v4_2 : Int) (v4_3 : Int) : V.loopF zq13.E Tryz.f207.ntmps [1, 0, 1, 0] [] (V.codeOf Tryz.f207) (zq13.kt x0) R (zq13.s4 x0 v4_2 v4_3) = zq13.g4 x0 (fun v4_2 v4_3 => R (zq13.s4 x0 v4_2 v4_3)) v4_2 v4_3 := by kernel_rfl
theorem zq13.e4 (x0 : List TSigned) : ∀ (n : Nat) (v4_2 : Int) (v4_3 : Int), V.loopN (V.loopF zq13.E Tryz.f207.ntmps [1, 0, 1, 0] [] (V.codeOf Tryz.f207) (zq13.kt x0)) n (zq13.s4 x0 v4_2 v4_3) = zq13.l4 x0 n v4_2 v4_3 := by
  intro n
  induction n with
  | zero => intros; rw [V.loopN_z]; rfl
  | succ n ih =>
    intro v4_2 v4_3
    rw [V.loopN_s, zq13.r4]
    simp only [ih]
    first | exact (zq13.u4 ..).symm | rfl
theorem zq13.v (x0 : List TSigned) : V.evBody zq13.E zq13.con Tryz.f207 ((x0) : List TSigned) = zq13.b x0 (fun v4_2 v4_3 => V.loopN (V.loopF zq13.E Tryz.f207.ntmps [1, 0, 1, 0] [] (V.codeOf Tryz.f207) (zq13.kt x0)) V.KK (zq13.s4 x0 v4_2 v4_3)) := by kernel_rfl
theorem zq13.eq (x0 : List TSigned) : V.evBody zq13.E zq13.con Tryz.f207 ((x0) : List TSigned) = zq13 x0 := by
  rw [zq13.v]
  simp only [zq13.e4]
  rfl
theorem zq13.ok : V.Valid Tryz.prog 207 zq13.con :=
  V.fo (V.tab_cons zq20.ok (V.tab_cons zq35.ok V.tab_nil)) Tryz.func207 (by kernel_rfl) (fun x y h => (show V.evBody zq13.E zq13.con Tryz.f207 x = _ from zq13.eq x).trans (V.cfl (by kernel_rfl) h))
noncomputable abbrev zq18.con : V.Con := ⟨(.cons (.sl V.eSigned) .nil), (.cons .bool .nil), fun (x : List TSigned) => zq18 x, [], [(false, 1)], [(false, 1)], [false], []⟩
noncomputable abbrev zq18.E : V.Env := V.mkE V.tys [(151, zq17.con), (207, zq13.con)] [] [] [] [] []
theorem zq18.eq (x0 : List TSigned) : V.evBody zq18.E zq18.con Tryz.f104 ((x0) : List TSigned) = zq18 x0 := by kernel_rfl
theorem zq18.ok : V.Valid Tryz.prog 104 zq18.con :=
  V.fo (V.tab_cons zq17.ok (V.tab_cons zq13.ok V.tab_nil)) Tryz.func104 (by kernel_rfl) (fun x y h => (show V.evBody zq18.E zq18.con Tryz.f104 x = _ from zq18.eq x).trans (V.cfl (by kernel_rfl) h))
noncomputable abbrev zq65.con : V.Con := ⟨(.cons (.sl V.eSigned) .nil), V.eHead, fun (x : List TSigned) => zq65 x, [], [(false, 1)], [(true, 16)], [false, false, false, false, false, false, false, false, false, false, false, false, false, false, false, false], []⟩
noncomputable abbrev zq65.E : V.Env := V.mkE V.tys [] [] [] [] [] []
theorem zq65.eq (x0 : List TSigned) : V.evBody zq65.E zq65.con Tryz.f130 ((x0) : List TSigned) = zq65 x0 := by kernel_rfl
theorem zq65.ok : V.Valid Tryz.prog 130 zq65.con :=
  V.fo V.tab_nil Tryz.func130 (by kernel_rfl) (fun x y h => (show V.evBody zq65.E zq65.con Tryz.f130 x = _ from zq65.eq x).trans (V.cfl (by kernel_rfl) h))
noncomputable abbrev zq117.con : V.Con := ⟨(.cons (.sl (.cons (.int .i64) .nil)) .nil), (.cons (.sl (.cons (.int .i64) .nil)) .nil), fun (x : List Int) => zq117 x, [], [(false, 1)], [(false, 1)], [true], []⟩
noncomputable abbrev zq117.E : V.Env := V.mkE V.tys [] [] [] [] [] []
theorem zq117.eq (x0 : List Int) : V.evBody zq117.E zq117.con Tryz.f275 ((x0) : List Int) = zq117 x0 := by kernel_rfl
theorem zq117.ok : V.Valid Tryz.prog 275 zq117.con :=
  V.fo V.tab_nil Tryz.func275 (by kernel_rfl) (fun x y h => (show V.evBody zq117.E zq117.con Tryz.f275 x = _ from zq117.eq x).trans (V.cfl (by kernel_rfl) h))
noncomputable abbrev zq52.con : V.Con := ⟨(.cons (.sl (.cons (.int .i64) .nil)) (.cons (.int .i64) .nil)), (.cons (.sl (.cons (.int .i64) .nil)) (.cons (.int .i64) .nil)), fun (x : List Int × Int) => zq52 x, [], [(true, 2)], [(true, 2)], [true, false], []⟩
noncomputable abbrev zq52.E : V.Env := V.mkE V.tys [(275, zq117.con)] [] [(1, 5)] [] [] []
theorem zq52.eq (x0 : TKeys) : V.evBody zq52.E zq52.con Tryz.f228 ((x0.1, x0.2) : List Int × Int) = zq52 x0 := by kernel_rfl
theorem zq52.ok : V.Valid Tryz.prog 228 zq52.con :=
  V.fo (V.tab_cons zq117.ok V.tab_nil) Tryz.func228 (by kernel_rfl) (fun x y h => (show V.evBody zq52.E zq52.con Tryz.f228 x = _ from zq52.eq x).trans (V.cfl (by kernel_rfl) h))
noncomputable abbrev zq51.con : V.Con := ⟨V.A4, V.eHead, fun (x : V.D4) => zq51 (V.p4_0 x), [], [(true, 16)], [(true, 16)], [false, false, false, false, false, false, false, false, true, false, true, false, false, true, false, false], []⟩
noncomputable abbrev zq51.E : V.Env := V.mkE V.tys [(228, zq52.con)] [] [(1, 10)] [] [] []
noncomputable abbrev zq51.kt (x0 : THead) : V.Kt THead := V.ktOf zq51.E zq51.con Tryz.f195 (V.fl4 x0)
noncomputable abbrev zq51.s (x0 : THead) : V.St := ⟨[(0, .v true [.val (.int .i64 x0.1), .val (.int .i64 x0.2.1), .val (.int .i64 x0.2.2.1), .val (.int .i64 x0.2.2.2.1), .val (.int .i64 x0.2.2.2.2.1), .val (.int .i64 x0.2.2.2.2.2.1), .val (.int .i64 x0.2.2.2.2.2.2.1), .val (.int .i64 x0.2.2.2.2.2.2.2.1), .val (.sl (.cons (.int .i64) .nil) x0.2.2.2.2.2.2.2.2.1), .val (.int .i64 x0.2.2.2.2.2.2.2.2.2.1), .val (.sl (.cons (.int .i64) .nil) x0.2.2.2.2.2.2.2.2.2.2.1), .val (.int .i64 x0.2.2.2.2.2.2.2.2.2.2.2.1), .val (.int .i64 x0.2.2.2.2.2.2.2.2.2.2.2.2.1), .val (.sl (.cons (.int .i64) .nil) x0.2.2.2.2.2.2.2.2.2.2.2.2.2.1), .val (.int .i64 x0.2.2.2.2.2.2.2.2.2.2.2.2.2.2.1), .val (.bool x0.2.2.2.2.2.2.2.2.2.2.2.2.2.2.2)])], []⟩
theorem zq51.v0 (x0 : THead) : V.evBody zq51.E zq51.con Tryz.f195 (V.fl4 x0) = V.evC zq51.E Tryz.f195.ntmps (V.codeOf Tryz.f195) (zq51.kt x0) (zq51.s x0) := by kernel_rfl
theorem zq51.v (x0 : THead) : V.evC zq51.E Tryz.f195.ntmps (V.codeOf Tryz.f195) (zq51.kt x0) (zq51.s x0) = zq51 x0 := by kernel_rfl
theorem zq51.eq (x0 : THead) : V.evBody zq51.E zq51.con Tryz.f195 (V.fl4 x0) = zq51 x0 := (zq51.v0 x0).trans (zq51.v x0)
theorem zq51.ok : V.Valid Tryz.prog 195 zq51.con :=
  V.fo (V.tab_cons zq52.ok V.tab_nil) Tryz.func195 (by kernel_rfl) (fun x y h => (show V.evBody zq51.E zq51.con Tryz.f195 x = _ from zq51.eq (V.p4_0 x)).trans (V.cfl (by kernel_rfl) h))
noncomputable abbrev zq32.con : V.Con := ⟨(.cons (.sl V.eSigned) .nil), V.eRHeadBool, fun (x : List TSigned) => zq32 x, [], [(false, 1)], [(true, 16), (false, 1)], [false, false, false, false, false, false, false, false, true, false, true, false, false, true, false, false, false], []⟩
noncomputable abbrev zq32.E : V.Env := V.mkE V.tys [(104, zq18.con), (130, zq65.con), (195, zq51.con)] [] [] [] [] []
theorem zq32.eq (x0 : List TSigned) : V.evBody zq32.E zq32.con Tryz.f161 ((x0) : List TSigned) = zq32 x0 := by kernel_rfl
theorem zq32.ok : V.Valid Tryz.prog 161 zq32.con :=
  V.fo (V.tab_cons zq18.ok (V.tab_cons zq65.ok (V.tab_cons zq51.ok V.tab_nil))) Tryz.func161 (by kernel_rfl) (fun x y h => (show V.evBody zq32.E zq32.con Tryz.f161 x = _ from zq32.eq x).trans (V.cfl (by kernel_rfl) h))
noncomputable abbrev zq21.con : V.Con := ⟨V.A0, (.cons .bool .nil), fun (x : V.D0) => zq21 (V.p0_0 x) (V.p0_1 x), [], [(true, 16), (false, 1)], [(false, 1)], [false], []⟩
noncomputable abbrev zq21.E : V.Env := V.mkE V.tys [(151, zq17.con)] [] [] [] [] []
noncomputable abbrev zq21.kt (x0 : THead) (x1 : Int) : V.Kt Bool := V.ktOf zq21.E zq21.con Tryz.f162 (V.fl0 x0 x1)
noncomputable abbrev zq21.s (x0 : THead) (x1 : Int) : V.St := ⟨[(0, .v true [.val (.int .i64 x0.1), .val (.int .i64 x0.2.1), .val (.int .i64 x0.2.2.1), .val (.int .i64 x0.2.2.2.1), .val (.int .i64 x0.2.2.2.2.1), .val (.int .i64 x0.2.2.2.2.2.1), .val (.int .i64 x0.2.2.2.2.2.2.1), .val (.int .i64 x0.2.2.2.2.2.2.2.1), .val (.sl (.cons (.int .i64) .nil) x0.2.2.2.2.2.2.2.2.1), .val (.int .i64 x0.2.2.2.2.2.2.2.2.2.1), .val (.sl (.cons (.int .i64) .nil) x0.2.2.2.2.2.2.2.2.2.2.1), .val (.int .i64 x0.2.2.2.2.2.2.2.2.2.2.2.1), .val (.int .i64 x0.2.2.2.2.2.2.2.2.2.2.2.2.1), .val (.sl (.cons (.int .i64) .nil) x0.2.2.2.2.2.2.2.2.2.2.2.2.2.1), .val (.int .i64 x0.2.2.2.2.2.2.2.2.2.2.2.2.2.2.1), .val (.bool x0.2.2.2.2.2.2.2.2.2.2.2.2.2.2.2)]), (1, .v false [.val (.int .i64 x1)])], []⟩
theorem zq21.v0 (x0 : THead) (x1 : Int) : V.evBody zq21.E zq21.con Tryz.f162 (V.fl0 x0 x1) = V.evC zq21.E Tryz.f162.ntmps (V.codeOf Tryz.f162) (zq21.kt x0 x1) (zq21.s x0 x1) := by kernel_rfl
theorem zq21.v (x0 : THead) (x1 : Int) : V.evC zq21.E Tryz.f162.ntmps (V.codeOf Tryz.f162) (zq21.kt x0 x1) (zq21.s x0 x1) = zq21 x0 x1 := by kernel_rfl
theorem zq21.eq (x0 : THead) (x1 : Int) : V.evBody zq21.E zq21.con Tryz.f162 (V.fl0 x0 x1) = zq21 x0 x1 := (zq21.v0 x0 x1).trans (zq21.v x0 x1)
theorem zq21.ok : V.Valid Tryz.prog 162 zq21.con :=
  V.fo (V.tab_cons zq17.ok V.tab_nil) Tryz.func162 (by kernel_rfl) (fun x y h => (show V.evBody zq21.E zq21.con Tryz.f162 x = _ from zq21.eq (V.p0_0 x) (V.p0_1 x)).trans (V.cfl (by kernel_rfl) h))
noncomputable abbrev zq0.con : V.Con := ⟨(.cons (.sl (.cons (.int .u8) .nil)) .nil), (.cons (.sl (.cons (.int .i64) .nil)) .nil), fun (x : List Int) => zq0 x, [], [(false, 1)], [(false, 1)], [true], []⟩
noncomputable abbrev zq0.E : V.Env := V.mkE V.tys [] [(6, [3, 9, 10, 11], [])] [] [] [] []
noncomputable abbrev zq0.kt (x0 : List Int) : V.Kt (List Int) := V.ktOf zq0.E zq0.con Tryz.f318 ((x0) : List Int)
noncomputable abbrev zq0.s6 (x0 : List Int) (v6_1 : Int) (v6_2 : Int) (v6_3 : List Int) : V.St := ⟨[(3, .v false [.ref 64000038400192]), (9, .v false [.val (.sl (.cons (.int .u8) .nil) x0)]), (10, .v false [.val (.int .i64 v6_1)]), (11, .v false [.val (.int .i64 v6_2)])], [(64000038400192, .row (.cons (.int .i64) .nil) true v6_3)]⟩
theorem zq0.r6 (x0 : List Int) (R : V.St → Option (List Int)) (v6_1 : Int) (v6_2 : Int) (v6_3 : List Int) : V.loopF zq0.E Tryz.f318.ntmps [1, 1, 0, 1, 0] [] (V.codeOf Tryz.f318) (zq0.kt x0) R (zq0.s6 x0 v6_1 v6_2 v6_3) = zq0.g6 x0 (fun v6_1 v6_2 v6_3 => R (zq0.s6 x0 v6_1 v6_2 v6_3)) v6_1 v6_2 v6_3 := by kernel_rfl
theorem zq0.e6 (x0 : List Int) : ∀ (n : Nat) (v6_1 : Int) (v6_2 : Int) (v6_3 : List Int), V.loopN (V.loopF zq0.E Tryz.f318.ntmps [1, 1, 0, 1, 0] [] (V.codeOf Tryz.f318) (zq0.kt x0)) n (zq0.s6 x0 v6_1 v6_2 v6_3) = zq0.l6 x0 n v6_1 v6_2 v6_3 := by
  intro n
  induction n with
  | zero => intros; rw [V.loopN_z]; rfl
  | succ n ih =>
    intro v6_1 v6_2 v6_3
    rw [V.loopN_s, zq0.r6]
    simp only [ih]
    first | exact (zq0.u6 ..).symm | rfl
theorem zq0.v (x0 : List Int) : V.evBody zq0.E zq0.con Tryz.f318 ((x0) : List Int) = zq0.b x0 (fun v6_1 v6_2 v6_3 => V.loopN (V.loopF zq0.E Tryz.f318.ntmps [1, 1, 0, 1, 0] [] (V.codeOf Tryz.f318) (zq0.kt x0)) V.KK (zq0.s6 x0 v6_1 v6_2 v6_3)) := by kernel_rfl
theorem zq0.eq (x0 : List Int) : V.evBody zq0.E zq0.con Tryz.f318 ((x0) : List Int) = zq0 x0 := by
  rw [zq0.v]
  simp only [zq0.e6]
  rfl
theorem zq0.ok : V.Valid Tryz.prog 318 zq0.con :=
  V.fo V.tab_nil Tryz.func318 (by kernel_rfl) (fun x y h => (show V.evBody zq0.E zq0.con Tryz.f318 x = _ from zq0.eq x).trans (V.cfl (by kernel_rfl) h))
noncomputable abbrev zq31.con : V.Con := ⟨(.cons .str .nil), (.cons (.sl (.cons (.int .i64) .nil)) .nil), fun (x : ByteArray) => zq31 x, [], [(false, 1)], [(false, 1)], [true], []⟩
noncomputable abbrev zq31.E : V.Env := V.mkE V.tys [(318, zq0.con)] [] [] [] [] []
theorem zq31.eq (x0 : ByteArray) : V.evBody zq31.E zq31.con Tryz.f314 ((x0) : ByteArray) = zq31 x0 := by kernel_rfl
theorem zq31.ok : V.Valid Tryz.prog 314 zq31.con :=
  V.fo (V.tab_cons zq0.ok V.tab_nil) Tryz.func314 (by kernel_rfl) (fun x y h => (show V.evBody zq31.E zq31.con Tryz.f314 x = _ from zq31.eq x).trans (V.cfl (by kernel_rfl) h))
noncomputable abbrev zq8.con : V.Con := ⟨V.eEntry, (.cons (.sl (.cons (.int .i64) .nil)) .nil), fun (x : ByteArray × Int × Int × List ByteArray) => zq8 x, [], [(true, 4)], [(false, 1)], [true], []⟩
noncomputable abbrev zq8.E : V.Env := V.mkE V.tys [(314, zq31.con)] [(6, [3, 19, 20, 21], [])] [(1, 11)] [] [] []
noncomputable abbrev zq8.kt (x0 : TEntry) : V.Kt (List Int) := V.ktOf zq8.E zq8.con Tryz.f301 ((x0.1, x0.2.1, x0.2.2.1, x0.2.2.2) : ByteArray × Int × Int × List ByteArray)
noncomputable abbrev zq8.s6 (x0 : TEntry) (v6_1 : Int) (v6_2 : Int) (v6_3 : List Int) : V.St := ⟨[(3, .v false [.ref 64000038400192]), (19, .v false [.val (.sl (.cons .str .nil) x0.2.2.2)]), (20, .v false [.val (.int .i64 v6_1)]), (21, .v false [.val (.int .i64 v6_2)])], [(64000038400192, .row (.cons (.int .i64) .nil) true v6_3)]⟩
theorem zq8.r6 (x0 : TEntry) (R : V.St → Option (List Int)) (v6_1 : Int) (v6_2 : Int) (v6_3 : List Int) : V.loopF zq8.E Tryz.f301.ntmps [1, 1, 0, 1, 0] [] (V.codeOf Tryz.f301) (zq8.kt x0) R (zq8.s6 x0 v6_1 v6_2 v6_3) = zq8.g6 x0 (fun v6_1 v6_2 v6_3 => R (zq8.s6 x0 v6_1 v6_2 v6_3)) v6_1 v6_2 v6_3 := by kernel_rfl
theorem zq8.e6 (x0 : TEntry) : ∀ (n : Nat) (v6_1 : Int) (v6_2 : Int) (v6_3 : List Int), V.loopN (V.loopF zq8.E Tryz.f301.ntmps [1, 1, 0, 1, 0] [] (V.codeOf Tryz.f301) (zq8.kt x0)) n (zq8.s6 x0 v6_1 v6_2 v6_3) = zq8.l6 x0 n v6_1 v6_2 v6_3 := by
  intro n
  induction n with
  | zero => intros; rw [V.loopN_z]; rfl
  | succ n ih =>
    intro v6_1 v6_2 v6_3
    rw [V.loopN_s, zq8.r6]
    simp only [ih]
    first | exact (zq8.u6 ..).symm | rfl
theorem zq8.v (x0 : TEntry) : V.evBody zq8.E zq8.con Tryz.f301 ((x0.1, x0.2.1, x0.2.2.1, x0.2.2.2) : ByteArray × Int × Int × List ByteArray) = zq8.b x0 (fun v6_1 v6_2 v6_3 => V.loopN (V.loopF zq8.E Tryz.f301.ntmps [1, 1, 0, 1, 0] [] (V.codeOf Tryz.f301) (zq8.kt x0)) V.KK (zq8.s6 x0 v6_1 v6_2 v6_3)) := by kernel_rfl
theorem zq8.eq (x0 : TEntry) : V.evBody zq8.E zq8.con Tryz.f301 ((x0.1, x0.2.1, x0.2.2.1, x0.2.2.2) : ByteArray × Int × Int × List ByteArray) = zq8 x0 := by
  rw [zq8.v]
  simp only [zq8.e6]
  rfl
theorem zq8.ok : V.Valid Tryz.prog 301 zq8.con :=
  V.fo (V.tab_cons zq31.ok V.tab_nil) Tryz.func301 (by kernel_rfl) (fun x y h => (show V.evBody zq8.E zq8.con Tryz.f301 x = _ from zq8.eq x).trans (V.cfl (by kernel_rfl) h))
noncomputable abbrev zq33.con : V.Con := ⟨V.eEntry, (.cons (.int .i64) .nil), fun (x : ByteArray × Int × Int × List ByteArray) => zq33 x, [], [(true, 4)], [(false, 1)], [false], []⟩
noncomputable abbrev zq33.E : V.Env := V.mkE V.tys [(260, zq14.con), (301, zq8.con)] [] [] [] [] []
theorem zq33.eq (x0 : TEntry) : V.evBody zq33.E zq33.con Tryz.f263 ((x0.1, x0.2.1, x0.2.2.1, x0.2.2.2) : ByteArray × Int × Int × List ByteArray) = zq33 x0 := by kernel_rfl
theorem zq33.ok : V.Valid Tryz.prog 263 zq33.con :=
  V.fo (V.tab_cons zq14.ok (V.tab_cons zq8.ok V.tab_nil)) Tryz.func263 (by kernel_rfl) (fun x y h => (show V.evBody zq33.E zq33.con Tryz.f263 x = _ from zq33.eq x).trans (V.cfl (by kernel_rfl) h))
noncomputable abbrev zq53.con : V.Con := ⟨(.cons (.sl (.cons (.int .i64) .nil)) .nil), (.cons (.int .i64) .nil), fun (x : List Int) => zq53 x, [], [(false, 1)], [(false, 1)], [false], []⟩
noncomputable abbrev zq53.E : V.Env := V.mkE V.tys [(260, zq14.con)] [] [] [] [] []
theorem zq53.eq (x0 : List Int) : V.evBody zq53.E zq53.con Tryz.f261 ((x0) : List Int) = zq53 x0 := by kernel_rfl
theorem zq53.ok : V.Valid Tryz.prog 261 zq53.con :=
  V.fo (V.tab_cons zq14.ok V.tab_nil) Tryz.func261 (by kernel_rfl) (fun x y h => (show V.evBody zq53.E zq53.con Tryz.f261 x = _ from zq53.eq x).trans (V.cfl (by kernel_rfl) h))
noncomputable abbrev zq39.con : V.Con := ⟨(.cons (.int .i64) (.cons (.int .i64) .nil)), (.cons (.int .i64) .nil), fun (x : Int × Int) => zq39 x.1 x.2, [], [(false, 1), (false, 1)], [(false, 1)], [false], []⟩
noncomputable abbrev zq39.E : V.Env := V.mkE V.tys [(261, zq53.con)] [] [] [] [] []
theorem zq39.eq (x0 : Int) (x1 : Int) : V.evBody zq39.E zq39.con Tryz.f300 ((x0, x1) : Int × Int) = zq39 x0 x1 := by kernel_rfl
theorem zq39.ok : V.Valid Tryz.prog 300 zq39.con :=
  V.fo (V.tab_cons zq53.ok V.tab_nil) Tryz.func300 (by kernel_rfl) (fun x y h => (show V.evBody zq39.E zq39.con Tryz.f300 x = _ from zq39.eq x.1 x.2).trans (V.cfl (by kernel_rfl) h))
noncomputable abbrev zq44.con : V.Con := ⟨(.cons (.int .i64) (.cons (.int .i64) (.cons (.int .i64) (.cons (.sl (.cons (.int .i64) .nil)) .nil)))), (.cons (.int .i64) (.cons .bool .nil)), fun (x : Int × Int × Int × List Int) => zq44 x.1 x.2.1 x.2.2.1 x.2.2.2, [], [(false, 1), (false, 1), (false, 1), (false, 1)], [(false, 1), (false, 1)], [false, false], []⟩
noncomputable abbrev zq44.E : V.Env := V.mkE V.tys [(151, zq17.con), (300, zq39.con)] [(6, [0, 1, 2, 3], []), (7, [0, 1, 2, 3], []), (9, [0, 1, 2, 3], [])] [] [] [] []
noncomputable abbrev zq44.kt (x0 : Int) (x1 : Int) (x2 : Int) (x3 : List Int) : V.Kt (Int × Bool) := V.ktOf zq44.E zq44.con Tryz.f280 ((x0, x1, x2, x3) : Int × Int × Int × List Int)
noncomputable abbrev zq44.s9 (v6_1 : Int) (v6_2 : Int) (v9_0 : Int) (v9_3 : List Int) : V.St := ⟨[(0, .v false [.val (.int .i64 v9_0)]), (1, .v false [.val (.int .i64 v6_1)]), (2, .v false [.val (.int .i64 v6_2)]), (3, .v false [.val (.sl (.cons (.int .i64) .nil) v9_3)])], []⟩
noncomputable abbrev zq44.s6 (v6_0 : Int) (v6_1 : Int) (v6_2 : Int) (v6_3 : List Int) : V.St := ⟨[(0, .v false [.val (.int .i64 v6_0)]), (1, .v false [.val (.int .i64 v6_1)]), (2, .v false [.val (.int .i64 v6_2)]), (3, .v false [.val (.sl (.cons (.int .i64) .nil) v6_3)])], []⟩
noncomputable abbrev zq44.s7 (x0 : Int) (x1 : Int) (x2 : Int) (x3 : List Int) : V.St := ⟨[(0, .v false [.val (.int .i64 x0)]), (1, .v false [.val (.int .i64 x1)]), (2, .v false [.val (.int .i64 x2)]), (3, .v false [.val (.sl (.cons (.int .i64) .nil) x3)])], []⟩
theorem zq44.r9 (x0 : Int) (x1 : Int) (x2 : Int) (x3 : List Int) (v6_1 : Int) (v6_2 : Int) (R6 : V.St → Option (Int × Bool)) (v9_0 : Int) (v9_3 : List Int) : V.joinF zq44.E Tryz.f280.ntmps [1, 1, 0, 0, 0, 1] [R6] (V.codeOf Tryz.f280) (zq44.kt x0 x1 x2 x3) (zq44.s9 v6_1 v6_2 v9_0 v9_3) = zq44.g9 v6_1 v6_2 (fun v6_0 v6_1 v6_2 v6_3 => R6 (zq44.s6 v6_0 v6_1 v6_2 v6_3)) v9_0 v9_3 := by kernel_rfl
theorem zq44.e9 (x0 : Int) (x1 : Int) (x2 : Int) (x3 : List Int) (v6_1 : Int) (v6_2 : Int) (R6 : V.St → Option (Int × Bool)) (v9_0 : Int) (v9_3 : List Int) : V.jn (V.joinF zq44.E Tryz.f280.ntmps [1, 1, 0, 0, 0, 1] [R6] (V.codeOf Tryz.f280) (zq44.kt x0 x1 x2 x3)) (zq44.s9 v6_1 v6_2 v9_0 v9_3) = zq44.l9 v6_1 v6_2 (fun v6_0 v6_1 v6_2 v6_3 => R6 (zq44.s6 v6_0 v6_1 v6_2 v6_3)) v9_0 v9_3 := by
  rw [V.jn_eq, zq44.r9]
  rfl
theorem zq44.r6 (x0 : Int) (x1 : Int) (x2 : Int) (x3 : List Int) (R : V.St → Option (Int × Bool)) (v6_0 : Int) (v6_1 : Int) (v6_2 : Int) (v6_3 : List Int) : V.loopF zq44.E Tryz.f280.ntmps [1, 1, 0, 0] [] (V.codeOf Tryz.f280) (zq44.kt x0 x1 x2 x3) R (zq44.s6 v6_0 v6_1 v6_2 v6_3) = zq44.g6 (fun v6_0 v6_1 v6_2 v6_3 => R (zq44.s6 v6_0 v6_1 v6_2 v6_3)) (fun v9_0 v9_3 => V.jn (V.joinF zq44.E Tryz.f280.ntmps [1, 1, 0, 0, 0, 1] [R] (V.codeOf Tryz.f280) (zq44.kt x0 x1 x2 x3)) (zq44.s9 v6_1 v6_2 v9_0 v9_3)) v6_0 v6_1 v6_2 v6_3 := by kernel_rfl
theorem zq44.e6 (x0 : Int) (x1 : Int) (x2 : Int) (x3 : List Int) : ∀ (n : Nat) (v6_0 : Int) (v6_1 : Int) (v6_2 : Int) (v6_3 : List Int), V.loopN (V.loopF zq44.E Tryz.f280.ntmps [1, 1, 0, 0] [] (V.codeOf Tryz.f280) (zq44.kt x0 x1 x2 x3)) n (zq44.s6 v6_0 v6_1 v6_2 v6_3) = zq44.l6 n v6_0 v6_1 v6_2 v6_3 := by
  intro n
  induction n with
  | zero => intros; rw [V.loopN_z]; rfl
  | succ n ih =>
    intro v6_0 v6_1 v6_2 v6_3
    rw [V.loopN_s, zq44.r6]
    simp only [zq44.e9, ih]
    first | exact (zq44.u6 ..).symm | rfl
theorem zq44.r7 (x0 : Int) (x1 : Int) (x2 : Int) (x3 : List Int) : V.joinF zq44.E Tryz.f280.ntmps [1] [] (V.codeOf Tryz.f280) (zq44.kt x0 x1 x2 x3) (zq44.s7 x0 x1 x2 x3) = zq44.g7 x0 x1 x2 x3 (fun v6_0 v6_1 v6_2 v6_3 => V.loopN (V.loopF zq44.E Tryz.f280.ntmps [1, 1, 0, 0] [] (V.codeOf Tryz.f280) (zq44.kt x0 x1 x2 x3)) V.KK (zq44.s6 v6_0 v6_1 v6_2 v6_3)) := by kernel_rfl
theorem zq44.e7 (x0 : Int) (x1 : Int) (x2 : Int) (x3 : List Int) : V.jn (V.joinF zq44.E Tryz.f280.ntmps [1] [] (V.codeOf Tryz.f280) (zq44.kt x0 x1 x2 x3)) (zq44.s7 x0 x1 x2 x3) = zq44.l7 x0 x1 x2 x3 := by
  rw [V.jn_eq, zq44.r7]
  simp only [zq44.e6]
  rfl
theorem zq44.v (x0 : Int) (x1 : Int) (x2 : Int) (x3 : List Int) : V.evBody zq44.E zq44.con Tryz.f280 ((x0, x1, x2, x3) : Int × Int × Int × List Int) = zq44.b x0 x1 x2 x3 (V.jn (V.joinF zq44.E Tryz.f280.ntmps [1] [] (V.codeOf Tryz.f280) (zq44.kt x0 x1 x2 x3)) (zq44.s7 x0 x1 x2 x3)) := by kernel_rfl
theorem zq44.eq (x0 : Int) (x1 : Int) (x2 : Int) (x3 : List Int) : V.evBody zq44.E zq44.con Tryz.f280 ((x0, x1, x2, x3) : Int × Int × Int × List Int) = zq44 x0 x1 x2 x3 := by
  rw [zq44.v]
  simp only [zq44.e7]
  rfl
theorem zq44.ok : V.Valid Tryz.prog 280 zq44.con :=
  V.fo (V.tab_cons zq17.ok (V.tab_cons zq39.ok V.tab_nil)) Tryz.func280 (by kernel_rfl) (fun x y h => (show V.evBody zq44.E zq44.con Tryz.f280 x = _ from zq44.eq x.1 x.2.1 x.2.2.1 x.2.2.2).trans (V.cfl (by kernel_rfl) h))
noncomputable abbrev zq24.con : V.Con := ⟨(.cons .str .nil), (.cons .bool .nil), fun (x : ByteArray) => zq24 x, [], [(false, 1)], [(false, 1)], [false], []⟩
noncomputable abbrev zq24.E : V.Env := V.mkE V.tys [(151, zq17.con)] [(4, [0, 6, 7], [])] [] [] [] []
noncomputable abbrev zq24.kt (x0 : ByteArray) : V.Kt Bool := V.ktOf zq24.E zq24.con Tryz.f252 ((x0) : ByteArray)
noncomputable abbrev zq24.s4 (x0 : ByteArray) (v4_1 : Int) (v4_2 : Int) : V.St := ⟨[(0, .v false [.val (.str x0)]), (6, .v false [.val (.int .i64 v4_1)]), (7, .v false [.val (.int .i64 v4_2)])], []⟩
theorem zq24.r4 (x0 : ByteArray) (R : V.St → Option Bool) (v4_1 : Int) (v4_2 : Int) : V.loopF zq24.E Tryz.f252.ntmps [1, 0, 1, 0] [] (V.codeOf Tryz.f252) (zq24.kt x0) R (zq24.s4 x0 v4_1 v4_2) = zq24.g4 x0 (fun v4_1 v4_2 => R (zq24.s4 x0 v4_1 v4_2)) v4_1 v4_2 := by kernel_rfl
theorem zq24.e4 (x0 : ByteArray) : ∀ (n : Nat) (v4_1 : Int) (v4_2 : Int), V.loopN (V.loopF zq24.E Tryz.f252.ntmps [1, 0, 1, 0] [] (V.codeOf Tryz.f252) (zq24.kt x0)) n (zq24.s4 x0 v4_1 v4_2) = zq24.l4 x0 n v4_1 v4_2 := by
  intro n
  induction n with
  | zero => intros; rw [V.loopN_z]; rfl
  | succ n ih =>
    intro v4_1 v4_2
    rw [V.loopN_s, zq24.r4]
    simp only [ih]
    first | exact (zq24.u4 ..).symm | rfl
theorem zq24.v (x0 : ByteArray) : V.evBody zq24.E zq24.con Tryz.f252 ((x0) : ByteArray) = zq24.b x0 (fun v4_1 v4_2 => V.loopN (V.loopF zq24.E Tryz.f252.ntmps [1, 0, 1, 0] [] (V.codeOf Tryz.f252) (zq24.kt x0)) V.KK (zq24.s4 x0 v4_1 v4_2)) := by kernel_rfl
theorem zq24.eq (x0 : ByteArray) : V.evBody zq24.E zq24.con Tryz.f252 ((x0) : ByteArray) = zq24 x0 := by
  rw [zq24.v]
  simp only [zq24.e4]
  rfl
theorem zq24.ok : V.Valid Tryz.prog 252 zq24.con :=
  V.fo (V.tab_cons zq17.ok V.tab_nil) Tryz.func252 (by kernel_rfl) (fun x y h => (show V.evBody zq24.E zq24.con Tryz.f252 x = _ from zq24.eq x).trans (V.cfl (by kernel_rfl) h))
noncomputable abbrev zq26.con : V.Con := ⟨(.cons .str .nil), (.cons .bool .nil), fun (x : ByteArray) => zq26 x, [], [(false, 1)], [(false, 1)], [false], []⟩
noncomputable abbrev zq26.E : V.Env := V.mkE V.tys [(252, zq24.con)] [] [] [] [] []
theorem zq26.eq (x0 : ByteArray) : V.evBody zq26.E zq26.con Tryz.f296 ((x0) : ByteArray) = zq26 x0 := by kernel_rfl
theorem zq26.ok : V.Valid Tryz.prog 296 zq26.con :=
  V.fo (V.tab_cons zq24.ok V.tab_nil) Tryz.func296 (by kernel_rfl) (fun x y h => (show V.evBody zq26.E zq26.con Tryz.f296 x = _ from zq26.eq x).trans (V.cfl (by kernel_rfl) h))
noncomputable abbrev zq126.con : V.Con := ⟨(.cons (.sl (.cons .str .nil)) (.cons (.fn 296 false .nil .nil) .nil)), (.cons (.int .i64) .nil), fun (x : List ByteArray × (Unit) × (Unit)) => zq126 x.1 x.2, [], [(false, 1), (false, 1)], [(false, 1)], [false], []⟩
noncomputable abbrev zq126.E : V.Env := V.mkE V.tys [(296, zq26.con)] [(4, [0, 1, 7, 8], [])] [] [] [] []
noncomputable abbrev zq126.kt (x0 : List ByteArray) (x1 : (Unit) × (Unit)) : V.Kt Int := V.ktOf zq126.E zq126.con Tryz.f312 ((x0, x1) : List ByteArray × (Unit) × (Unit))
noncomputable abbrev zq126.s4 (x0 : List ByteArray) (v4_1 : Int) (v4_2 : Int) : V.St := ⟨[(0, .v false [.val (.sl (.cons .str .nil) x0)]), (1, .v false [.val (.fn 296 false .nil .nil () ())]), (7, .v false [.val (.int .i64 v4_1)]), (8, .v false [.val (.int .i64 v4_2)])], []⟩
theorem zq126.r4 (x0 : List ByteArray) (x1 : (Unit) × (Unit)) (R : V.St → Option Int) (v4_1 : Int) (v4_2 : Int) : V.loopF zq126.E Tryz.f312.ntmps [1, 0, 1, 0] [] (V.codeOf Tryz.f312) (zq126.kt x0 x1) R (zq126.s4 x0 v4_1 v4_2) = zq126.g4 x0 (fun v4_1 v4_2 => R (zq126.s4 x0 v4_1 v4_2)) v4_1 v4_2 := by kernel_rfl
theorem zq126.e4 (x0 : List ByteArray) (x1 : (Unit) × (Unit)) : ∀ (n : Nat) (v4_1 : Int) (v4_2 : Int), V.loopN (V.loopF zq126.E Tryz.f312.ntmps [1, 0, 1, 0] [] (V.codeOf Tryz.f312) (zq126.kt x0 x1)) n (zq126.s4 x0 v4_1 v4_2) = zq126.l4 x0 n v4_1 v4_2 := by
  intro n
  induction n with
  | zero => intros; rw [V.loopN_z]; rfl
  | succ n ih =>
    intro v4_1 v4_2
    rw [V.loopN_s, zq126.r4]
    simp only [ih]
    first | exact (zq126.u4 ..).symm | rfl
theorem zq126.v (x0 : List ByteArray) (x1 : (Unit) × (Unit)) : V.evBody zq126.E zq126.con Tryz.f312 ((x0, x1) : List ByteArray × (Unit) × (Unit)) = zq126.b x0 x1 (fun v4_1 v4_2 => V.loopN (V.loopF zq126.E Tryz.f312.ntmps [1, 0, 1, 0] [] (V.codeOf Tryz.f312) (zq126.kt x0 x1)) V.KK (zq126.s4 x0 v4_1 v4_2)) := by kernel_rfl
theorem zq126.eq (x0 : List ByteArray) (x1 : (Unit) × (Unit)) : V.evBody zq126.E zq126.con Tryz.f312 ((x0, x1) : List ByteArray × (Unit) × (Unit)) = zq126 x0 x1 := by
  rw [zq126.v]
  simp only [zq126.e4]
  rfl
theorem zq126.ok : V.Valid Tryz.prog 312 zq126.con :=
  V.fo (V.tab_cons zq26.ok V.tab_nil) Tryz.func312 (by kernel_rfl) (fun x y h => (show V.evBody zq126.E zq126.con Tryz.f312 x = _ from zq126.eq x.1 x.2).trans (V.cfl (by kernel_rfl) h))
noncomputable abbrev zq121.con : V.Con := ⟨(.cons (.sl (.cons .str .nil)) (.cons (.fn 296 false .nil .nil) .nil)), (.cons .bool .nil), fun (x : List ByteArray × (Unit) × (Unit)) => zq121 x.1 x.2, [], [(false, 1), (false, 1)], [(false, 1)], [false], []⟩
noncomputable abbrev zq121.E : V.Env := V.mkE V.tys [(312, zq126.con)] [] [] [] [] []
theorem zq121.eq (x0 : List ByteArray) (x1 : (Unit) × (Unit)) : V.evBody zq121.E zq121.con Tryz.f295 ((x0, x1) : List ByteArray × (Unit) × (Unit)) = zq121 x0 x1 := by kernel_rfl
theorem zq121.ok : V.Valid Tryz.prog 295 zq121.con :=
  V.fo (V.tab_cons zq126.ok V.tab_nil) Tryz.func295 (by kernel_rfl) (fun x y h => (show V.evBody zq121.E zq121.con Tryz.f295 x = _ from zq121.eq x.1 x.2).trans (V.cfl (by kernel_rfl) h))
noncomputable abbrev zq25.con : V.Con := ⟨(.cons (.sl (.cons .str .nil)) .nil), (.cons .bool .nil), fun (x : List ByteArray) => zq25 x, [], [(false, 1)], [(false, 1)], [false], []⟩
noncomputable abbrev zq25.E : V.Env := V.mkE V.tys [(151, zq17.con), (295, zq121.con)] [] [] [] [] []
theorem zq25.eq (x0 : List ByteArray) : V.evBody zq25.E zq25.con Tryz.f253 ((x0) : List ByteArray) = zq25 x0 := by kernel_rfl
theorem zq25.ok : V.Valid Tryz.prog 253 zq25.con :=
  V.fo (V.tab_cons zq17.ok (V.tab_cons zq121.ok V.tab_nil)) Tryz.func253 (by kernel_rfl) (fun x y h => (show V.evBody zq25.E zq25.con Tryz.f253 x = _ from zq25.eq x).trans (V.cfl (by kernel_rfl) h))
noncomputable abbrev zq19.con : V.Con := ⟨V.eEntry, (.cons .bool .nil), fun (x : ByteArray × Int × Int × List ByteArray) => zq19 x, [], [(true, 4)], [(false, 1)], [false], []⟩
noncomputable abbrev zq19.E : V.Env := V.mkE V.tys [(151, zq17.con), (217, zq55.con), (252, zq24.con), (253, zq25.con)] [] [] [] [] []
theorem zq19.eq (x0 : TEntry) : V.evBody zq19.E zq19.con Tryz.f192 ((x0.1, x0.2.1, x0.2.2.1, x0.2.2.2) : ByteArray × Int × Int × List ByteArray) = zq19 x0 := by kernel_rfl
theorem zq19.ok : V.Valid Tryz.prog 192 zq19.con :=
  V.fo (V.tab_cons zq17.ok (V.tab_cons zq55.ok (V.tab_cons zq24.ok (V.tab_cons zq25.ok V.tab_nil)))) Tryz.func192 (by kernel_rfl) (fun x y h => (show V.evBody zq19.E zq19.con Tryz.f192 x = _ from zq19.eq x).trans (V.cfl (by kernel_rfl) h))
noncomputable abbrev zq68.con : V.Con := ⟨(.cons (.int .i64) (.cons (.int .i64) .nil)), (.cons (.int .i64) .nil), fun (x : Int × Int) => zq68 x.1 x.2, [], [(false, 1), (false, 1)], [(false, 1)], [false], []⟩
noncomputable abbrev zq68.E : V.Env := V.mkE V.tys [(261, zq53.con)] [] [] [] [] []
theorem zq68.eq (x0 : Int) (x1 : Int) : V.evBody zq68.E zq68.con Tryz.f198 ((x0, x1) : Int × Int) = zq68 x0 x1 := by kernel_rfl
theorem zq68.ok : V.Valid Tryz.prog 198 zq68.con :=
  V.fo (V.tab_cons zq53.ok V.tab_nil) Tryz.func198 (by kernel_rfl) (fun x y h => (show V.evBody zq68.E zq68.con Tryz.f198 x = _ from zq68.eq x.1 x.2).trans (V.cfl (by kernel_rfl) h))
noncomputable abbrev zq3.con : V.Con := ⟨(.cons (.int .i64) (.cons (.int .i64) (.cons .str (.cons (.int .i64) (.cons (.int .i64) (.cons (.sl (.cons .str .nil)) (.cons (.int .i64) (.cons (.sl (.cons (.int .i64) .nil)) .nil)))))))), (.cons .bool .nil), fun (x : Int × Int × ByteArray × Int × Int × List ByteArray × Int × List Int) => zq3 x.1 x.2.1 (x.2.2.1, x.2.2.2.1, x.2.2.2.2.1, x.2.2.2.2.2.1) x.2.2.2.2.2.2, [], [(false, 1), (false, 1), (true, 4), (true, 2)], [(false, 1)], [false], []⟩
noncomputable abbrev zq3.E : V.Env := V.mkE V.tys [(192, zq19.con), (198, zq68.con), (263, zq33.con), (280, zq44.con)] [] [(1, 11)] [] [] []
theorem zq3.eq (x0 : Int) (x1 : Int) (x2 : TEntry) (x3 : TProof) : V.evBody zq3.E zq3.con Tryz.f234 ((x0, x1, x2.1, x2.2.1, x2.2.2.1, x2.2.2.2, x3.1, x3.2) : Int × Int × ByteArray × Int × Int × List ByteArray × Int × List Int) = zq3 x0 x1 x2 x3 := by kernel_rfl
theorem zq3.ok : V.Valid Tryz.prog 234 zq3.con :=
  V.fo (V.tab_cons zq19.ok (V.tab_cons zq68.ok (V.tab_cons zq33.ok (V.tab_cons zq44.ok V.tab_nil)))) Tryz.func234 (by kernel_rfl) (fun x y h => (show V.evBody zq3.E zq3.con Tryz.f234 x = _ from zq3.eq x.1 x.2.1 (x.2.2.1, x.2.2.2.1, x.2.2.2.2.1, x.2.2.2.2.2.1) x.2.2.2.2.2.2).trans (V.cfl (by kernel_rfl) h))
noncomputable abbrev zq123.con : V.Con := ⟨(.cons (.sl (.cons .str .nil)) (.cons (.sl (.cons .str .nil)) .nil)), (.cons .bool .nil), fun (x : List ByteArray × List ByteArray) => zq123 x.1 x.2, [], [(false, 1), (false, 1)], [(false, 1)], [false], []⟩
noncomputable abbrev zq123.E : V.Env := V.mkE V.tys [] [(8, [0, 1, 12, 13], [])] [(6, 8)] [] [] []
noncomputable abbrev zq123.kt (x0 : List ByteArray) (x1 : List ByteArray) : V.Kt Bool := V.ktOf zq123.E zq123.con Tryz.f306 ((x0, x1) : List ByteArray × List ByteArray)
noncomputable abbrev zq123.s8 (x0 : List ByteArray) (x1 : List ByteArray) (v8_2 : Int) (v8_3 : Int) : V.St := ⟨[(0, .v false [.val (.sl (.cons .str .nil) x0)]), (1, .v false [.val (.sl (.cons .str .nil) x1)]), (12, .v false [.val (.int .i64 v8_2)]), (13, .v false [.val (.int .i64 v8_3)])], []⟩
theorem zq123.r8 (x0 : List ByteArray) (x1 : List ByteArray) (R : V.St → Option Bool) (v8_2 : Int) (v8_3 : Int) : V.loopF zq123.E Tryz.f306.ntmps [1, 1, 0, 1, 0] [] (V.codeOf Tryz.f306) (zq123.kt x0 x1) R (zq123.s8 x0 x1 v8_2 v8_3) = zq123.g8 x0 x1 (fun v8_2 v8_3 => R (zq123.s8 x0 x1 v8_2 v8_3)) v8_2 v8_3 := by kernel_rfl
theorem zq123.e8 (x0 : List ByteArray) (x1 : List ByteArray) : ∀ (n : Nat) (v8_2 : Int) (v8_3 : Int), V.loopN (V.loopF zq123.E Tryz.f306.ntmps [1, 1, 0, 1, 0] [] (V.codeOf Tryz.f306) (zq123.kt x0 x1)) n (zq123.s8 x0 x1 v8_2 v8_3) = zq123.l8 x0 x1 n v8_2 v8_3 := by
  intro n
  induction n with
  | zero => intros; rw [V.loopN_z]; rfl
  | succ n ih =>
    intro v8_2 v8_3
    rw [V.loopN_s, zq123.r8]
    simp only [ih]
    first | exact (zq123.u8 ..).symm | rfl
theorem zq123.v (x0 : List ByteArray) (x1 : List ByteArray) : V.evBody zq123.E zq123.con Tryz.f306 ((x0, x1) : List ByteArray × List ByteArray) = zq123.b x0 x1 (fun v8_2 v8_3 => V.loopN (V.loopF zq123.E Tryz.f306.ntmps [1, 1, 0, 1, 0] [] (V.codeOf Tryz.f306) (zq123.kt x0 x1)) V.KK (zq123.s8 x0 x1 v8_2 v8_3)) := by kernel_rfl
theorem zq123.eq (x0 : List ByteArray) (x1 : List ByteArray) : V.evBody zq123.E zq123.con Tryz.f306 ((x0, x1) : List ByteArray × List ByteArray) = zq123 x0 x1 := by
  rw [zq123.v]
  simp only [zq123.e8]
  rfl
theorem zq123.ok : V.Valid Tryz.prog 306 zq123.con :=
  V.fo V.tab_nil Tryz.func306 (by kernel_rfl) (fun x y h => (show V.evBody zq123.E zq123.con Tryz.f306 x = _ from zq123.eq x.1 x.2).trans (V.cfl (by kernel_rfl) h))
noncomputable abbrev zq9.con : V.Con := ⟨(.cons .str (.cons (.int .i64) (.cons (.int .i64) (.cons (.sl (.cons .str .nil)) (.cons .str (.cons (.int .i64) (.cons (.int .i64) (.cons (.sl (.cons .str .nil)) .nil)))))))), (.cons .bool .nil), fun (x : ByteArray × Int × Int × List ByteArray × ByteArray × Int × Int × List ByteArray) => zq9 (x.1, x.2.1, x.2.2.1, x.2.2.2.1) x.2.2.2.2, [], [(true, 4), (true, 4)], [(false, 1)], [false], []⟩
noncomputable abbrev zq9.E : V.Env := V.mkE V.tys [(306, zq123.con)] [] [] [] [] []
theorem zq9.eq (x0 : TEntry) (x1 : TEntry) : V.evBody zq9.E zq9.con Tryz.f281 ((x0.1, x0.2.1, x0.2.2.1, x0.2.2.2, x1.1, x1.2.1, x1.2.2.1, x1.2.2.2) : ByteArray × Int × Int × List ByteArray × ByteArray × Int × Int × List ByteArray) = zq9 x0 x1 := by kernel_rfl
theorem zq9.ok : V.Valid Tryz.prog 281 zq9.con :=
  V.fo (V.tab_cons zq123.ok V.tab_nil) Tryz.func281 (by kernel_rfl) (fun x y h => (show V.evBody zq9.E zq9.con Tryz.f281 x = _ from zq9.eq (x.1, x.2.1, x.2.2.1, x.2.2.2.1) x.2.2.2.2).trans (V.cfl (by kernel_rfl) h))
noncomputable abbrev zq12.con : V.Con := ⟨(.cons (.int .i64) (.cons (.sl (.cons (.int .i64) .nil)) (.cons (.int .i64) (.cons (.sl (.cons (.int .i64) .nil)) .nil)))), (.cons .bool .nil), fun (x : Int × List Int × Int × List Int) => zq12 (x.1, x.2.1) x.2.2, [], [(true, 2), (true, 2)], [(false, 1)], [false], []⟩
noncomputable abbrev zq12.E : V.Env := V.mkE V.tys [(209, zq122.con)] [] [] [] [] []
theorem zq12.eq (x0 : TProof) (x1 : TProof) : V.evBody zq12.E zq12.con Tryz.f282 ((x0.1, x0.2, x1.1, x1.2) : Int × List Int × Int × List Int) = zq12 x0 x1 := by kernel_rfl
theorem zq12.ok : V.Valid Tryz.prog 282 zq12.con :=
  V.fo (V.tab_cons zq122.ok V.tab_nil) Tryz.func282 (by kernel_rfl) (fun x y h => (show V.evBody zq12.E zq12.con Tryz.f282 x = _ from zq12.eq (x.1, x.2.1) x.2.2).trans (V.cfl (by kernel_rfl) h))
noncomputable abbrev zq10.con : V.Con := ⟨V.A10, (.cons .bool .nil), fun (x : V.D10) => zq10 (V.p10_0 x) (V.p10_1 x), [], [(true, 13), (true, 13)], [(false, 1)], [false], []⟩
noncomputable abbrev zq10.E : V.Env := V.mkE V.tys [(281, zq9.con), (282, zq12.con)] [] [] [] [] []
noncomputable abbrev zq10.kt (x0 : TGap) (x1 : TGap) : V.Kt Bool := V.ktOf zq10.E zq10.con Tryz.f235 (V.fl10 x0 x1)
noncomputable abbrev zq10.s (x0 : TGap) (x1 : TGap) : V.St := ⟨[(0, .v true [.val (.int .i64 x0.1), .val (.str x0.2.1), .val (.int .i64 x0.2.2.1), .val (.int .i64 x0.2.2.2.1), .val (.sl (.cons .str .nil) x0.2.2.2.2.1), .val (.str x0.2.2.2.2.2.1), .val (.int .i64 x0.2.2.2.2.2.2.1), .val (.int .i64 x0.2.2.2.2.2.2.2.1), .val (.sl (.cons .str .nil) x0.2.2.2.2.2.2.2.2.1), .val (.int .i64 x0.2.2.2.2.2.2.2.2.2.1), .val (.sl (.cons (.int .i64) .nil) x0.2.2.2.2.2.2.2.2.2.2.1), .val (.int .i64 x0.2.2.2.2.2.2.2.2.2.2.2.1), .val (.sl (.cons (.int .i64) .nil) x0.2.2.2.2.2.2.2.2.2.2.2.2)]), (1, .v true [.val (.int .i64 x1.1), .val (.str x1.2.1), .val (.int .i64 x1.2.2.1), .val (.int .i64 x1.2.2.2.1), .val (.sl (.cons .str .nil) x1.2.2.2.2.1), .val (.str x1.2.2.2.2.2.1), .val (.int .i64 x1.2.2.2.2.2.2.1), .val (.int .i64 x1.2.2.2.2.2.2.2.1), .val (.sl (.cons .str .nil) x1.2.2.2.2.2.2.2.2.1), .val (.int .i64 x1.2.2.2.2.2.2.2.2.2.1), .val (.sl (.cons (.int .i64) .nil) x1.2.2.2.2.2.2.2.2.2.2.1), .val (.int .i64 x1.2.2.2.2.2.2.2.2.2.2.2.1), .val (.sl (.cons (.int .i64) .nil) x1.2.2.2.2.2.2.2.2.2.2.2.2)])], []⟩
theorem zq10.v0 (x0 : TGap) (x1 : TGap) : V.evBody zq10.E zq10.con Tryz.f235 (V.fl10 x0 x1) = V.evC zq10.E Tryz.f235.ntmps (V.codeOf Tryz.f235) (zq10.kt x0 x1) (zq10.s x0 x1) := by kernel_rfl
theorem zq10.v (x0 : TGap) (x1 : TGap) : V.evC zq10.E Tryz.f235.ntmps (V.codeOf Tryz.f235) (zq10.kt x0 x1) (zq10.s x0 x1) = zq10 x0 x1 := by kernel_rfl
theorem zq10.eq (x0 : TGap) (x1 : TGap) : V.evBody zq10.E zq10.con Tryz.f235 (V.fl10 x0 x1) = zq10 x0 x1 := (zq10.v0 x0 x1).trans (zq10.v x0 x1)
theorem zq10.ok : V.Valid Tryz.prog 235 zq10.con :=
  V.fo (V.tab_cons zq9.ok (V.tab_cons zq12.ok V.tab_nil)) Tryz.func235 (by kernel_rfl) (fun x y h => (show V.evBody zq10.E zq10.con Tryz.f235 x = _ from zq10.eq (V.p10_0 x) (V.p10_1 x)).trans (V.cfl (by kernel_rfl) h))
noncomputable abbrev zq34.con : V.Con := ⟨(.cons (.sl V.eEntry) .nil), (.cons (.sl (.cons (.int .i64) .nil)) .nil), fun (x : List TEntry) => zq34 x, [], [(false, 1)], [(false, 1)], [true], []⟩
noncomputable abbrev zq34.E : V.Env := V.mkE V.tys [(263, zq33.con)] [(6, [3, 7, 8, 9], [(64000038400192, (.cons (.int .i64) .nil), true)])] [] [] [] []
noncomputable abbrev zq34.kt (x0 : List TEntry) : V.Kt (List Int) := V.ktOf zq34.E zq34.con Tryz.f200 ((x0) : List TEntry)
noncomputable abbrev zq34.s6 (x0 : List TEntry) (v6_1 : Int) (v6_2 : Int) (v6_3 : List Int) : V.St := ⟨[(3, .v false [.ref 64000038400192]), (7, .v false [.val (.sl V.eEntry x0)]), (8, .v false [.val (.int .i64 v6_1)]), (9, .v false [.val (.int .i64 v6_2)])], [(64000038400192, .row (.cons (.int .i64) .nil) true v6_3)]⟩
theorem zq34.r6 (x0 : List TEntry) (R : V.St → Option (List Int)) (v6_1 : Int) (v6_2 : Int) (v6_3 : List Int) : V.loopF zq34.E Tryz.f200.ntmps [1, 1, 0, 1, 0] [] (V.codeOf Tryz.f200) (zq34.kt x0) R (zq34.s6 x0 v6_1 v6_2 v6_3) = zq34.g6 x0 (fun v6_1 v6_2 v6_3 => R (zq34.s6 x0 v6_1 v6_2 v6_3)) v6_1 v6_2 v6_3 := by kernel_rfl
theorem zq34.e6 (x0 : List TEntry) : ∀ (n : Nat) (v6_1 : Int) (v6_2 : Int) (v6_3 : List Int), V.loopN (V.loopF zq34.E Tryz.f200.ntmps [1, 1, 0, 1, 0] [] (V.codeOf Tryz.f200) (zq34.kt x0)) n (zq34.s6 x0 v6_1 v6_2 v6_3) = zq34.l6 x0 n v6_1 v6_2 v6_3 := by
  intro n
  induction n with
  | zero => intros; rw [V.loopN_z]; rfl
  | succ n ih =>
    intro v6_1 v6_2 v6_3
    rw [V.loopN_s, zq34.r6]
    simp only [ih]
    first | exact (zq34.u6 ..).symm | rfl
theorem zq34.v (x0 : List TEntry) : V.evBody zq34.E zq34.con Tryz.f200 ((x0) : List TEntry) = zq34.b x0 (fun v6_1 v6_2 v6_3 => V.loopN (V.loopF zq34.E Tryz.f200.ntmps [1, 1, 0, 1, 0] [] (V.codeOf Tryz.f200) (zq34.kt x0)) V.KK (zq34.s6 x0 v6_1 v6_2 v6_3)) := by kernel_rfl
theorem zq34.eq (x0 : List TEntry) : V.evBody zq34.E zq34.con Tryz.f200 ((x0) : List TEntry) = zq34 x0 := by
  rw [zq34.v]
  simp only [zq34.e6]
  rfl
theorem zq34.ok : V.Valid Tryz.prog 200 zq34.con :=
  V.fo (V.tab_cons zq33.ok V.tab_nil) Tryz.func200 (by kernel_rfl) (fun x y h => (show V.evBody zq34.E zq34.con Tryz.f200 x = _ from zq34.eq x).trans (V.cfl (by kernel_rfl) h))
noncomputable abbrev zq47.con : V.Con := ⟨(.cons (.sl (.cons (.int .i64) .nil)) .nil), (.cons (.sl (.cons (.int .i64) .nil)) .nil), fun (x : List Int) => zq47 x, [], [(false, 1)], [(false, 1)], [true], []⟩
noncomputable abbrev zq47.E : V.Env := V.mkE V.tys [(300, zq39.con)] [(6, [0, 3, 4], [(64000038400192, (.cons (.int .i64) .nil), true)])] [(6, 12)] [] [] []
noncomputable abbrev zq47.kt (x0 : List Int) : V.Kt (List Int) := V.ktOf zq47.E zq47.con Tryz.f262 ((x0) : List Int)
noncomputable abbrev zq47.s6 (x0 : List Int) (v6_1 : Int) (v6_2 : List Int) : V.St := ⟨[(0, .v false [.val (.sl (.cons (.int .i64) .nil) x0)]), (3, .v false [.ref 64000038400192]), (4, .v false [.val (.int .i64 v6_1)])], [(64000038400192, .row (.cons (.int .i64) .nil) true v6_2)]⟩
theorem zq47.r6 (x0 : List Int) (R : V.St → Option (List Int)) (v6_1 : Int) (v6_2 : List Int) : V.loopF zq47.E Tryz.f262.ntmps [1, 1, 0, 1, 0] [] (V.codeOf Tryz.f262) (zq47.kt x0) R (zq47.s6 x0 v6_1 v6_2) = zq47.g6 x0 (fun v6_1 v6_2 => R (zq47.s6 x0 v6_1 v6_2)) v6_1 v6_2 := by kernel_rfl
theorem zq47.e6 (x0 : List Int) : ∀ (n : Nat) (v6_1 : Int) (v6_2 : List Int), V.loopN (V.loopF zq47.E Tryz.f262.ntmps [1, 1, 0, 1, 0] [] (V.codeOf Tryz.f262) (zq47.kt x0)) n (zq47.s6 x0 v6_1 v6_2) = zq47.l6 x0 n v6_1 v6_2 := by
  intro n
  induction n with
  | zero => intros; rw [V.loopN_z]; rfl
  | succ n ih =>
    intro v6_1 v6_2
    rw [V.loopN_s, zq47.r6]
    simp only [ih]
    first | exact (zq47.u6 ..).symm | rfl
theorem zq47.v (x0 : List Int) : V.evBody zq47.E zq47.con Tryz.f262 ((x0) : List Int) = zq47.b x0 (fun v6_1 v6_2 => V.loopN (V.loopF zq47.E Tryz.f262.ntmps [1, 1, 0, 1, 0] [] (V.codeOf Tryz.f262) (zq47.kt x0)) V.KK (zq47.s6 x0 v6_1 v6_2)) := by kernel_rfl
theorem zq47.eq (x0 : List Int) : V.evBody zq47.E zq47.con Tryz.f262 ((x0) : List Int) = zq47 x0 := by
  rw [zq47.v]
  simp only [zq47.e6]
  rfl
theorem zq47.ok : V.Valid Tryz.prog 262 zq47.con :=
  V.fo (V.tab_cons zq39.ok V.tab_nil) Tryz.func262 (by kernel_rfl) (fun x y h => (show V.evBody zq47.E zq47.con Tryz.f262 x = _ from zq47.eq x).trans (V.cfl (by kernel_rfl) h))
noncomputable abbrev zq45.con : V.Con := ⟨(.cons (.sl (.cons (.int .i64) .nil)) .nil), (.cons (.int .i64) .nil), fun (x : List Int) => zq45 x, [], [(false, 1)], [(false, 1)], [false], []⟩
noncomputable abbrev zq45.E : V.Env := V.mkE V.tys [(261, zq53.con), (262, zq47.con)] [(6, [0], [(0, (.cons (.int .i64) .nil), false)])] [] [] [] []
noncomputable abbrev zq45.kt (x0 : List Int) : V.Kt Int := V.ktOf zq45.E zq45.con Tryz.f199 ((x0) : List Int)
noncomputable abbrev zq45.s6 (v6_0 : List Int) : V.St := ⟨[(0, .v false [.val (.sl (.cons (.int .i64) .nil) v6_0)])], []⟩
theorem zq45.r6 (x0 : List Int) (R : V.St → Option Int) (v6_0 : List Int) : V.loopF zq45.E Tryz.f199.ntmps [1, 1, 0, 0] [] (V.codeOf Tryz.f199) (zq45.kt x0) R (zq45.s6 v6_0) = zq45.g6 (fun v6_0 => R (zq45.s6 v6_0)) v6_0 := by kernel_rfl
theorem zq45.e6 (x0 : List Int) : ∀ (n : Nat) (v6_0 : List Int), V.loopN (V.loopF zq45.E Tryz.f199.ntmps [1, 1, 0, 0] [] (V.codeOf Tryz.f199) (zq45.kt x0)) n (zq45.s6 v6_0) = zq45.l6 n v6_0 := by
  intro n
  induction n with
  | zero => intros; rw [V.loopN_z]; rfl
  | succ n ih =>
    intro v6_0
    rw [V.loopN_s, zq45.r6]
    simp only [ih]
    first | exact (zq45.u6 ..).symm | rfl
theorem zq45.v (x0 : List Int) : V.evBody zq45.E zq45.con Tryz.f199 ((x0) : List Int) = zq45.b x0 (fun v6_0 => V.loopN (V.loopF zq45.E Tryz.f199.ntmps [1, 1, 0, 0] [] (V.codeOf Tryz.f199) (zq45.kt x0)) V.KK (zq45.s6 v6_0)) := by kernel_rfl
theorem zq45.eq (x0 : List Int) : V.evBody zq45.E zq45.con Tryz.f199 ((x0) : List Int) = zq45 x0 := by
  rw [zq45.v]
  simp only [zq45.e6]
  rfl
theorem zq45.ok : V.Valid Tryz.prog 199 zq45.con :=
  V.fo (V.tab_cons zq53.ok (V.tab_cons zq47.ok V.tab_nil)) Tryz.func199 (by kernel_rfl) (fun x y h => (show V.evBody zq45.E zq45.con Tryz.f199 x = _ from zq45.eq x).trans (V.cfl (by kernel_rfl) h))
noncomputable abbrev zq40.con : V.Con := ⟨(.cons (.sl V.eEntry) .nil), (.cons (.int .i64) .nil), fun (x : List TEntry) => zq40 x, [], [(false, 1)], [(false, 1)], [false], []⟩
noncomputable abbrev zq40.E : V.Env := V.mkE V.tys [(198, zq68.con), (199, zq45.con), (200, zq34.con)] [] [] [] [] []
theorem zq40.eq (x0 : List TEntry) : V.evBody zq40.E zq40.con Tryz.f94 ((x0) : List TEntry) = zq40 x0 := by kernel_rfl
theorem zq40.ok : V.Valid Tryz.prog 94 zq40.con :=
  V.fo (V.tab_cons zq68.ok (V.tab_cons zq45.ok (V.tab_cons zq34.ok V.tab_nil))) Tryz.func94 (by kernel_rfl) (fun x y h => (show V.evBody zq40.E zq40.con Tryz.f94 x = _ from zq40.eq x).trans (V.cfl (by kernel_rfl) h))
noncomputable abbrev zq62.con : V.Con := ⟨V.eEntry, (.cons .bool .nil), fun (x : ByteArray × Int × Int × List ByteArray) => zq62 x, [], [(true, 4)], [(false, 1)], [false], []⟩
noncomputable abbrev zq62.E : V.Env := V.mkE V.tys [(281, zq9.con)] [] [] [] [] []
theorem zq62.eq (x0 : TEntry) : V.evBody zq62.E zq62.con Tryz.f237 ((x0.1, x0.2.1, x0.2.2.1, x0.2.2.2) : ByteArray × Int × Int × List ByteArray) = zq62 x0 := by kernel_rfl
theorem zq62.ok : V.Valid Tryz.prog 237 zq62.con :=
  V.fo (V.tab_cons zq9.ok V.tab_nil) Tryz.func237 (by kernel_rfl) (fun x y h => (show V.evBody zq62.E zq62.con Tryz.f237 x = _ from zq62.eq x).trans (V.cfl (by kernel_rfl) h))
noncomputable abbrev zq63.con : V.Con := ⟨(.cons (.int .i64) (.cons (.sl (.cons (.int .i64) .nil)) .nil)), (.cons .bool .nil), fun (x : Int × List Int) => zq63 x, [], [(true, 2)], [(false, 1)], [false], []⟩
noncomputable abbrev zq63.E : V.Env := V.mkE V.tys [(282, zq12.con)] [] [] [] [] []
theorem zq63.eq (x0 : TProof) : V.evBody zq63.E zq63.con Tryz.f238 ((x0.1, x0.2) : Int × List Int) = zq63 x0 := by kernel_rfl
theorem zq63.ok : V.Valid Tryz.prog 238 zq63.con :=
  V.fo (V.tab_cons zq12.ok V.tab_nil) Tryz.func238 (by kernel_rfl) (fun x y h => (show V.evBody zq63.E zq63.con Tryz.f238 x = _ from zq63.eq x).trans (V.cfl (by kernel_rfl) h))
noncomputable abbrev zq66.con : V.Con := ⟨(.cons (.int .i64) (.cons (.int .i64) (.cons .str (.cons (.int .i64) (.cons (.int .i64) (.cons (.sl (.cons .str .nil)) (.cons (.int .i64) (.cons (.sl (.cons (.int .i64) .nil)) (.cons (.int .i64) .nil))))))))), (.cons .bool .nil), fun (x : Int × Int × ByteArray × Int × Int × List ByteArray × Int × List Int × Int) => zq66 x.1 x.2.1 (x.2.2.1, x.2.2.2.1, x.2.2.2.2.1, x.2.2.2.2.2.1) (x.2.2.2.2.2.2.1, x.2.2.2.2.2.2.2.1) x.2.2.2.2.2.2.2.2, [], [(false, 1), (false, 1), (true, 4), (true, 2), (false, 1)], [(false, 1)], [false], []⟩
noncomputable abbrev zq66.E : V.Env := V.mkE V.tys [(151, zq17.con), (234, zq3.con), (237, zq62.con), (238, zq63.con)] [] [] [] [] []
theorem zq66.eq (x0 : Int) (x1 : Int) (x2 : TEntry) (x3 : TProof) (x4 : Int) : V.evBody zq66.E zq66.con Tryz.f283 ((x0, x1, x2.1, x2.2.1, x2.2.2.1, x2.2.2.2, x3.1, x3.2, x4) : Int × Int × ByteArray × Int × Int × List ByteArray × Int × List Int × Int) = zq66 x0 x1 x2 x3 x4 := by kernel_rfl
theorem zq66.ok : V.Valid Tryz.prog 283 zq66.con :=
  V.fo (V.tab_cons zq17.ok (V.tab_cons zq3.ok (V.tab_cons zq62.ok (V.tab_cons zq63.ok V.tab_nil)))) Tryz.func283 (by kernel_rfl) (fun x y h => (show V.evBody zq66.E zq66.con Tryz.f283 x = _ from zq66.eq x.1 x.2.1 (x.2.2.1, x.2.2.2.1, x.2.2.2.2.1, x.2.2.2.2.2.1) (x.2.2.2.2.2.2.1, x.2.2.2.2.2.2.2.1) x.2.2.2.2.2.2.2.2).trans (V.cfl (by kernel_rfl) h))
noncomputable abbrev zq69.con : V.Con := ⟨.cons .str (.cons .str .nil), .cons (.int .i64) .nil, fun (x : ByteArray × ByteArray) => zq69 x.1 x.2, [], [(false, 1), (false, 1)], [(false, 1)], [false], []⟩
theorem zq69.ok : V.Valid Tryz.prog 297 zq69.con :=
  V.cmp_valid (ρ := ⟨fun n => bif Nat.beq n 213 then 297 else 313, fun t => bif Nat.beq t 3 then 3 else 9, fun x => x⟩) { mixed := V.mixed, f213 := by kernel_rfl, f265 := by kernel_rfl, t3 := by kernel_rfl, a3 := fun w => rfl, z3 := fun w => rfl, v3 := fun w => rfl, t9 := by kernel_rfl, a9 := fun w => rfl, z9 := fun w => rfl, v9 := fun w => rfl }
noncomputable abbrev zq184.con : V.Con := ⟨(.cons .str (.cons .str .nil)), (.cons (.int .i64) .nil), fun (x : ByteArray × ByteArray) => zq184 x.1 x.2, [], [(false, 1), (false, 1)], [(false, 1)], [false], []⟩
noncomputable abbrev zq184.E : V.Env := V.mkE V.tys [(297, zq69.con)] [] [] [] [] []
theorem zq184.eq (x0 : ByteArray) (x1 : ByteArray) : V.evBody zq184.E zq184.con Tryz.f254 ((x0, x1) : ByteArray × ByteArray) = zq184 x0 x1 := by kernel_rfl
theorem zq184.ok : V.Valid Tryz.prog 254 zq184.con :=
  V.fo (V.tab_cons zq69.ok V.tab_nil) Tryz.func254 (by kernel_rfl) (fun x y h => (show V.evBody zq184.E zq184.con Tryz.f254 x = _ from zq184.eq x.1 x.2).trans (V.cfl (by kernel_rfl) h))
noncomputable abbrev zq4.con : V.Con := ⟨(.cons .str (.cons .str .nil)), (.cons (.int .i64) .nil), fun (x : ByteArray × ByteArray) => zq4 x.1 x.2, [], [(false, 1), (false, 1)], [(false, 1)], [false], []⟩
noncomputable abbrev zq4.E : V.Env := V.mkE V.tys [(254, zq184.con)] [] [] [] [] []
theorem zq4.eq (x0 : ByteArray) (x1 : ByteArray) : V.evBody zq4.E zq4.con Tryz.f193 ((x0, x1) : ByteArray × ByteArray) = zq4 x0 x1 := by kernel_rfl
theorem zq4.ok : V.Valid Tryz.prog 193 zq4.con :=
  V.fo (V.tab_cons zq184.ok V.tab_nil) Tryz.func193 (by kernel_rfl) (fun x y h => (show V.evBody zq4.E zq4.con Tryz.f193 x = _ from zq4.eq x.1 x.2).trans (V.cfl (by kernel_rfl) h))
noncomputable abbrev zq1.con : V.Con := ⟨V.A11, (.cons .bool .nil), fun (x : V.D11) => zq1 (V.p11_0 x) (V.p11_1 x) (V.p11_2 x) (V.p11_3 x), [], [(false, 1), (false, 1), (false, 1), (true, 13)], [(false, 1)], [false], []⟩
noncomputable abbrev zq1.E : V.Env := V.mkE V.tys [(94, zq40.con), (151, zq17.con), (193, zq4.con), (252, zq24.con), (283, zq66.con)] [(7, [0, 1, 2, 7], []), (11, [1, 2, 7], [])] [] [] [] []
noncomputable abbrev zq1.kt (x0 : Int) (x1 : Int) (x2 : ByteArray) (x3 : TGap) : V.Kt Bool := V.ktOf zq1.E zq1.con Tryz.f236 (V.fl11 x0 x1 x2 x3)
noncomputable abbrev zq1.s11 (x1 : Int) (x2 : ByteArray) (x3 : TGap) : V.St := ⟨[(1, .v false [.val (.int .i64 x1)]), (2, .v false [.val (.str x2)]), (7, .v false [.ptr 64000 0])], [(64000, .box [.val (.int .i64 x3.1), .val (.str x3.2.1), .val (.int .i64 x3.2.2.1), .val (.int .i64 x3.2.2.2.1), .val (.sl (.cons .str .nil) x3.2.2.2.2.1), .val (.str x3.2.2.2.2.2.1), .val (.int .i64 x3.2.2.2.2.2.2.1), .val (.int .i64 x3.2.2.2.2.2.2.2.1), .val (.sl (.cons .str .nil) x3.2.2.2.2.2.2.2.2.1), .val (.int .i64 x3.2.2.2.2.2.2.2.2.2.1), .val (.sl (.cons (.int .i64) .nil) x3.2.2.2.2.2.2.2.2.2.2.1), .val (.int .i64 x3.2.2.2.2.2.2.2.2.2.2.2.1), .val (.sl (.cons (.int .i64) .nil) x3.2.2.2.2.2.2.2.2.2.2.2.2)])]⟩
noncomputable abbrev zq1.s7 (x0 : Int) (x1 : Int) (x2 : ByteArray) (x3 : TGap) : V.St := ⟨[(0, .v false [.val (.int .i64 x0)]), (1, .v false [.val (.int .i64 x1)]), (2, .v false [.val (.str x2)]), (7, .v false [.ptr 64000 0])], [(64000, .box [.val (.int .i64 x3.1), .val (.str x3.2.1), .val (.int .i64 x3.2.2.1), .val (.int .i64 x3.2.2.2.1), .val (.sl (.cons .str .nil) x3.2.2.2.2.1), .val (.str x3.2.2.2.2.2.1), .val (.int .i64 x3.2.2.2.2.2.2.1), .val (.int .i64 x3.2.2.2.2.2.2.2.1), .val (.sl (.cons .str .nil) x3.2.2.2.2.2.2.2.2.1), .val (.int .i64 x3.2.2.2.2.2.2.2.2.2.1), .val (.sl (.cons (.int .i64) .nil) x3.2.2.2.2.2.2.2.2.2.2.1), .val (.int .i64 x3.2.2.2.2.2.2.2.2.2.2.2.1), .val (.sl (.cons (.int .i64) .nil) x3.2.2.2.2.2.2.2.2.2.2.2.2)])]⟩
theorem zq1.r11 (x0 : Int) (x1 : Int) (x2 : ByteArray) (x3 : TGap) : V.joinF zq1.E Tryz.f236.ntmps [1, 1] [] (V.codeOf Tryz.f236) (zq1.kt x0 x1 x2 x3) (zq1.s11 x1 x2 x3) = zq1.g11 x1 x2 x3 := by kernel_rfl
theorem zq1.e11 (x0 : Int) (x1 : Int) (x2 : ByteArray) (x3 : TGap) : V.jn (V.joinF zq1.E Tryz.f236.ntmps [1, 1] [] (V.codeOf Tryz.f236) (zq1.kt x0 x1 x2 x3)) (zq1.s11 x1 x2 x3) = zq1.l11 x1 x2 x3 := by
  rw [V.jn_eq, zq1.r11]
  rfl
theorem zq1.r7 (x0 : Int) (x1 : Int) (x2 : ByteArray) (x3 : TGap) : V.joinF zq1.E Tryz.f236.ntmps [1] [] (V.codeOf Tryz.f236) (zq1.kt x0 x1 x2 x3) (zq1.s7 x0 x1 x2 x3) = zq1.g7 x0 x1 x2 x3 (V.jn (V.joinF zq1.E Tryz.f236.ntmps [1, 1] [] (V.codeOf Tryz.f236) (zq1.kt x0 x1 x2 x3)) (zq1.s11 x1 x2 x3)) := by kernel_rfl
theorem zq1.e7 (x0 : Int) (x1 : Int) (x2 : ByteArray) (x3 : TGap) : V.jn (V.joinF zq1.E Tryz.f236.ntmps [1] [] (V.codeOf Tryz.f236) (zq1.kt x0 x1 x2 x3)) (zq1.s7 x0 x1 x2 x3) = zq1.l7 x0 x1 x2 x3 := by
  rw [V.jn_eq, zq1.r7]
  simp only [zq1.e11]
  rfl
noncomputable abbrev zq1.s (x0 : Int) (x1 : Int) (x2 : ByteArray) (x3 : TGap) : V.St := ⟨[(0, .v false [.val (.int .i64 x0)]), (1, .v false [.val (.int .i64 x1)]), (2, .v false [.val (.str x2)]), (3, .v true [.val (.int .i64 x3.1), .val (.str x3.2.1), .val (.int .i64 x3.2.2.1), .val (.int .i64 x3.2.2.2.1), .val (.sl (.cons .str .nil) x3.2.2.2.2.1), .val (.str x3.2.2.2.2.2.1), .val (.int .i64 x3.2.2.2.2.2.2.1), .val (.int .i64 x3.2.2.2.2.2.2.2.1), .val (.sl (.cons .str .nil) x3.2.2.2.2.2.2.2.2.1), .val (.int .i64 x3.2.2.2.2.2.2.2.2.2.1), .val (.sl (.cons (.int .i64) .nil) x3.2.2.2.2.2.2.2.2.2.2.1), .val (.int .i64 x3.2.2.2.2.2.2.2.2.2.2.2.1), .val (.sl (.cons (.int .i64) .nil) x3.2.2.2.2.2.2.2.2.2.2.2.2)])], []⟩
theorem zq1.v0 (x0 : Int) (x1 : Int) (x2 : ByteArray) (x3 : TGap) : V.evBody zq1.E zq1.con Tryz.f236 (V.fl11 x0 x1 x2 x3) = V.evC zq1.E Tryz.f236.ntmps (V.codeOf Tryz.f236) (zq1.kt x0 x1 x2 x3) (zq1.s x0 x1 x2 x3) := by kernel_rfl
theorem zq1.v (x0 : Int) (x1 : Int) (x2 : ByteArray) (x3 : TGap) : V.evC zq1.E Tryz.f236.ntmps (V.codeOf Tryz.f236) (zq1.kt x0 x1 x2 x3) (zq1.s x0 x1 x2 x3) = zq1.b x0 x1 x2 x3 (V.jn (V.joinF zq1.E Tryz.f236.ntmps [1] [] (V.codeOf Tryz.f236) (zq1.kt x0 x1 x2 x3)) (zq1.s7 x0 x1 x2 x3)) := by kernel_rfl
theorem zq1.eq (x0 : Int) (x1 : Int) (x2 : ByteArray) (x3 : TGap) : V.evBody zq1.E zq1.con Tryz.f236 (V.fl11 x0 x1 x2 x3) = zq1 x0 x1 x2 x3 := by
  rw [zq1.v0, zq1.v]
  simp only [zq1.e7]
  rfl
theorem zq1.ok : V.Valid Tryz.prog 236 zq1.con :=
  V.fo (V.tab_cons zq40.ok (V.tab_cons zq17.ok (V.tab_cons zq4.ok (V.tab_cons zq24.ok (V.tab_cons zq66.ok V.tab_nil))))) Tryz.func236 (by kernel_rfl) (fun x y h => (show V.evBody zq1.E zq1.con Tryz.f236 x = _ from zq1.eq (V.p11_0 x) (V.p11_1 x) (V.p11_2 x) (V.p11_3 x)).trans (V.cfl (by kernel_rfl) h))
noncomputable abbrev zq59.con : V.Con := ⟨V.A12, (.cons .bool .nil), fun (x : V.D12) => zq59 (V.p12_0 x) (V.p12_1 x) (V.p12_2 x), [], [(true, 16), (false, 1), (true, 21)], [(false, 1)], [false], []⟩
noncomputable abbrev zq59.E : V.Env := V.mkE V.tys [(234, zq3.con), (235, zq10.con), (236, zq1.con), (237, zq62.con), (238, zq63.con)] [] [] [] [] []
noncomputable abbrev zq59.kt (x0 : THead) (x1 : ByteArray) (x2 : TAnswer) : V.Kt Bool := V.ktOf zq59.E zq59.con Tryz.f163 (V.fl12 x0 x1 x2)
noncomputable abbrev zq59.s (x0 : THead) (x1 : ByteArray) (x2 : TAnswer) : V.St := ⟨[(0, .v true [.val (.int .i64 x0.1), .val (.int .i64 x0.2.1), .val (.int .i64 x0.2.2.1), .val (.int .i64 x0.2.2.2.1), .val (.int .i64 x0.2.2.2.2.1), .val (.int .i64 x0.2.2.2.2.2.1), .val (.int .i64 x0.2.2.2.2.2.2.1), .val (.int .i64 x0.2.2.2.2.2.2.2.1), .val (.sl (.cons (.int .i64) .nil) x0.2.2.2.2.2.2.2.2.1), .val (.int .i64 x0.2.2.2.2.2.2.2.2.2.1), .val (.sl (.cons (.int .i64) .nil) x0.2.2.2.2.2.2.2.2.2.2.1), .val (.int .i64 x0.2.2.2.2.2.2.2.2.2.2.2.1), .val (.int .i64 x0.2.2.2.2.2.2.2.2.2.2.2.2.1), .val (.sl (.cons (.int .i64) .nil) x0.2.2.2.2.2.2.2.2.2.2.2.2.2.1), .val (.int .i64 x0.2.2.2.2.2.2.2.2.2.2.2.2.2.2.1), .val (.bool x0.2.2.2.2.2.2.2.2.2.2.2.2.2.2.2)]), (1, .v false [.val (.str x1)]), (2, .v true [.val (.sl V.eSigned x2.1), .val (.bool x2.2.1), .val (.str x2.2.2.1), .val (.int .i64 x2.2.2.2.1), .val (.int .i64 x2.2.2.2.2.1), .val (.sl (.cons .str .nil) x2.2.2.2.2.2.1), .val (.int .i64 x2.2.2.2.2.2.2.1), .val (.sl (.cons (.int .i64) .nil) x2.2.2.2.2.2.2.2.1), .val (.int .i64 x2.2.2.2.2.2.2.2.2.1), .val (.str x2.2.2.2.2.2.2.2.2.2.1), .val (.int .i64 x2.2.2.2.2.2.2.2.2.2.2.1), .val (.int .i64 x2.2.2.2.2.2.2.2.2.2.2.2.1), .val (.sl (.cons .str .nil) x2.2.2.2.2.2.2.2.2.2.2.2.2.1), .val (.str x2.2.2.2.2.2.2.2.2.2.2.2.2.2.1), .val (.int .i64 x2.2.2.2.2.2.2.2.2.2.2.2.2.2.2.1), .val (.int .i64 x2.2.2.2.2.2.2.2.2.2.2.2.2.2.2.2.1), .val (.sl (.cons .str .nil) x2.2.2.2.2.2.2.2.2.2.2.2.2.2.2.2.2.1), .val (.int .i64 x2.2.2.2.2.2.2.2.2.2.2.2.2.2.2.2.2.2.1), .val (.sl (.cons (.int .i64) .nil) x2.2.2.2.2.2.2.2.2.2.2.2.2.2.2.2.2.2.2.1), .val (.int .i64 x2.2.2.2.2.2.2.2.2.2.2.2.2.2.2.2.2.2.2.2.1), .val (.sl (.cons (.int .i64) .nil) x2.2.2.2.2.2.2.2.2.2.2.2.2.2.2.2.2.2.2.2.2)])], []⟩
theorem zq59.v0 (x0 : THead) (x1 : ByteArray) (x2 : TAnswer) : V.evBody zq59.E zq59.con Tryz.f163 (V.fl12 x0 x1 x2) = V.evC zq59.E Tryz.f163.ntmps (V.codeOf Tryz.f163) (zq59.kt x0 x1 x2) (zq59.s x0 x1 x2) := by kernel_rfl
theorem zq59.v (x0 : THead) (x1 : ByteArray) (x2 : TAnswer) : V.evC zq59.E Tryz.f163.ntmps (V.codeOf Tryz.f163) (zq59.kt x0 x1 x2) (zq59.s x0 x1 x2) = zq59 x0 x1 x2 := by kernel_rfl
theorem zq59.eq (x0 : THead) (x1 : ByteArray) (x2 : TAnswer) : V.evBody zq59.E zq59.con Tryz.f163 (V.fl12 x0 x1 x2) = zq59 x0 x1 x2 := (zq59.v0 x0 x1 x2).trans (zq59.v x0 x1 x2)
theorem zq59.ok : V.Valid Tryz.prog 163 zq59.con :=
  V.fo (V.tab_cons zq3.ok (V.tab_cons zq10.ok (V.tab_cons zq1.ok (V.tab_cons zq62.ok (V.tab_cons zq63.ok V.tab_nil))))) Tryz.func163 (by kernel_rfl) (fun x y h => (show V.evBody zq59.E zq59.con Tryz.f163 x = _ from zq59.eq (V.p12_0 x) (V.p12_1 x) (V.p12_2 x)).trans (V.cfl (by kernel_rfl) h))
noncomputable abbrev zq2.con : V.Con := ⟨V.A13, (.cons (.int .i64) .nil), fun (x : V.D13) => zq2 (V.p13_0 x) (V.p13_1 x) (V.p13_2 x) (V.p13_3 x), [], [(false, 1), (false, 1), (true, 21), (false, 1)], [(false, 1)], [false], []⟩
noncomputable abbrev zq2.E : V.Env := V.mkE V.tys [(161, zq32.con), (162, zq21.con), (163, zq59.con)] [] [] [] [] []
noncomputable abbrev zq2.kt (x0 : Int) (x1 : ByteArray) (x2 : TAnswer) (x3 : Int) : V.Kt Int := V.ktOf zq2.E zq2.con Tryz.f68 (V.fl13 x0 x1 x2 x3)
noncomputable abbrev zq2.s (x0 : Int) (x1 : ByteArray) (x2 : TAnswer) (x3 : Int) : V.St := ⟨[(0, .v false [.val (.int .i64 x0)]), (1, .v false [.val (.str x1)]), (2, .v true [.val (.sl V.eSigned x2.1), .val (.bool x2.2.1), .val (.str x2.2.2.1), .val (.int .i64 x2.2.2.2.1), .val (.int .i64 x2.2.2.2.2.1), .val (.sl (.cons .str .nil) x2.2.2.2.2.2.1), .val (.int .i64 x2.2.2.2.2.2.2.1), .val (.sl (.cons (.int .i64) .nil) x2.2.2.2.2.2.2.2.1), .val (.int .i64 x2.2.2.2.2.2.2.2.2.1), .val (.str x2.2.2.2.2.2.2.2.2.2.1), .val (.int .i64 x2.2.2.2.2.2.2.2.2.2.2.1), .val (.int .i64 x2.2.2.2.2.2.2.2.2.2.2.2.1), .val (.sl (.cons .str .nil) x2.2.2.2.2.2.2.2.2.2.2.2.2.1), .val (.str x2.2.2.2.2.2.2.2.2.2.2.2.2.2.1), .val (.int .i64 x2.2.2.2.2.2.2.2.2.2.2.2.2.2.2.1), .val (.int .i64 x2.2.2.2.2.2.2.2.2.2.2.2.2.2.2.2.1), .val (.sl (.cons .str .nil) x2.2.2.2.2.2.2.2.2.2.2.2.2.2.2.2.2.1), .val (.int .i64 x2.2.2.2.2.2.2.2.2.2.2.2.2.2.2.2.2.2.1), .val (.sl (.cons (.int .i64) .nil) x2.2.2.2.2.2.2.2.2.2.2.2.2.2.2.2.2.2.2.1), .val (.int .i64 x2.2.2.2.2.2.2.2.2.2.2.2.2.2.2.2.2.2.2.2.1), .val (.sl (.cons (.int .i64) .nil) x2.2.2.2.2.2.2.2.2.2.2.2.2.2.2.2.2.2.2.2.2)]), (3, .v false [.val (.int .i64 x3)])], []⟩
theorem zq2.v0 (x0 : Int) (x1 : ByteArray) (x2 : TAnswer) (x3 : Int) : V.evBody zq2.E zq2.con Tryz.f68 (V.fl13 x0 x1 x2 x3) = V.evC zq2.E Tryz.f68.ntmps (V.codeOf Tryz.f68) (zq2.kt x0 x1 x2 x3) (zq2.s x0 x1 x2 x3) := by kernel_rfl
theorem zq2.v (x0 : Int) (x1 : ByteArray) (x2 : TAnswer) (x3 : Int) : V.evC zq2.E Tryz.f68.ntmps (V.codeOf Tryz.f68) (zq2.kt x0 x1 x2 x3) (zq2.s x0 x1 x2 x3) = zq2 x0 x1 x2 x3 := by kernel_rfl
theorem zq2.eq (x0 : Int) (x1 : ByteArray) (x2 : TAnswer) (x3 : Int) : V.evBody zq2.E zq2.con Tryz.f68 (V.fl13 x0 x1 x2 x3) = zq2 x0 x1 x2 x3 := (zq2.v0 x0 x1 x2 x3).trans (zq2.v x0 x1 x2 x3)
theorem zq2.ok : V.Valid Tryz.prog 68 zq2.con :=
  V.fo (V.tab_cons zq32.ok (V.tab_cons zq21.ok (V.tab_cons zq59.ok V.tab_nil))) Tryz.func68 (by kernel_rfl) (fun x y h => (show V.evBody zq2.E zq2.con Tryz.f68 x = _ from zq2.eq (V.p13_0 x) (V.p13_1 x) (V.p13_2 x) (V.p13_3 x)).trans (V.cfl (by kernel_rfl) h))
noncomputable abbrev zq118.con : V.Con := ⟨(.cons (.sl (.cons .str .nil)) .nil), (.cons (.sl (.cons .str .nil)) .nil), fun (x : List ByteArray) => zq118 x, [], [(false, 1)], [(false, 1)], [true], []⟩
noncomputable abbrev zq118.E : V.Env := V.mkE V.tys [] [] [] [] [] []
theorem zq118.eq (x0 : List ByteArray) : V.evBody zq118.E zq118.con Tryz.f240 ((x0) : List ByteArray) = zq118 x0 := by kernel_rfl
theorem zq118.ok : V.Valid Tryz.prog 240 zq118.con :=
  V.fo V.tab_nil Tryz.func240 (by kernel_rfl) (fun x y h => (show V.evBody zq118.E zq118.con Tryz.f240 x = _ from zq118.eq x).trans (V.cfl (by kernel_rfl) h))
noncomputable abbrev zq50.con : V.Con := ⟨V.eEntry, V.eEntry, fun (x : ByteArray × Int × Int × List ByteArray) => zq50 x, [], [(true, 4)], [(true, 4)], [false, false, false, true], []⟩
noncomputable abbrev zq50.E : V.Env := V.mkE V.tys [(240, zq118.con)] [] [] [] [] []
theorem zq50.eq (x0 : TEntry) : V.evBody zq50.E zq50.con Tryz.f167 ((x0.1, x0.2.1, x0.2.2.1, x0.2.2.2) : ByteArray × Int × Int × List ByteArray) = zq50 x0 := by kernel_rfl
theorem zq50.ok : V.Valid Tryz.prog 167 zq50.con :=
  V.fo (V.tab_cons zq118.ok V.tab_nil) Tryz.func167 (by kernel_rfl) (fun x y h => (show V.evBody zq50.E zq50.con Tryz.f167 x = _ from zq50.eq x).trans (V.cfl (by kernel_rfl) h))
noncomputable abbrev zq7.con : V.Con := ⟨V.A13, V.eREntryBool, fun (x : V.D13) => zq7 (V.p13_0 x) (V.p13_1 x) (V.p13_2 x) (V.p13_3 x), [], [(false, 1), (false, 1), (true, 21), (false, 1)], [(true, 4), (false, 1)], [false, false, false, true, false], []⟩
noncomputable abbrev zq7.E : V.Env := V.mkE V.tys [(68, zq2.con), (167, zq50.con)] [(5, [6, 8, 20], [])] [] [] [] []
noncomputable abbrev zq7.kt (x0 : Int) (x1 : ByteArray) (x2 : TAnswer) (x3 : Int) : V.Kt TREntryBool := V.ktOf zq7.E zq7.con Tryz.f71 (V.fl13 x0 x1 x2 x3)
noncomputable abbrev zq7.s5 (x2 : TAnswer) (v5_0 : Bool) : V.St := ⟨[(6, .v false [.ptr 64000 0]), (8, .v false [.ptr 64064 0]), (20, .v false [.val (.bool v5_0)])], [(64000, .box [.val (.sl V.eSigned x2.1), .val (.bool x2.2.1), .val (.str x2.2.2.1), .val (.int .i64 x2.2.2.2.1), .val (.int .i64 x2.2.2.2.2.1), .val (.sl (.cons .str .nil) x2.2.2.2.2.2.1), .val (.int .i64 x2.2.2.2.2.2.2.1), .val (.sl (.cons (.int .i64) .nil) x2.2.2.2.2.2.2.2.1), .val (.int .i64 x2.2.2.2.2.2.2.2.2.1), .val (.str x2.2.2.2.2.2.2.2.2.2.1), .val (.int .i64 x2.2.2.2.2.2.2.2.2.2.2.1), .val (.int .i64 x2.2.2.2.2.2.2.2.2.2.2.2.1), .val (.sl (.cons .str .nil) x2.2.2.2.2.2.2.2.2.2.2.2.2.1), .val (.str x2.2.2.2.2.2.2.2.2.2.2.2.2.2.1), .val (.int .i64 x2.2.2.2.2.2.2.2.2.2.2.2.2.2.2.1), .val (.int .i64 x2.2.2.2.2.2.2.2.2.2.2.2.2.2.2.2.1), .val (.sl (.cons .str .nil) x2.2.2.2.2.2.2.2.2.2.2.2.2.2.2.2.2.1), .val (.int .i64 x2.2.2.2.2.2.2.2.2.2.2.2.2.2.2.2.2.2.1), .val (.sl (.cons (.int .i64) .nil) x2.2.2.2.2.2.2.2.2.2.2.2.2.2.2.2.2.2.2.1), .val (.int .i64 x2.2.2.2.2.2.2.2.2.2.2.2.2.2.2.2.2.2.2.2.1), .val (.sl (.cons (.int .i64) .nil) x2.2.2.2.2.2.2.2.2.2.2.2.2.2.2.2.2.2.2.2.2)]), (64064, .box [.val (.str (⟨#[]⟩ : ByteArray)), .val (.int .i64 (0 : Int)), .val (.int .i64 (0 : Int)), .nil0])]⟩
theorem zq7.r5 (x0 : Int) (x1 : ByteArray) (x2 : TAnswer) (x3 : Int) (v5_0 : Bool) : V.joinF zq7.E Tryz.f71.ntmps [1, 0] [] (V.codeOf Tryz.f71) (zq7.kt x0 x1 x2 x3) (zq7.s5 x2 v5_0) = zq7.g5 x2 v5_0 := by kernel_rfl
theorem zq7.e5 (x0 : Int) (x1 : ByteArray) (x2 : TAnswer) (x3 : Int) (v5_0 : Bool) : V.jn (V.joinF zq7.E Tryz.f71.ntmps [1, 0] [] (V.codeOf Tryz.f71) (zq7.kt x0 x1 x2 x3)) (zq7.s5 x2 v5_0) = zq7.l5 x2 v5_0 := by
  rw [V.jn_eq, zq7.r5]
  rfl
noncomputable abbrev zq7.s (x0 : Int) (x1 : ByteArray) (x2 : TAnswer) (x3 : Int) : V.St := ⟨[(0, .v false [.val (.int .i64 x0)]), (1, .v false [.val (.str x1)]), (2, .v true [.val (.sl V.eSigned x2.1), .val (.bool x2.2.1), .val (.str x2.2.2.1), .val (.int .i64 x2.2.2.2.1), .val (.int .i64 x2.2.2.2.2.1), .val (.sl (.cons .str .nil) x2.2.2.2.2.2.1), .val (.int .i64 x2.2.2.2.2.2.2.1), .val (.sl (.cons (.int .i64) .nil) x2.2.2.2.2.2.2.2.1), .val (.int .i64 x2.2.2.2.2.2.2.2.2.1), .val (.str x2.2.2.2.2.2.2.2.2.2.1), .val (.int .i64 x2.2.2.2.2.2.2.2.2.2.2.1), .val (.int .i64 x2.2.2.2.2.2.2.2.2.2.2.2.1), .val (.sl (.cons .str .nil) x2.2.2.2.2.2.2.2.2.2.2.2.2.1), .val (.str x2.2.2.2.2.2.2.2.2.2.2.2.2.2.1), .val (.int .i64 x2.2.2.2.2.2.2.2.2.2.2.2.2.2.2.1), .val (.int .i64 x2.2.2.2.2.2.2.2.2.2.2.2.2.2.2.2.1), .val (.sl (.cons .str .nil) x2.2.2.2.2.2.2.2.2.2.2.2.2.2.2.2.2.1), .val (.int .i64 x2.2.2.2.2.2.2.2.2.2.2.2.2.2.2.2.2.2.1), .val (.sl (.cons (.int .i64) .nil) x2.2.2.2.2.2.2.2.2.2.2.2.2.2.2.2.2.2.2.1), .val (.int .i64 x2.2.2.2.2.2.2.2.2.2.2.2.2.2.2.2.2.2.2.2.1), .val (.sl (.cons (.int .i64) .nil) x2.2.2.2.2.2.2.2.2.2.2.2.2.2.2.2.2.2.2.2.2)]), (3, .v false [.val (.int .i64 x3)])], []⟩
theorem zq7.v0 (x0 : Int) (x1 : ByteArray) (x2 : TAnswer) (x3 : Int) : V.evBody zq7.E zq7.con Tryz.f71 (V.fl13 x0 x1 x2 x3) = V.evC zq7.E Tryz.f71.ntmps (V.codeOf Tryz.f71) (zq7.kt x0 x1 x2 x3) (zq7.s x0 x1 x2 x3) := by kernel_rfl
theorem zq7.v (x0 : Int) (x1 : ByteArray) (x2 : TAnswer) (x3 : Int) : V.evC zq7.E Tryz.f71.ntmps (V.codeOf Tryz.f71) (zq7.kt x0 x1 x2 x3) (zq7.s x0 x1 x2 x3) = zq7.b x0 x1 x2 x3 (fun v5_0 => V.jn (V.joinF zq7.E Tryz.f71.ntmps [1, 0] [] (V.codeOf Tryz.f71) (zq7.kt x0 x1 x2 x3)) (zq7.s5 x2 v5_0)) := by kernel_rfl
theorem zq7.eq (x0 : Int) (x1 : ByteArray) (x2 : TAnswer) (x3 : Int) : V.evBody zq7.E zq7.con Tryz.f71 (V.fl13 x0 x1 x2 x3) = zq7 x0 x1 x2 x3 := by
  rw [zq7.v0, zq7.v]
  simp only [zq7.e5]
  rfl
theorem zq7.ok : V.Valid Tryz.prog 71 zq7.con :=
  V.fo (V.tab_cons zq2.ok (V.tab_cons zq50.ok V.tab_nil)) Tryz.func71 (by kernel_rfl) (fun x y h => (show V.evBody zq7.E zq7.con Tryz.f71 x = _ from zq7.eq (V.p13_0 x) (V.p13_1 x) (V.p13_2 x) (V.p13_3 x)).trans (V.cfl (by kernel_rfl) h))
noncomputable abbrev zq82.con : V.Con := ⟨(.cons (.sl (.cons .str .nil)) (.cons (.sl (.cons .str .nil)) .nil)), (.cons .bool .nil), fun (x : List ByteArray × List ByteArray) => zq82 x.1 x.2, [], [(false, 1), (false, 1)], [(false, 1)], [false], []⟩
noncomputable abbrev zq82.E : V.Env := V.mkE V.tys [] [(8, [0, 1, 5], [])] [(6, 8)] [] [] []
noncomputable abbrev zq82.kt (x0 : List ByteArray) (x1 : List ByteArray) : V.Kt Bool := V.ktOf zq82.E zq82.con Tryz.f168 ((x0, x1) : List ByteArray × List ByteArray)
noncomputable abbrev zq82.s8 (x0 : List ByteArray) (x1 : List ByteArray) (v8_2 : Int) : V.St := ⟨[(0, .v false [.val (.sl (.cons .str .nil) x0)]), (1, .v false [.val (.sl (.cons .str .nil) x1)]), (5, .v false [.val (.int .i64 v8_2)])], []⟩
theorem zq82.r8 (x0 : List ByteArray) (x1 : List ByteArray) (R : V.St → Option Bool) (v8_2 : Int) : V.loopF zq82.E Tryz.f168.ntmps [1, 1, 0, 1, 0] [] (V.codeOf Tryz.f168) (zq82.kt x0 x1) R (zq82.s8 x0 x1 v8_2) = zq82.g8 x0 x1 (fun v8_2 => R (zq82.s8 x0 x1 v8_2)) v8_2 := by kernel_rfl
theorem zq82.e8 (x0 : List ByteArray) (x1 : List ByteArray) : ∀ (n : Nat) (v8_2 : Int), V.loopN (V.loopF zq82.E Tryz.f168.ntmps [1, 1, 0, 1, 0] [] (V.codeOf Tryz.f168) (zq82.kt x0 x1)) n (zq82.s8 x0 x1 v8_2) = zq82.l8 x0 x1 n v8_2 := by
  intro n
  induction n with
  | zero => intros; rw [V.loopN_z]; rfl
  | succ n ih =>
    intro v8_2
    rw [V.loopN_s, zq82.r8]
    simp only [ih]
    first | exact (zq82.u8 ..).symm | rfl
theorem zq82.v (x0 : List ByteArray) (x1 : List ByteArray) : V.evBody zq82.E zq82.con Tryz.f168 ((x0, x1) : List ByteArray × List ByteArray) = zq82.b x0 x1 (fun v8_2 => V.loopN (V.loopF zq82.E Tryz.f168.ntmps [1, 1, 0, 1, 0] [] (V.codeOf Tryz.f168) (zq82.kt x0 x1)) V.KK (zq82.s8 x0 x1 v8_2)) := by kernel_rfl
theorem zq82.eq (x0 : List ByteArray) (x1 : List ByteArray) : V.evBody zq82.E zq82.con Tryz.f168 ((x0, x1) : List ByteArray × List ByteArray) = zq82 x0 x1 := by
  rw [zq82.v]
  simp only [zq82.e8]
  rfl
theorem zq82.ok : V.Valid Tryz.prog 168 zq82.con :=
  V.fo V.tab_nil Tryz.func168 (by kernel_rfl) (fun x y h => (show V.evBody zq82.E zq82.con Tryz.f168 x = _ from zq82.eq x.1 x.2).trans (V.cfl (by kernel_rfl) h))
noncomputable abbrev zq72.con : V.Con := ⟨(.cons .str (.cons (.int .i64) (.cons (.int .i64) (.cons (.sl (.cons .str .nil)) (.cons .str (.cons (.int .i64) (.cons (.int .i64) (.cons (.sl (.cons .str .nil)) .nil)))))))), (.cons .bool .nil), fun (x : ByteArray × Int × Int × List ByteArray × ByteArray × Int × Int × List ByteArray) => zq72 (x.1, x.2.1, x.2.2.1, x.2.2.2.1) x.2.2.2.2, [], [(true, 4), (true, 4)], [(false, 1)], [false], []⟩
noncomputable abbrev zq72.E : V.Env := V.mkE V.tys [(168, zq82.con)] [] [] [] [] []
theorem zq72.eq (x0 : TEntry) (x1 : TEntry) : V.evBody zq72.E zq72.con Tryz.f72 ((x0.1, x0.2.1, x0.2.2.1, x0.2.2.2, x1.1, x1.2.1, x1.2.2.1, x1.2.2.2) : ByteArray × Int × Int × List ByteArray × ByteArray × Int × Int × List ByteArray) = zq72 x0 x1 := by kernel_rfl
theorem zq72.ok : V.Valid Tryz.prog 72 zq72.con :=
  V.fo (V.tab_cons zq82.ok V.tab_nil) Tryz.func72 (by kernel_rfl) (fun x y h => (show V.evBody zq72.E zq72.con Tryz.f72 x = _ from zq72.eq (x.1, x.2.1, x.2.2.1, x.2.2.2.1) x.2.2.2.2).trans (V.cfl (by kernel_rfl) h))
noncomputable abbrev zq75.con : V.Con := ⟨(.cons (.sl (.cons (.int .i64) .nil)) (.cons (.sl (.cons (.int .i64) .nil)) .nil)), (.cons .bool .nil), fun (x : List Int × List Int) => zq75 x.1 x.2, [], [(false, 1), (false, 1)], [(false, 1)], [false], []⟩
noncomputable abbrev zq75.E : V.Env := V.mkE V.tys [] [(8, [0, 1, 5], [])] [(6, 8)] [] [] []
noncomputable abbrev zq75.kt (x0 : List Int) (x1 : List Int) : V.Kt Bool := V.ktOf zq75.E zq75.con Tryz.f79 ((x0, x1) : List Int × List Int)
noncomputable abbrev zq75.s8 (x0 : List Int) (x1 : List Int) (v8_2 : Int) : V.St := ⟨[(0, .v false [.val (.sl (.cons (.int .i64) .nil) x0)]), (1, .v false [.val (.sl (.cons (.int .i64) .nil) x1)]), (5, .v false [.val (.int .i64 v8_2)])], []⟩
theorem zq75.r8 (x0 : List Int) (x1 : List Int) (R : V.St → Option Bool) (v8_2 : Int) : V.loopF zq75.E Tryz.f79.ntmps [1, 1, 0, 1, 0] [] (V.codeOf Tryz.f79) (zq75.kt x0 x1) R (zq75.s8 x0 x1 v8_2) = zq75.g8 x0 x1 (fun v8_2 => R (zq75.s8 x0 x1 v8_2)) v8_2 := by kernel_rfl
theorem zq75.e8 (x0 : List Int) (x1 : List Int) : ∀ (n : Nat) (v8_2 : Int), V.loopN (V.loopF zq75.E Tryz.f79.ntmps [1, 1, 0, 1, 0] [] (V.codeOf Tryz.f79) (zq75.kt x0 x1)) n (zq75.s8 x0 x1 v8_2) = zq75.l8 x0 x1 n v8_2 := by
  intro n
  induction n with
  | zero => intros; rw [V.loopN_z]; rfl
  | succ n ih =>
    intro v8_2
    rw [V.loopN_s, zq75.r8]
    simp only [ih]
    first | exact (zq75.u8 ..).symm | rfl
theorem zq75.v (x0 : List Int) (x1 : List Int) : V.evBody zq75.E zq75.con Tryz.f79 ((x0, x1) : List Int × List Int) = zq75.b x0 x1 (fun v8_2 => V.loopN (V.loopF zq75.E Tryz.f79.ntmps [1, 1, 0, 1, 0] [] (V.codeOf Tryz.f79) (zq75.kt x0 x1)) V.KK (zq75.s8 x0 x1 v8_2)) := by kernel_rfl
theorem zq75.eq (x0 : List Int) (x1 : List Int) : V.evBody zq75.E zq75.con Tryz.f79 ((x0, x1) : List Int × List Int) = zq75 x0 x1 := by
  rw [zq75.v]
  simp only [zq75.e8]
  rfl
theorem zq75.ok : V.Valid Tryz.prog 79 zq75.con :=
  V.fo V.tab_nil Tryz.func79 (by kernel_rfl) (fun x y h => (show V.evBody zq75.E zq75.con Tryz.f79 x = _ from zq75.eq x.1 x.2).trans (V.cfl (by kernel_rfl) h))
noncomputable abbrev zq76.con : V.Con := ⟨(.cons (.sl (.cons (.int .i64) .nil)) (.cons (.int .i64) (.cons (.sl (.cons (.int .i64) .nil)) (.cons (.int .i64) .nil)))), (.cons .bool .nil), fun (x : List Int × Int × List Int × Int) => zq76 (x.1, x.2.1) x.2.2, [], [(true, 2), (true, 2)], [(false, 1)], [false], []⟩
noncomputable abbrev zq76.E : V.Env := V.mkE V.tys [(79, zq75.con)] [] [] [] [] []
theorem zq76.eq (x0 : TKeys) (x1 : TKeys) : V.evBody zq76.E zq76.con Tryz.f54 ((x0.1, x0.2, x1.1, x1.2) : List Int × Int × List Int × Int) = zq76 x0 x1 := by kernel_rfl
theorem zq76.ok : V.Valid Tryz.prog 54 zq76.con :=
  V.fo (V.tab_cons zq75.ok V.tab_nil) Tryz.func54 (by kernel_rfl) (fun x y h => (show V.evBody zq76.E zq76.con Tryz.f54 x = _ from zq76.eq (x.1, x.2.1) x.2.2).trans (V.cfl (by kernel_rfl) h))
noncomputable abbrev zq74.con : V.Con := ⟨V.A8, (.cons .bool .nil), fun (x : V.D8) => zq74 (V.p8_0 x) (V.p8_1 x), [], [(true, 16), (true, 16)], [(false, 1)], [false], []⟩
noncomputable abbrev zq74.E : V.Env := V.mkE V.tys [(54, zq76.con)] [] [] [] [] []
noncomputable abbrev zq74.kt (x0 : THead) (x1 : THead) : V.Kt Bool := V.ktOf zq74.E zq74.con Tryz.f21 (V.fl8 x0 x1)
noncomputable abbrev zq74.s (x0 : THead) (x1 : THead) : V.St := ⟨[(0, .v true [.val (.int .i64 x0.1), .val (.int .i64 x0.2.1), .val (.int .i64 x0.2.2.1), .val (.int .i64 x0.2.2.2.1), .val (.int .i64 x0.2.2.2.2.1), .val (.int .i64 x0.2.2.2.2.2.1), .val (.int .i64 x0.2.2.2.2.2.2.1), .val (.int .i64 x0.2.2.2.2.2.2.2.1), .val (.sl (.cons (.int .i64) .nil) x0.2.2.2.2.2.2.2.2.1), .val (.int .i64 x0.2.2.2.2.2.2.2.2.2.1), .val (.sl (.cons (.int .i64) .nil) x0.2.2.2.2.2.2.2.2.2.2.1), .val (.int .i64 x0.2.2.2.2.2.2.2.2.2.2.2.1), .val (.int .i64 x0.2.2.2.2.2.2.2.2.2.2.2.2.1), .val (.sl (.cons (.int .i64) .nil) x0.2.2.2.2.2.2.2.2.2.2.2.2.2.1), .val (.int .i64 x0.2.2.2.2.2.2.2.2.2.2.2.2.2.2.1), .val (.bool x0.2.2.2.2.2.2.2.2.2.2.2.2.2.2.2)]), (1, .v true [.val (.int .i64 x1.1), .val (.int .i64 x1.2.1), .val (.int .i64 x1.2.2.1), .val (.int .i64 x1.2.2.2.1), .val (.int .i64 x1.2.2.2.2.1), .val (.int .i64 x1.2.2.2.2.2.1), .val (.int .i64 x1.2.2.2.2.2.2.1), .val (.int .i64 x1.2.2.2.2.2.2.2.1), .val (.sl (.cons (.int .i64) .nil) x1.2.2.2.2.2.2.2.2.1), .val (.int .i64 x1.2.2.2.2.2.2.2.2.2.1), .val (.sl (.cons (.int .i64) .nil) x1.2.2.2.2.2.2.2.2.2.2.1), .val (.int .i64 x1.2.2.2.2.2.2.2.2.2.2.2.1), .val (.int .i64 x1.2.2.2.2.2.2.2.2.2.2.2.2.1), .val (.sl (.cons (.int .i64) .nil) x1.2.2.2.2.2.2.2.2.2.2.2.2.2.1), .val (.int .i64 x1.2.2.2.2.2.2.2.2.2.2.2.2.2.2.1), .val (.bool x1.2.2.2.2.2.2.2.2.2.2.2.2.2.2.2)])], []⟩
theorem zq74.v0 (x0 : THead) (x1 : THead) : V.evBody zq74.E zq74.con Tryz.f21 (V.fl8 x0 x1) = V.evC zq74.E Tryz.f21.ntmps (V.codeOf Tryz.f21) (zq74.kt x0 x1) (zq74.s x0 x1) := by kernel_rfl
theorem zq74.v (x0 : THead) (x1 : THead) : V.evC zq74.E Tryz.f21.ntmps (V.codeOf Tryz.f21) (zq74.kt x0 x1) (zq74.s x0 x1) = zq74 x0 x1 := by kernel_rfl
theorem zq74.eq (x0 : THead) (x1 : THead) : V.evBody zq74.E zq74.con Tryz.f21 (V.fl8 x0 x1) = zq74 x0 x1 := (zq74.v0 x0 x1).trans (zq74.v x0 x1)
theorem zq74.ok : V.Valid Tryz.prog 21 zq74.con :=
  V.fo (V.tab_cons zq76.ok V.tab_nil) Tryz.func21 (by kernel_rfl) (fun x y h => (show V.evBody zq74.E zq74.con Tryz.f21 x = _ from zq74.eq (V.p8_0 x) (V.p8_1 x)).trans (V.cfl (by kernel_rfl) h))
noncomputable abbrev zq78.con : V.Con := ⟨(.cons (.int .i64) (.cons (.int .i64) (.cons (.int .i64) (.cons (.int .i64) .nil)))), (.cons .bool .nil), fun (x : Int × Int × Int × Int) => zq78 (x.1, x.2.1) x.2.2, [], [(true, 2), (true, 2)], [(false, 1)], [false], []⟩
noncomputable abbrev zq78.E : V.Env := V.mkE V.tys [] [] [] [] [] []
theorem zq78.eq (x0 : TSig) (x1 : TSig) : V.evBody zq78.E zq78.con Tryz.f40 ((x0.1, x0.2, x1.1, x1.2) : Int × Int × Int × Int) = zq78 x0 x1 := by kernel_rfl
theorem zq78.ok : V.Valid Tryz.prog 40 zq78.con :=
  V.fo V.tab_nil Tryz.func40 (by kernel_rfl) (fun x y h => (show V.evBody zq78.E zq78.con Tryz.f40 x = _ from zq78.eq (x.1, x.2.1) x.2.2).trans (V.cfl (by kernel_rfl) h))
noncomputable abbrev zq79.con : V.Con := ⟨(.cons (.sl (.cons (.int .i64) (.cons (.int .i64) .nil))) (.cons (.sl (.cons (.int .i64) (.cons (.int .i64) .nil))) .nil)), (.cons .bool .nil), fun (x : List TSig × List TSig) => zq79 x.1 x.2, [], [(false, 1), (false, 1)], [(false, 1)], [false], []⟩
noncomputable abbrev zq79.E : V.Env := V.mkE V.tys [(40, zq78.con)] [(8, [0, 1, 5], [])] [(6, 8)] [] [] []
noncomputable abbrev zq79.kt (x0 : List TSig) (x1 : List TSig) : V.Kt Bool := V.ktOf zq79.E zq79.con Tryz.f212 ((x0, x1) : List TSig × List TSig)
noncomputable abbrev zq79.s8 (x0 : List TSig) (x1 : List TSig) (v8_2 : Int) : V.St := ⟨[(0, .v false [.val (.sl (.cons (.int .i64) (.cons (.int .i64) .nil)) x0)]), (1, .v false [.val (.sl (.cons (.int .i64) (.cons (.int .i64) .nil)) x1)]), (5, .v false [.val (.int .i64 v8_2)])], []⟩
theorem zq79.r8 (x0 : List TSig) (x1 : List TSig) (R : V.St → Option Bool) (v8_2 : Int) : V.loopF zq79.E Tryz.f212.ntmps [1, 1, 0, 1, 0] [] (V.codeOf Tryz.f212) (zq79.kt x0 x1) R (zq79.s8 x0 x1 v8_2) = zq79.g8 x0 x1 (fun v8_2 => R (zq79.s8 x0 x1 v8_2)) v8_2 := by kernel_rfl
theorem zq79.e8 (x0 : List TSig) (x1 : List TSig) : ∀ (n : Nat) (v8_2 : Int), V.loopN (V.loopF zq79.E Tryz.f212.ntmps [1, 1, 0, 1, 0] [] (V.codeOf Tryz.f212) (zq79.kt x0 x1)) n (zq79.s8 x0 x1 v8_2) = zq79.l8 x0 x1 n v8_2 := by
  intro n
  induction n with
  | zero => intros; rw [V.loopN_z]; rfl
  | succ n ih =>
    intro v8_2
    rw [V.loopN_s, zq79.r8]
    simp only [ih]
    first | exact (zq79.u8 ..).symm | rfl
theorem zq79.v (x0 : List TSig) (x1 : List TSig) : V.evBody zq79.E zq79.con Tryz.f212 ((x0, x1) : List TSig × List TSig) = zq79.b x0 x1 (fun v8_2 => V.loopN (V.loopF zq79.E Tryz.f212.ntmps [1, 1, 0, 1, 0] [] (V.codeOf Tryz.f212) (zq79.kt x0 x1)) V.KK (zq79.s8 x0 x1 v8_2)) := by kernel_rfl
theorem zq79.eq (x0 : List TSig) (x1 : List TSig) : V.evBody zq79.E zq79.con Tryz.f212 ((x0, x1) : List TSig × List TSig) = zq79 x0 x1 := by
  rw [zq79.v]
  simp only [zq79.e8]
  rfl
theorem zq79.ok : V.Valid Tryz.prog 212 zq79.con :=
  V.fo (V.tab_cons zq78.ok V.tab_nil) Tryz.func212 (by kernel_rfl) (fun x y h => (show V.evBody zq79.E zq79.con Tryz.f212 x = _ from zq79.eq x.1 x.2).trans (V.cfl (by kernel_rfl) h))
noncomputable abbrev zq80.con : V.Con := ⟨V.A15, (.cons .bool .nil), fun (x : V.D15) => zq80 (V.p15_0 x) (V.p15_1 x), [], [(true, 17), (true, 17)], [(false, 1)], [false], []⟩
noncomputable abbrev zq80.E : V.Env := V.mkE V.tys [(21, zq74.con), (212, zq79.con)] [] [] [] [] []
noncomputable abbrev zq80.kt (x0 : TSigned) (x1 : TSigned) : V.Kt Bool := V.ktOf zq80.E zq80.con Tryz.f108 (V.fl15 x0 x1)
noncomputable abbrev zq80.s (x0 : TSigned) (x1 : TSigned) : V.St := ⟨[(0, .v true [.val (.int .i64 x0.1), .val (.int .i64 x0.2.1), .val (.int .i64 x0.2.2.1), .val (.int .i64 x0.2.2.2.1), .val (.int .i64 x0.2.2.2.2.1), .val (.int .i64 x0.2.2.2.2.2.1), .val (.int .i64 x0.2.2.2.2.2.2.1), .val (.int .i64 x0.2.2.2.2.2.2.2.1), .val (.sl (.cons (.int .i64) .nil) x0.2.2.2.2.2.2.2.2.1), .val (.int .i64 x0.2.2.2.2.2.2.2.2.2.1), .val (.sl (.cons (.int .i64) .nil) x0.2.2.2.2.2.2.2.2.2.2.1), .val (.int .i64 x0.2.2.2.2.2.2.2.2.2.2.2.1), .val (.int .i64 x0.2.2.2.2.2.2.2.2.2.2.2.2.1), .val (.sl (.cons (.int .i64) .nil) x0.2.2.2.2.2.2.2.2.2.2.2.2.2.1), .val (.int .i64 x0.2.2.2.2.2.2.2.2.2.2.2.2.2.2.1), .val (.bool x0.2.2.2.2.2.2.2.2.2.2.2.2.2.2.2.1), .val (.sl (.cons (.int .i64) (.cons (.int .i64) .nil)) x0.2.2.2.2.2.2.2.2.2.2.2.2.2.2.2.2)]), (1, .v true [.val (.int .i64 x1.1), .val (.int .i64 x1.2.1), .val (.int .i64 x1.2.2.1), .val (.int .i64 x1.2.2.2.1), .val (.int .i64 x1.2.2.2.2.1), .val (.int .i64 x1.2.2.2.2.2.1), .val (.int .i64 x1.2.2.2.2.2.2.1), .val (.int .i64 x1.2.2.2.2.2.2.2.1), .val (.sl (.cons (.int .i64) .nil) x1.2.2.2.2.2.2.2.2.1), .val (.int .i64 x1.2.2.2.2.2.2.2.2.2.1), .val (.sl (.cons (.int .i64) .nil) x1.2.2.2.2.2.2.2.2.2.2.1), .val (.int .i64 x1.2.2.2.2.2.2.2.2.2.2.2.1), .val (.int .i64 x1.2.2.2.2.2.2.2.2.2.2.2.2.1), .val (.sl (.cons (.int .i64) .nil) x1.2.2.2.2.2.2.2.2.2.2.2.2.2.1), .val (.int .i64 x1.2.2.2.2.2.2.2.2.2.2.2.2.2.2.1), .val (.bool x1.2.2.2.2.2.2.2.2.2.2.2.2.2.2.2.1), .val (.sl (.cons (.int .i64) (.cons (.int .i64) .nil)) x1.2.2.2.2.2.2.2.2.2.2.2.2.2.2.2.2)])], []⟩
theorem zq80.v0 (x0 : TSigned) (x1 : TSigned) : V.evBody zq80.E zq80.con Tryz.f108 (V.fl15 x0 x1) = V.evC zq80.E Tryz.f108.ntmps (V.codeOf Tryz.f108) (zq80.kt x0 x1) (zq80.s x0 x1) := by kernel_rfl
theorem zq80.v (x0 : TSigned) (x1 : TSigned) : V.evC zq80.E Tryz.f108.ntmps (V.codeOf Tryz.f108) (zq80.kt x0 x1) (zq80.s x0 x1) = zq80 x0 x1 := by kernel_rfl
theorem zq80.eq (x0 : TSigned) (x1 : TSigned) : V.evBody zq80.E zq80.con Tryz.f108 (V.fl15 x0 x1) = zq80 x0 x1 := (zq80.v0 x0 x1).trans (zq80.v x0 x1)
theorem zq80.ok : V.Valid Tryz.prog 108 zq80.con :=
  V.fo (V.tab_cons zq74.ok (V.tab_cons zq79.ok V.tab_nil)) Tryz.func108 (by kernel_rfl) (fun x y h => (show V.evBody zq80.E zq80.con Tryz.f108 x = _ from zq80.eq (V.p15_0 x) (V.p15_1 x)).trans (V.cfl (by kernel_rfl) h))
noncomputable abbrev zq81.con : V.Con := ⟨(.cons (.sl V.eSigned) (.cons (.sl V.eSigned) .nil)), (.cons .bool .nil), fun (x : List TSigned × List TSigned) => zq81 x.1 x.2, [], [(false, 1), (false, 1)], [(false, 1)], [false], []⟩
noncomputable abbrev zq81.E : V.Env := V.mkE V.tys [(108, zq80.con)] [(8, [0, 1, 5], [])] [(6, 8)] [] [] []
noncomputable abbrev zq81.kt (x0 : List TSigned) (x1 : List TSigned) : V.Kt Bool := V.ktOf zq81.E zq81.con Tryz.f31 ((x0, x1) : List TSigned × List TSigned)
noncomputable abbrev zq81.s8 (x0 : List TSigned) (x1 : List TSigned) (v8_2 : Int) : V.St := ⟨[(0, .v false [.val (.sl V.eSigned x0)]), (1, .v false [.val (.sl V.eSigned x1)]), (5, .v false [.val (.int .i64 v8_2)])], []⟩
theorem zq81.r8 (x0 : List TSigned) (x1 : List TSigned) (R : V.St → Option Bool) (v8_2 : Int) : V.loopF zq81.E Tryz.f31.ntmps [1, 1, 0, 1, 0] [] (V.codeOf Tryz.f31) (zq81.kt x0 x1) R (zq81.s8 x0 x1 v8_2) = zq81.g8 x0 x1 (fun v8_2 => R (zq81.s8 x0 x1 v8_2)) v8_2 := by kernel_rfl
theorem zq81.e8 (x0 : List TSigned) (x1 : List TSigned) : ∀ (n : Nat) (v8_2 : Int), V.loopN (V.loopF zq81.E Tryz.f31.ntmps [1, 1, 0, 1, 0] [] (V.codeOf Tryz.f31) (zq81.kt x0 x1)) n (zq81.s8 x0 x1 v8_2) = zq81.l8 x0 x1 n v8_2 := by
  intro n
  induction n with
  | zero => intros; rw [V.loopN_z]; rfl
  | succ n ih =>
    intro v8_2
    rw [V.loopN_s, zq81.r8]
    simp only [ih]
    first | exact (zq81.u8 ..).symm | rfl
theorem zq81.v (x0 : List TSigned) (x1 : List TSigned) : V.evBody zq81.E zq81.con Tryz.f31 ((x0, x1) : List TSigned × List TSigned) = zq81.b x0 x1 (fun v8_2 => V.loopN (V.loopF zq81.E Tryz.f31.ntmps [1, 1, 0, 1, 0] [] (V.codeOf Tryz.f31) (zq81.kt x0 x1)) V.KK (zq81.s8 x0 x1 v8_2)) := by kernel_rfl
theorem zq81.eq (x0 : List TSigned) (x1 : List TSigned) : V.evBody zq81.E zq81.con Tryz.f31 ((x0, x1) : List TSigned × List TSigned) = zq81 x0 x1 := by
  rw [zq81.v]
  simp only [zq81.e8]
  rfl
theorem zq81.ok : V.Valid Tryz.prog 31 zq81.con :=
  V.fo (V.tab_cons zq80.ok V.tab_nil) Tryz.func31 (by kernel_rfl) (fun x y h => (show V.evBody zq81.E zq81.con Tryz.f31 x = _ from zq81.eq x.1 x.2).trans (V.cfl (by kernel_rfl) h))
noncomputable abbrev zq77.con : V.Con := ⟨(.cons (.int .i64) (.cons (.sl (.cons (.int .i64) .nil)) (.cons (.int .i64) (.cons (.sl (.cons (.int .i64) .nil)) .nil)))), (.cons .bool .nil), fun (x : Int × List Int × Int × List Int) => zq77 (x.1, x.2.1) x.2.2, [], [(true, 2), (true, 2)], [(false, 1)], [false], []⟩
noncomputable abbrev zq77.E : V.Env := V.mkE V.tys [(79, zq75.con)] [] [] [] [] []
theorem zq77.eq (x0 : TProof) (x1 : TProof) : V.evBody zq77.E zq77.con Tryz.f164 ((x0.1, x0.2, x1.1, x1.2) : Int × List Int × Int × List Int) = zq77 x0 x1 := by kernel_rfl
theorem zq77.ok : V.Valid Tryz.prog 164 zq77.con :=
  V.fo (V.tab_cons zq75.ok V.tab_nil) Tryz.func164 (by kernel_rfl) (fun x y h => (show V.evBody zq77.E zq77.con Tryz.f164 x = _ from zq77.eq (x.1, x.2.1) x.2.2).trans (V.cfl (by kernel_rfl) h))
noncomputable abbrev zq73.con : V.Con := ⟨V.A10, (.cons .bool .nil), fun (x : V.D10) => zq73 (V.p10_0 x) (V.p10_1 x), [], [(true, 13), (true, 13)], [(false, 1)], [false], []⟩
noncomputable abbrev zq73.E : V.Env := V.mkE V.tys [(72, zq72.con), (164, zq77.con)] [] [] [] [] []
noncomputable abbrev zq73.kt (x0 : TGap) (x1 : TGap) : V.Kt Bool := V.ktOf zq73.E zq73.con Tryz.f165 (V.fl10 x0 x1)
noncomputable abbrev zq73.s (x0 : TGap) (x1 : TGap) : V.St := ⟨[(0, .v true [.val (.int .i64 x0.1), .val (.str x0.2.1), .val (.int .i64 x0.2.2.1), .val (.int .i64 x0.2.2.2.1), .val (.sl (.cons .str .nil) x0.2.2.2.2.1), .val (.str x0.2.2.2.2.2.1), .val (.int .i64 x0.2.2.2.2.2.2.1), .val (.int .i64 x0.2.2.2.2.2.2.2.1), .val (.sl (.cons .str .nil) x0.2.2.2.2.2.2.2.2.1), .val (.int .i64 x0.2.2.2.2.2.2.2.2.2.1), .val (.sl (.cons (.int .i64) .nil) x0.2.2.2.2.2.2.2.2.2.2.1), .val (.int .i64 x0.2.2.2.2.2.2.2.2.2.2.2.1), .val (.sl (.cons (.int .i64) .nil) x0.2.2.2.2.2.2.2.2.2.2.2.2)]), (1, .v true [.val (.int .i64 x1.1), .val (.str x1.2.1), .val (.int .i64 x1.2.2.1), .val (.int .i64 x1.2.2.2.1), .val (.sl (.cons .str .nil) x1.2.2.2.2.1), .val (.str x1.2.2.2.2.2.1), .val (.int .i64 x1.2.2.2.2.2.2.1), .val (.int .i64 x1.2.2.2.2.2.2.2.1), .val (.sl (.cons .str .nil) x1.2.2.2.2.2.2.2.2.1), .val (.int .i64 x1.2.2.2.2.2.2.2.2.2.1), .val (.sl (.cons (.int .i64) .nil) x1.2.2.2.2.2.2.2.2.2.2.1), .val (.int .i64 x1.2.2.2.2.2.2.2.2.2.2.2.1), .val (.sl (.cons (.int .i64) .nil) x1.2.2.2.2.2.2.2.2.2.2.2.2)])], []⟩
theorem zq73.v0 (x0 : TGap) (x1 : TGap) : V.evBody zq73.E zq73.con Tryz.f165 (V.fl10 x0 x1) = V.evC zq73.E Tryz.f165.ntmps (V.codeOf Tryz.f165) (zq73.kt x0 x1) (zq73.s x0 x1) := by kernel_rfl
theorem zq73.v (x0 : TGap) (x1 : TGap) : V.evC zq73.E Tryz.f165.ntmps (V.codeOf Tryz.f165) (zq73.kt x0 x1) (zq73.s x0 x1) = zq73 x0 x1 := by kernel_rfl
theorem zq73.eq (x0 : TGap) (x1 : TGap) : V.evBody zq73.E zq73.con Tryz.f165 (V.fl10 x0 x1) = zq73 x0 x1 := (zq73.v0 x0 x1).trans (zq73.v x0 x1)
theorem zq73.ok : V.Valid Tryz.prog 165 zq73.con :=
  V.fo (V.tab_cons zq72.ok (V.tab_cons zq77.ok V.tab_nil)) Tryz.func165 (by kernel_rfl) (fun x y h => (show V.evBody zq73.E zq73.con Tryz.f165 x = _ from zq73.eq (V.p10_0 x) (V.p10_1 x)).trans (V.cfl (by kernel_rfl) h))
noncomputable abbrev zq71.con : V.Con := ⟨V.A16, (.cons .bool .nil), fun (x : V.D16) => zq71 (V.p16_0 x) (V.p16_1 x), [], [(true, 21), (true, 21)], [(false, 1)], [false], []⟩
noncomputable abbrev zq71.E : V.Env := V.mkE V.tys [(31, zq81.con), (72, zq72.con), (164, zq77.con), (165, zq73.con)] [] [] [] [] []
noncomputable abbrev zq71.kt (x0 : TAnswer) (x1 : TAnswer) : V.Kt Bool := V.ktOf zq71.E zq71.con Tryz.f69 (V.fl16 x0 x1)
noncomputable abbrev zq71.s (x0 : TAnswer) (x1 : TAnswer) : V.St := ⟨[(0, .v true [.val (.sl V.eSigned x0.1), .val (.bool x0.2.1), .val (.str x0.2.2.1), .val (.int .i64 x0.2.2.2.1), .val (.int .i64 x0.2.2.2.2.1), .val (.sl (.cons .str .nil) x0.2.2.2.2.2.1), .val (.int .i64 x0.2.2.2.2.2.2.1), .val (.sl (.cons (.int .i64) .nil) x0.2.2.2.2.2.2.2.1), .val (.int .i64 x0.2.2.2.2.2.2.2.2.1), .val (.str x0.2.2.2.2.2.2.2.2.2.1), .val (.int .i64 x0.2.2.2.2.2.2.2.2.2.2.1), .val (.int .i64 x0.2.2.2.2.2.2.2.2.2.2.2.1), .val (.sl (.cons .str .nil) x0.2.2.2.2.2.2.2.2.2.2.2.2.1), .val (.str x0.2.2.2.2.2.2.2.2.2.2.2.2.2.1), .val (.int .i64 x0.2.2.2.2.2.2.2.2.2.2.2.2.2.2.1), .val (.int .i64 x0.2.2.2.2.2.2.2.2.2.2.2.2.2.2.2.1), .val (.sl (.cons .str .nil) x0.2.2.2.2.2.2.2.2.2.2.2.2.2.2.2.2.1), .val (.int .i64 x0.2.2.2.2.2.2.2.2.2.2.2.2.2.2.2.2.2.1), .val (.sl (.cons (.int .i64) .nil) x0.2.2.2.2.2.2.2.2.2.2.2.2.2.2.2.2.2.2.1), .val (.int .i64 x0.2.2.2.2.2.2.2.2.2.2.2.2.2.2.2.2.2.2.2.1), .val (.sl (.cons (.int .i64) .nil) x0.2.2.2.2.2.2.2.2.2.2.2.2.2.2.2.2.2.2.2.2)]), (1, .v true [.val (.sl V.eSigned x1.1), .val (.bool x1.2.1), .val (.str x1.2.2.1), .val (.int .i64 x1.2.2.2.1), .val (.int .i64 x1.2.2.2.2.1), .val (.sl (.cons .str .nil) x1.2.2.2.2.2.1), .val (.int .i64 x1.2.2.2.2.2.2.1), .val (.sl (.cons (.int .i64) .nil) x1.2.2.2.2.2.2.2.1), .val (.int .i64 x1.2.2.2.2.2.2.2.2.1), .val (.str x1.2.2.2.2.2.2.2.2.2.1), .val (.int .i64 x1.2.2.2.2.2.2.2.2.2.2.1), .val (.int .i64 x1.2.2.2.2.2.2.2.2.2.2.2.1), .val (.sl (.cons .str .nil) x1.2.2.2.2.2.2.2.2.2.2.2.2.1), .val (.str x1.2.2.2.2.2.2.2.2.2.2.2.2.2.1), .val (.int .i64 x1.2.2.2.2.2.2.2.2.2.2.2.2.2.2.1), .val (.int .i64 x1.2.2.2.2.2.2.2.2.2.2.2.2.2.2.2.1), .val (.sl (.cons .str .nil) x1.2.2.2.2.2.2.2.2.2.2.2.2.2.2.2.2.1), .val (.int .i64 x1.2.2.2.2.2.2.2.2.2.2.2.2.2.2.2.2.2.1), .val (.sl (.cons (.int .i64) .nil) x1.2.2.2.2.2.2.2.2.2.2.2.2.2.2.2.2.2.2.1), .val (.int .i64 x1.2.2.2.2.2.2.2.2.2.2.2.2.2.2.2.2.2.2.2.1), .val (.sl (.cons (.int .i64) .nil) x1.2.2.2.2.2.2.2.2.2.2.2.2.2.2.2.2.2.2.2.2)])], []⟩
theorem zq71.v0 (x0 : TAnswer) (x1 : TAnswer) : V.evBody zq71.E zq71.con Tryz.f69 (V.fl16 x0 x1) = V.evC zq71.E Tryz.f69.ntmps (V.codeOf Tryz.f69) (zq71.kt x0 x1) (zq71.s x0 x1) := by kernel_rfl
theorem zq71.v (x0 : TAnswer) (x1 : TAnswer) : V.evC zq71.E Tryz.f69.ntmps (V.codeOf Tryz.f69) (zq71.kt x0 x1) (zq71.s x0 x1) = zq71 x0 x1 := by kernel_rfl
theorem zq71.eq (x0 : TAnswer) (x1 : TAnswer) : V.evBody zq71.E zq71.con Tryz.f69 (V.fl16 x0 x1) = zq71 x0 x1 := (zq71.v0 x0 x1).trans (zq71.v x0 x1)
theorem zq71.ok : V.Valid Tryz.prog 69 zq71.con :=
  V.fo (V.tab_cons zq81.ok (V.tab_cons zq72.ok (V.tab_cons zq77.ok (V.tab_cons zq73.ok V.tab_nil)))) Tryz.func69 (by kernel_rfl) (fun x y h => (show V.evBody zq71.E zq71.con Tryz.f69 x = _ from zq71.eq (V.p16_0 x) (V.p16_1 x)).trans (V.cfl (by kernel_rfl) h))
noncomputable abbrev zq88.con : V.Con := ⟨(.cons (.sl (.cons (.int .i64) .nil)) (.cons (.int .i64) .nil)), (.cons (.sl (.cons (.int .i64) .nil)) (.cons (.int .i64) .nil)), fun (x : List Int × Int) => zq88 x.1 x.2, [(0, false)], [(false, 1), (false, 1)], [(false, 1)], [false], []⟩
noncomputable abbrev zq88.E : V.Env := V.mkE V.tys [] [(4, [0, 1, 5], [])] [] [] [] []
noncomputable abbrev zq88.kt (x0 : List Int) (x1 : Int) : V.Kt TKeys := V.ktOf zq88.E zq88.con Tryz.f80 ((x0, x1) : List Int × Int)
noncomputable abbrev zq88.s4 (v4_0 : Int) (v4_1 : Int) (v4_2 : List Int) : V.St := ⟨[(0, .v false [.ref 0]), (1, .v false [.val (.int .i64 v4_0)]), (5, .v false [.val (.int .i64 v4_1)])], [(0, .row (.cons (.int .i64) .nil) true v4_2)]⟩
theorem zq88.r4 (x0 : List Int) (x1 : Int) (R : V.St → Option TKeys) (v4_0 : Int) (v4_1 : Int) (v4_2 : List Int) : V.loopF zq88.E Tryz.f80.ntmps [1, 0, 1, 0] [] (V.codeOf Tryz.f80) (zq88.kt x0 x1) R (zq88.s4 v4_0 v4_1 v4_2) = zq88.g4 (fun v4_0 v4_1 v4_2 => R (zq88.s4 v4_0 v4_1 v4_2)) v4_0 v4_1 v4_2 := by kernel_rfl
theorem zq88.e4 (x0 : List Int) (x1 : Int) : ∀ (n : Nat) (v4_0 : Int) (v4_1 : Int) (v4_2 : List Int), V.loopN (V.loopF zq88.E Tryz.f80.ntmps [1, 0, 1, 0] [] (V.codeOf Tryz.f80) (zq88.kt x0 x1)) n (zq88.s4 v4_0 v4_1 v4_2) = zq88.l4 n v4_0 v4_1 v4_2 := by
  intro n
  induction n with
  | zero => intros; rw [V.loopN_z]; rfl
  | succ n ih =>
    intro v4_0 v4_1 v4_2
    rw [V.loopN_s, zq88.r4]
    simp only [ih]
    first | exact (zq88.u4 ..).symm | rfl
theorem zq88.v (x0 : List Int) (x1 : Int) : V.evBody zq88.E zq88.con Tryz.f80 ((x0, x1) : List Int × Int) = zq88.b x0 x1 (fun v4_0 v4_1 v4_2 => V.loopN (V.loopF zq88.E Tryz.f80.ntmps [1, 0, 1, 0] [] (V.codeOf Tryz.f80) (zq88.kt x0 x1)) V.KK (zq88.s4 v4_0 v4_1 v4_2)) := by kernel_rfl
theorem zq88.eq (x0 : List Int) (x1 : Int) : V.evBody zq88.E zq88.con Tryz.f80 ((x0, x1) : List Int × Int) = zq88 x0 x1 := by
  rw [zq88.v]
  simp only [zq88.e4]
  rfl
theorem zq88.ok : V.Valid Tryz.prog 80 zq88.con :=
  V.fo V.tab_nil Tryz.func80 (by kernel_rfl) (fun x y h => (show V.evBody zq88.E zq88.con Tryz.f80 x = _ from zq88.eq x.1 x.2).trans (V.cfl (by kernel_rfl) h))
noncomputable abbrev zq90.con : V.Con := ⟨(.cons (.sl (.cons (.int .i64) (.cons (.int .i64) .nil))) (.cons (.int .i64) .nil)), (.cons (.sl (.cons (.int .i64) (.cons (.int .i64) .nil))) (.cons (.int .i64) .nil)), fun (x : List TSig × Int) => zq90 x.1 x.2, [(0, false)], [(false, 1), (false, 1)], [(false, 1)], [false], []⟩
noncomputable abbrev zq90.E : V.Env := V.mkE V.tys [] [(4, [0, 1, 5], [])] [] [] [] []
noncomputable abbrev zq90.kt (x0 : List TSig) (x1 : Int) : V.Kt (List TSig × Int) := V.ktOf zq90.E zq90.con Tryz.f109 ((x0, x1) : List TSig × Int)
noncomputable abbrev zq90.s4 (v4_0 : Int) (v4_1 : Int) (v4_2 : List TSig) : V.St := ⟨[(0, .v false [.ref 0]), (1, .v false [.val (.int .i64 v4_0)]), (5, .v false [.val (.int .i64 v4_1)])], [(0, .row (.cons (.int .i64) (.cons (.int .i64) .nil)) true v4_2)]⟩
theorem zq90.r4 (x0 : List TSig) (x1 : Int) (R : V.St → Option (List TSig × Int)) (v4_0 : Int) (v4_1 : Int) (v4_2 : List TSig) : V.loopF zq90.E Tryz.f109.ntmps [1, 0, 1, 0] [] (V.codeOf Tryz.f109) (zq90.kt x0 x1) R (zq90.s4 v4_0 v4_1 v4_2) = zq90.g4 (fun v4_0 v4_1 v4_2 => R (zq90.s4 v4_0 v4_1 v4_2)) v4_0 v4_1 v4_2 := by kernel_rfl
theorem zq90.e4 (x0 : List TSig) (x1 : Int) : ∀ (n : Nat) (v4_0 : Int) (v4_1 : Int) (v4_2 : List TSig), V.loopN (V.loopF zq90.E Tryz.f109.ntmps [1, 0, 1, 0] [] (V.codeOf Tryz.f109) (zq90.kt x0 x1)) n (zq90.s4 v4_0 v4_1 v4_2) = zq90.l4 n v4_0 v4_1 v4_2 := by
  intro n
  induction n with
  | zero => intros; rw [V.loopN_z]; rfl
  | succ n ih =>
    intro v4_0 v4_1 v4_2
    rw [V.loopN_s, zq90.r4]
    simp only [ih]
    first | exact (zq90.u4 ..).symm | rfl
theorem zq90.v (x0 : List TSig) (x1 : Int) : V.evBody zq90.E zq90.con Tryz.f109 ((x0, x1) : List TSig × Int) = zq90.b x0 x1 (fun v4_0 v4_1 v4_2 => V.loopN (V.loopF zq90.E Tryz.f109.ntmps [1, 0, 1, 0] [] (V.codeOf Tryz.f109) (zq90.kt x0 x1)) V.KK (zq90.s4 v4_0 v4_1 v4_2)) := by kernel_rfl
theorem zq90.eq (x0 : List TSig) (x1 : Int) : V.evBody zq90.E zq90.con Tryz.f109 ((x0, x1) : List TSig × Int) = zq90 x0 x1 := by
  rw [zq90.v]
  simp only [zq90.e4]
  rfl
theorem zq90.ok : V.Valid Tryz.prog 109 zq90.con :=
  V.fo V.tab_nil Tryz.func109 (by kernel_rfl) (fun x y h => (show V.evBody zq90.E zq90.con Tryz.f109 x = _ from zq90.eq x.1 x.2).trans (V.cfl (by kernel_rfl) h))
noncomputable abbrev zq91.con : V.Con := ⟨(.cons (.sl V.eSigned) (.cons (.int .i64) .nil)), (.cons (.sl V.eSigned) (.cons (.int .i64) .nil)), fun (x : List TSigned × Int) => zq91 x.1 x.2, [(0, false)], [(false, 1), (false, 1)], [(false, 1)], [false], []⟩
noncomputable abbrev zq91.E : V.Env := V.mkE V.tys [(80, zq88.con), (109, zq90.con)] [(4, [0, 1, 5], [])] [] [] [] []
noncomputable abbrev zq91.kt (x0 : List TSigned) (x1 : Int) : V.Kt (List TSigned × Int) := V.ktOf zq91.E zq91.con Tryz.f32 ((x0, x1) : List TSigned × Int)
noncomputable abbrev zq91.s4 (v4_0 : Int) (v4_1 : Int) (v4_2 : List TSigned) : V.St := ⟨[(0, .v false [.ref 0]), (1, .v false [.val (.int .i64 v4_0)]), (5, .v false [.val (.int .i64 v4_1)])], [(0, .row V.eSigned true v4_2)]⟩
theorem zq91.r4 (x0 : List TSigned) (x1 : Int) (R : V.St → Option (List TSigned × Int)) (v4_0 : Int) (v4_1 : Int) (v4_2 : List TSigned) : V.loopF zq91.E Tryz.f32.ntmps [1, 0, 1, 0] [] (V.codeOf Tryz.f32) (zq91.kt x0 x1) R (zq91.s4 v4_0 v4_1 v4_2) = zq91.g4 (fun v4_0 v4_1 v4_2 => R (zq91.s4 v4_0 v4_1 v4_2)) v4_0 v4_1 v4_2 := by kernel_rfl
theorem zq91.e4 (x0 : List TSigned) (x1 : Int) : ∀ (n : Nat) (v4_0 : Int) (v4_1 : Int) (v4_2 : List TSigned), V.loopN (V.loopF zq91.E Tryz.f32.ntmps [1, 0, 1, 0] [] (V.codeOf Tryz.f32) (zq91.kt x0 x1)) n (zq91.s4 v4_0 v4_1 v4_2) = zq91.l4 n v4_0 v4_1 v4_2 := by
  intro n
  induction n with
  | zero => intros; rw [V.loopN_z]; rfl
  | succ n ih =>
    intro v4_0 v4_1 v4_2
    rw [V.loopN_s, zq91.r4]
    simp only [ih]
    first | exact (zq91.u4 ..).symm | rfl
theorem zq91.v (x0 : List TSigned) (x1 : Int) : V.evBody zq91.E zq91.con Tryz.f32 ((x0, x1) : List TSigned × Int) = zq91.b x0 x1 (fun v4_0 v4_1 v4_2 => V.loopN (V.loopF zq91.E Tryz.f32.ntmps [1, 0, 1, 0] [] (V.codeOf Tryz.f32) (zq91.kt x0 x1)) V.KK (zq91.s4 v4_0 v4_1 v4_2)) := by kernel_rfl
theorem zq91.eq (x0 : List TSigned) (x1 : Int) : V.evBody zq91.E zq91.con Tryz.f32 ((x0, x1) : List TSigned × Int) = zq91 x0 x1 := by
  rw [zq91.v]
  simp only [zq91.e4]
  rfl
theorem zq91.ok : V.Valid Tryz.prog 32 zq91.con :=
  V.fo (V.tab_cons zq88.ok (V.tab_cons zq90.ok V.tab_nil)) Tryz.func32 (by kernel_rfl) (fun x y h => (show V.evBody zq91.E zq91.con Tryz.f32 x = _ from zq91.eq x.1 x.2).trans (V.cfl (by kernel_rfl) h))
noncomputable abbrev zq93.con : V.Con := ⟨(.cons (.int .i64) .nil), (.cons .str .nil), fun (x : Int) => zq93 x, [], [(false, 1)], [(false, 1)], [false], []⟩
noncomputable abbrev zq93.E : V.Env := V.mkE V.tys [] [(8, [0, 3], [])] [] [] [] []
noncomputable abbrev zq93.kt (x0 : Int) : V.Kt ByteArray := V.ktOf zq93.E zq93.con Tryz.f95 ((x0) : Int)
noncomputable abbrev zq93.s8 (v8_0 : Int) (v8_1 : ByteArray) : V.St := ⟨[(0, .v false [.val (.int .i64 v8_0)]), (3, .v false [.val (.str v8_1)])], []⟩
theorem zq93.r8 (x0 : Int) (R : V.St → Option ByteArray) (v8_0 : Int) (v8_1 : ByteArray) : V.loopF zq93.E Tryz.f95.ntmps [1, 1, 1, 0, 0] [] (V.codeOf Tryz.f95) (zq93.kt x0) R (zq93.s8 v8_0 v8_1) = zq93.g8 (fun v8_0 v8_1 => R (zq93.s8 v8_0 v8_1)) v8_0 v8_1 := by kernel_rfl
theorem zq93.e8 (x0 : Int) : ∀ (n : Nat) (v8_0 : Int) (v8_1 : ByteArray), V.loopN (V.loopF zq93.E Tryz.f95.ntmps [1, 1, 1, 0, 0] [] (V.codeOf Tryz.f95) (zq93.kt x0)) n (zq93.s8 v8_0 v8_1) = zq93.l8 n v8_0 v8_1 := by
  intro n
  induction n with
  | zero => intros; rw [V.loopN_z]; rfl
  | succ n ih =>
    intro v8_0 v8_1
    rw [V.loopN_s, zq93.r8]
    simp only [ih]
    first | exact (zq93.u8 ..).symm | rfl
theorem zq93.v (x0 : Int) : V.evBody zq93.E zq93.con Tryz.f95 ((x0) : Int) = zq93.b x0 (fun v8_0 v8_1 => V.loopN (V.loopF zq93.E Tryz.f95.ntmps [1, 1, 1, 0, 0] [] (V.codeOf Tryz.f95) (zq93.kt x0)) V.KK (zq93.s8 v8_0 v8_1)) := by kernel_rfl
theorem zq93.eq (x0 : Int) : V.evBody zq93.E zq93.con Tryz.f95 ((x0) : Int) = zq93 x0 := by
  rw [zq93.v]
  simp only [zq93.e8]
  rfl
theorem zq93.ok : V.Valid Tryz.prog 95 zq93.con :=
  V.fo V.tab_nil Tryz.func95 (by kernel_rfl) (fun x y h => (show V.evBody zq93.E zq93.con Tryz.f95 x = _ from zq93.eq x).trans (V.cfl (by kernel_rfl) h))
noncomputable abbrev zq92.con : V.Con := ⟨(.cons (.sl (.cons .str .nil)) (.cons (.int .i64) .nil)), (.cons (.sl (.cons .str .nil)) (.cons (.int .i64) .nil)), fun (x : List ByteArray × Int) => zq92 x.1 x.2, [(0, false)], [(false, 1), (false, 1)], [(false, 1)], [false], []⟩
noncomputable abbrev zq92.E : V.Env := V.mkE V.tys [(95, zq93.con)] [(4, [0, 1, 5], [])] [] [] [] []
noncomputable abbrev zq92.kt (x0 : List ByteArray) (x1 : Int) : V.Kt (List ByteArray × Int) := V.ktOf zq92.E zq92.con Tryz.f96 ((x0, x1) : List ByteArray × Int)
noncomputable abbrev zq92.s4 (v4_0 : Int) (v4_1 : Int) (v4_2 : List ByteArray) : V.St := ⟨[(0, .v false [.ref 0]), (1, .v false [.val (.int .i64 v4_0)]), (5, .v false [.val (.int .i64 v4_1)])], [(0, .row (.cons .str .nil) true v4_2)]⟩
theorem zq92.r4 (x0 : List ByteArray) (x1 : Int) (R : V.St → Option (List ByteArray × Int)) (v4_0 : Int) (v4_1 : Int) (v4_2 : List ByteArray) : V.loopF zq92.E Tryz.f96.ntmps [1, 0, 1, 0] [] (V.codeOf Tryz.f96) (zq92.kt x0 x1) R (zq92.s4 v4_0 v4_1 v4_2) = zq92.g4 (fun v4_0 v4_1 v4_2 => R (zq92.s4 v4_0 v4_1 v4_2)) v4_0 v4_1 v4_2 := by kernel_rfl
theorem zq92.e4 (x0 : List ByteArray) (x1 : Int) : ∀ (n : Nat) (v4_0 : Int) (v4_1 : Int) (v4_2 : List ByteArray), V.loopN (V.loopF zq92.E Tryz.f96.ntmps [1, 0, 1, 0] [] (V.codeOf Tryz.f96) (zq92.kt x0 x1)) n (zq92.s4 v4_0 v4_1 v4_2) = zq92.l4 n v4_0 v4_1 v4_2 := by
  intro n
  induction n with
  | zero => intros; rw [V.loopN_z]; rfl
  | succ n ih =>
    intro v4_0 v4_1 v4_2
    rw [V.loopN_s, zq92.r4]
    simp only [ih]
    first | exact (zq92.u4 ..).symm | rfl
theorem zq92.v (x0 : List ByteArray) (x1 : Int) : V.evBody zq92.E zq92.con Tryz.f96 ((x0, x1) : List ByteArray × Int) = zq92.b x0 x1 (fun v4_0 v4_1 v4_2 => V.loopN (V.loopF zq92.E Tryz.f96.ntmps [1, 0, 1, 0] [] (V.codeOf Tryz.f96) (zq92.kt x0 x1)) V.KK (zq92.s4 v4_0 v4_1 v4_2)) := by kernel_rfl
theorem zq92.eq (x0 : List ByteArray) (x1 : Int) : V.evBody zq92.E zq92.con Tryz.f96 ((x0, x1) : List ByteArray × Int) = zq92 x0 x1 := by
  rw [zq92.v]
  simp only [zq92.e4]
  rfl
theorem zq92.ok : V.Valid Tryz.prog 96 zq92.con :=
  V.fo (V.tab_cons zq93.ok V.tab_nil) Tryz.func96 (by kernel_rfl) (fun x y h => (show V.evBody zq92.E zq92.con Tryz.f96 x = _ from zq92.eq x.1 x.2).trans (V.cfl (by kernel_rfl) h))
noncomputable abbrev zq86.con : V.Con := ⟨(.cons .str (.cons (.int .i64) (.cons (.int .i64) (.cons (.sl (.cons .str .nil)) (.cons (.int .i64) .nil))))), (.cons (.sl (.cons .str .nil)) (.cons (.int .i64) .nil)), fun (x : ByteArray × Int × Int × List ByteArray × Int) => zq86 (x.1, x.2.1, x.2.2.1, x.2.2.2.1) x.2.2.2.2, [(3, false)], [(true, 4), (false, 1)], [(false, 1)], [false], []⟩
noncomputable abbrev zq86.E : V.Env := V.mkE V.tys [(96, zq92.con)] [] [] [] [] []
theorem zq86.eq (x0 : TEntry) (x1 : Int) : V.evBody zq86.E zq86.con Tryz.f74 ((x0.1, x0.2.1, x0.2.2.1, x0.2.2.2, x1) : ByteArray × Int × Int × List ByteArray × Int) = zq86 x0 x1 := by kernel_rfl
theorem zq86.ok : V.Valid Tryz.prog 74 zq86.con :=
  V.fo (V.tab_cons zq92.ok V.tab_nil) Tryz.func74 (by kernel_rfl) (fun x y h => (show V.evBody zq86.E zq86.con Tryz.f74 x = _ from zq86.eq (x.1, x.2.1, x.2.2.1, x.2.2.2.1) x.2.2.2.2).trans (V.cfl (by kernel_rfl) h))
noncomputable abbrev zq89.con : V.Con := ⟨(.cons (.int .i64) (.cons (.sl (.cons (.int .i64) .nil)) (.cons (.int .i64) .nil))), (.cons (.sl (.cons (.int .i64) .nil)) (.cons (.int .i64) .nil)), fun (x : Int × List Int × Int) => zq89 (x.1, x.2.1) x.2.2, [(1, false)], [(true, 2), (false, 1)], [(false, 1)], [false], []⟩
noncomputable abbrev zq89.E : V.Env := V.mkE V.tys [(80, zq88.con)] [] [] [] [] []
theorem zq89.eq (x0 : TProof) (x1 : Int) : V.evBody zq89.E zq89.con Tryz.f169 ((x0.1, x0.2, x1) : Int × List Int × Int) = zq89 x0 x1 := by kernel_rfl
theorem zq89.ok : V.Valid Tryz.prog 169 zq89.con :=
  V.fo (V.tab_cons zq88.ok V.tab_nil) Tryz.func169 (by kernel_rfl) (fun x y h => (show V.evBody zq89.E zq89.con Tryz.f169 x = _ from zq89.eq (x.1, x.2.1) x.2.2).trans (V.cfl (by kernel_rfl) h))
noncomputable abbrev zq87.con : V.Con := ⟨V.A2, (.cons (.sl (.cons .str .nil)) (.cons (.sl (.cons .str .nil)) (.cons (.sl (.cons (.int .i64) .nil)) (.cons (.sl (.cons (.int .i64) .nil)) (.cons (.int .i64) .nil))))), fun (x : V.D2) => zq87 (V.p2_0 x) (V.p2_1 x), [(4, false), (8, false), (10, false), (12, false)], [(true, 13), (false, 1)], [(false, 1)], [false], []⟩
noncomputable abbrev zq87.E : V.Env := V.mkE V.tys [(74, zq86.con), (169, zq89.con)] [] [] [] [] []
noncomputable abbrev zq87.kt (x0 : TGap) (x1 : Int) : V.Kt (List ByteArray × List ByteArray × List Int × List Int × Int) := V.ktOf zq87.E zq87.con Tryz.f170 (V.fl2 x0 x1)
noncomputable abbrev zq87.s (x0 : TGap) (x1 : Int) : V.St := ⟨[(0, .v true [.val (.int .i64 x0.1), .val (.str x0.2.1), .val (.int .i64 x0.2.2.1), .val (.int .i64 x0.2.2.2.1), .ref 4, .val (.str x0.2.2.2.2.2.1), .val (.int .i64 x0.2.2.2.2.2.2.1), .val (.int .i64 x0.2.2.2.2.2.2.2.1), .ref 8, .val (.int .i64 x0.2.2.2.2.2.2.2.2.2.1), .ref 10, .val (.int .i64 x0.2.2.2.2.2.2.2.2.2.2.2.1), .ref 12]), (1, .v false [.val (.int .i64 x1)])], [(4, .row (.cons .str .nil) true x0.2.2.2.2.1), (8, .row (.cons .str .nil) true x0.2.2.2.2.2.2.2.2.1), (10, .row (.cons (.int .i64) .nil) true x0.2.2.2.2.2.2.2.2.2.2.1), (12, .row (.cons (.int .i64) .nil) true x0.2.2.2.2.2.2.2.2.2.2.2.2)]⟩
theorem zq87.v0 (x0 : TGap) (x1 : Int) : V.evBody zq87.E zq87.con Tryz.f170 (V.fl2 x0 x1) = V.evC zq87.E Tryz.f170.ntmps (V.codeOf Tryz.f170) (zq87.kt x0 x1) (zq87.s x0 x1) := by kernel_rfl
theorem zq87.v (x0 : TGap) (x1 : Int) : V.evC zq87.E Tryz.f170.ntmps (V.codeOf Tryz.f170) (zq87.kt x0 x1) (zq87.s x0 x1) = zq87 x0 x1 := by kernel_rfl
theorem zq87.eq (x0 : TGap) (x1 : Int) : V.evBody zq87.E zq87.con Tryz.f170 (V.fl2 x0 x1) = zq87 x0 x1 := (zq87.v0 x0 x1).trans (zq87.v x0 x1)
theorem zq87.ok : V.Valid Tryz.prog 170 zq87.con :=
  V.fo (V.tab_cons zq86.ok (V.tab_cons zq89.ok V.tab_nil)) Tryz.func170 (by kernel_rfl) (fun x y h => (show V.evBody zq87.E zq87.con Tryz.f170 x = _ from zq87.eq (V.p2_0 x) (V.p2_1 x)).trans (V.cfl (by kernel_rfl) h))
noncomputable abbrev zq85.con : V.Con := ⟨V.A3, (.cons (.sl V.eSigned) (.cons (.sl (.cons .str .nil)) (.cons (.sl (.cons (.int .i64) .nil)) (.cons (.sl (.cons .str .nil)) (.cons (.sl (.cons .str .nil)) (.cons (.sl (.cons (.int .i64) .nil)) (.cons (.sl (.cons (.int .i64) .nil)) (.cons (.int .i64) .nil)))))))), fun (x : V.D3) => zq85 (V.p3_0 x) (V.p3_1 x), [(0, false), (5, false), (7, false), (12, false), (16, false), (18, false), (20, false)], [(true, 21), (false, 1)], [(false, 1)], [false], []⟩
noncomputable abbrev zq85.E : V.Env := V.mkE V.tys [(32, zq91.con), (74, zq86.con), (169, zq89.con), (170, zq87.con)] [] [] [] [] []
noncomputable abbrev zq85.kt (x0 : TAnswer) (x1 : Int) : V.Kt (List TSigned × List ByteArray × List Int × List ByteArray × List ByteArray × List Int × List Int × Int) := V.ktOf zq85.E zq85.con Tryz.f73 (V.fl3 x0 x1)
noncomputable abbrev zq85.s (x0 : TAnswer) (x1 : Int) : V.St := ⟨[(0, .v true [.ref 0, .val (.bool x0.2.1), .val (.str x0.2.2.1), .val (.int .i64 x0.2.2.2.1), .val (.int .i64 x0.2.2.2.2.1), .ref 5, .val (.int .i64 x0.2.2.2.2.2.2.1), .ref 7, .val (.int .i64 x0.2.2.2.2.2.2.2.2.1), .val (.str x0.2.2.2.2.2.2.2.2.2.1), .val (.int .i64 x0.2.2.2.2.2.2.2.2.2.2.1), .val (.int .i64 x0.2.2.2.2.2.2.2.2.2.2.2.1), .ref 12, .val (.str x0.2.2.2.2.2.2.2.2.2.2.2.2.2.1), .val (.int .i64 x0.2.2.2.2.2.2.2.2.2.2.2.2.2.2.1), .val (.int .i64 x0.2.2.2.2.2.2.2.2.2.2.2.2.2.2.2.1), .ref 16, .val (.int .i64 x0.2.2.2.2.2.2.2.2.2.2.2.2.2.2.2.2.2.1), .ref 18, .val (.int .i64 x0.2.2.2.2.2.2.2.2.2.2.2.2.2.2.2.2.2.2.2.1), .ref 20]), (1, .v false [.val (.int .i64 x1)])], [(0, .row V.eSigned true x0.1), (5, .row (.cons .str .nil) true x0.2.2.2.2.2.1), (7, .row (.cons (.int .i64) .nil) true x0.2.2.2.2.2.2.2.1), (12, .row (.cons .str .nil) true x0.2.2.2.2.2.2.2.2.2.2.2.2.1), (16, .row (.cons .str .nil) true x0.2.2.2.2.2.2.2.2.2.2.2.2.2.2.2.2.1), (18, .row (.cons (.int .i64) .nil) true x0.2.2.2.2.2.2.2.2.2.2.2.2.2.2.2.2.2.2.1), (20, .row (.cons (.int .i64) .nil) true x0.2.2.2.2.2.2.2.2.2.2.2.2.2.2.2.2.2.2.2.2)]⟩
theorem zq85.v0 (x0 : TAnswer) (x1 : Int) : V.evBody zq85.E zq85.con Tryz.f73 (V.fl3 x0 x1) = V.evC zq85.E Tryz.f73.ntmps (V.codeOf Tryz.f73) (zq85.kt x0 x1) (zq85.s x0 x1) := by kernel_rfl
theorem zq85.v (x0 : TAnswer) (x1 : Int) : V.evC zq85.E Tryz.f73.ntmps (V.codeOf Tryz.f73) (zq85.kt x0 x1) (zq85.s x0 x1) = zq85 x0 x1 := by kernel_rfl
theorem zq85.eq (x0 : TAnswer) (x1 : Int) : V.evBody zq85.E zq85.con Tryz.f73 (V.fl3 x0 x1) = zq85 x0 x1 := (zq85.v0 x0 x1).trans (zq85.v x0 x1)
theorem zq85.ok : V.Valid Tryz.prog 73 zq85.con :=
  V.fo (V.tab_cons zq91.ok (V.tab_cons zq86.ok (V.tab_cons zq89.ok (V.tab_cons zq87.ok V.tab_nil)))) Tryz.func73 (by kernel_rfl) (fun x y h => (show V.evBody zq85.E zq85.con Tryz.f73 x = _ from zq85.eq (V.p3_0 x) (V.p3_1 x)).trans (V.cfl (by kernel_rfl) h))
noncomputable abbrev zq84.con : V.Con := ⟨(.cons (.sl (.cons .str .nil)) (.cons (.int .i64) .nil)), (.cons (.int .i64) .nil), fun (x : List ByteArray × Int) => zq84 x.1 x.2, [], [(false, 1), (false, 1)], [(false, 1)], [false], []⟩
noncomputable abbrev zq84.E : V.Env := V.mkE V.tys [(95, zq93.con)] [(4, [0, 1, 5], [])] [(4, 6)] [] [] []
noncomputable abbrev zq84.kt (x0 : List ByteArray) (x1 : Int) : V.Kt Int := V.ktOf zq84.E zq84.con Tryz.f171 ((x0, x1) : List ByteArray × Int)
noncomputable abbrev zq84.s4 (x0 : List ByteArray) (v4_1 : Int) (v4_2 : Int) : V.St := ⟨[(0, .v false [.val (.sl (.cons .str .nil) x0)]), (1, .v false [.val (.int .i64 v4_1)]), (5, .v false [.val (.int .i64 v4_2)])], []⟩
theorem zq84.r4 (x0 : List ByteArray) (x1 : Int) (R : V.St → Option Int) (v4_1 : Int) (v4_2 : Int) : V.loopF zq84.E Tryz.f171.ntmps [1, 0, 1, 0] [] (V.codeOf Tryz.f171) (zq84.kt x0 x1) R (zq84.s4 x0 v4_1 v4_2) = zq84.g4 x0 (fun v4_1 v4_2 => R (zq84.s4 x0 v4_1 v4_2)) v4_1 v4_2 := by kernel_rfl
theorem zq84.e4 (x0 : List ByteArray) (x1 : Int) : ∀ (n : Nat) (v4_1 : Int) (v4_2 : Int), V.loopN (V.loopF zq84.E Tryz.f171.ntmps [1, 0, 1, 0] [] (V.codeOf Tryz.f171) (zq84.kt x0 x1)) n (zq84.s4 x0 v4_1 v4_2) = zq84.l4 x0 n v4_1 v4_2 := by
  intro n
  induction n with
  | zero => intros; rw [V.loopN_z]; rfl
  | succ n ih =>
    intro v4_1 v4_2
    rw [V.loopN_s, zq84.r4]
    simp only [ih]
    first | exact (zq84.u4 ..).symm | rfl
theorem zq84.v (x0 : List ByteArray) (x1 : Int) : V.evBody zq84.E zq84.con Tryz.f171 ((x0, x1) : List ByteArray × Int) = zq84.b x0 x1 (fun v4_1 v4_2 => V.loopN (V.loopF zq84.E Tryz.f171.ntmps [1, 0, 1, 0] [] (V.codeOf Tryz.f171) (zq84.kt x0 x1)) V.KK (zq84.s4 x0 v4_1 v4_2)) := by kernel_rfl
theorem zq84.eq (x0 : List ByteArray) (x1 : Int) : V.evBody zq84.E zq84.con Tryz.f171 ((x0, x1) : List ByteArray × Int) = zq84 x0 x1 := by
  rw [zq84.v]
  simp only [zq84.e4]
  rfl
theorem zq84.ok : V.Valid Tryz.prog 171 zq84.con :=
  V.fo (V.tab_cons zq93.ok V.tab_nil) Tryz.func171 (by kernel_rfl) (fun x y h => (show V.evBody zq84.E zq84.con Tryz.f171 x = _ from zq84.eq x.1 x.2).trans (V.cfl (by kernel_rfl) h))
noncomputable abbrev zq83.con : V.Con := ⟨(.cons .str (.cons (.int .i64) (.cons (.int .i64) (.cons (.sl (.cons .str .nil)) (.cons (.int .i64) .nil))))), (.cons (.int .i64) .nil), fun (x : ByteArray × Int × Int × List ByteArray × Int) => zq83 (x.1, x.2.1, x.2.2.1, x.2.2.2.1) x.2.2.2.2, [], [(true, 4), (false, 1)], [(false, 1)], [false], []⟩
noncomputable abbrev zq83.E : V.Env := V.mkE V.tys [(171, zq84.con)] [] [] [] [] []
theorem zq83.eq (x0 : TEntry) (x1 : Int) : V.evBody zq83.E zq83.con Tryz.f75 ((x0.1, x0.2.1, x0.2.2.1, x0.2.2.2, x1) : ByteArray × Int × Int × List ByteArray × Int) = zq83 x0 x1 := by kernel_rfl
theorem zq83.ok : V.Valid Tryz.prog 75 zq83.con :=
  V.fo (V.tab_cons zq84.ok V.tab_nil) Tryz.func75 (by kernel_rfl) (fun x y h => (show V.evBody zq83.E zq83.con Tryz.f75 x = _ from zq83.eq (x.1, x.2.1, x.2.2.1, x.2.2.2.1) x.2.2.2.2).trans (V.cfl (by kernel_rfl) h))
noncomputable abbrev zq70.con : V.Con := ⟨V.A13, (.cons .bool .nil), fun (x : V.D13) => zq70 (V.p13_0 x) (V.p13_1 x) (V.p13_2 x) (V.p13_3 x), [], [(false, 1), (false, 1), (true, 21), (false, 1)], [(false, 1)], [false], []⟩
noncomputable abbrev zq70.E : V.Env := V.mkE V.tys [(65, zq94.con), (67, zq105.con), (69, zq71.con), (70, zq133.con), (71, zq7.con), (72, zq72.con), (73, zq85.con), (74, zq86.con), (75, zq83.con)] [(25, [0, 1, 3, 6, 10, 11, 12, 13, 14], []), (37, [0, 1, 3, 6, 10, 11, 13], []), (59, [13, 16], [])] [(12, 3)] [] [] []
noncomputable abbrev zq70.kt (x0 : Int) (x1 : ByteArray) (x2 : TAnswer) (x3 : Int) : V.Kt Bool := V.ktOf zq70.E zq70.con Tryz.f12 (V.fl13 x0 x1 x2 x3)
noncomputable abbrev zq70.s59 (y5 : TREntryBool) (y11 : List ByteArray × Int) : V.St := ⟨[(13, .v false [.ptr 640512 0]), (16, .v false [.val (.int .i64 y11.2)])], [(640512, .box [.val (.str y5.1), .val (.int .i64 y5.2.1), .val (.int .i64 y5.2.2.1), .ref 64000000000040992771]), (64000000000040992771, .row (.cons .str .nil) true y11.1)]⟩
noncomputable abbrev zq70.s37 (x0 : Int) (x1 : ByteArray) (x2 : TAnswer) (x3 : Int) (y3 : TREntryBool) (y5 : TREntryBool) : V.St := ⟨[(0, .v false [.val (.int .i64 x0)]), (1, .v false [.val (.str x1)]), (3, .v false [.val (.int .i64 x3)]), (6, .v false [.ptr 64000 0]), (10, .v false [.ptr 512576 0]), (11, .v false [.val (.bool y3.2.2.2.2)]), (13, .v false [.ptr 640512 0])], [(64000, .box [.val (.sl V.eSigned x2.1), .val (.bool x2.2.1), .val (.str x2.2.2.1), .val (.int .i64 x2.2.2.2.1), .val (.int .i64 x2.2.2.2.2.1), .val (.sl (.cons .str .nil) x2.2.2.2.2.2.1), .val (.int .i64 x2.2.2.2.2.2.2.1), .val (.sl (.cons (.int .i64) .nil) x2.2.2.2.2.2.2.2.1), .val (.int .i64 x2.2.2.2.2.2.2.2.2.1), .val (.str x2.2.2.2.2.2.2.2.2.2.1), .val (.int .i64 x2.2.2.2.2.2.2.2.2.2.2.1), .val (.int .i64 x2.2.2.2.2.2.2.2.2.2.2.2.1), .val (.sl (.cons .str .nil) x2.2.2.2.2.2.2.2.2.2.2.2.2.1), .val (.str x2.2.2.2.2.2.2.2.2.2.2.2.2.2.1), .val (.int .i64 x2.2.2.2.2.2.2.2.2.2.2.2.2.2.2.1), .val (.int .i64 x2.2.2.2.2.2.2.2.2.2.2.2.2.2.2.2.1), .val (.sl (.cons .str .nil) x2.2.2.2.2.2.2.2.2.2.2.2.2.2.2.2.2.1), .val (.int .i64 x2.2.2.2.2.2.2.2.2.2.2.2.2.2.2.2.2.2.1), .val (.sl (.cons (.int .i64) .nil) x2.2.2.2.2.2.2.2.2.2.2.2.2.2.2.2.2.2.2.1), .val (.int .i64 x2.2.2.2.2.2.2.2.2.2.2.2.2.2.2.2.2.2.2.2.1), .val (.sl (.cons (.int .i64) .nil) x2.2.2.2.2.2.2.2.2.2.2.2.2.2.2.2.2.2.2.2.2)]), (512576, .box [.val (.str y3.1), .val (.int .i64 y3.2.1), .val (.int .i64 y3.2.2.1), .ref 64000000000032804867]), (64000000000032804867, .row (.cons .str .nil) true y3.2.2.2.1), (640512, .box [.val (.str y5.1), .val (.int .i64 y5.2.1), .val (.int .i64 y5.2.2.1), .ref 64000000000040992771]), (64000000000040992771, .row (.cons .str .nil) true y5.2.2.2.1)]⟩
noncomputable abbrev zq70.s25 (x0 : Int) (x1 : ByteArray) (x2 : TAnswer) (x3 : Int) (y3 : TREntryBool) (y4 : TAnswer) (y5 : TREntryBool) : V.St := ⟨[(0, .v false [.val (.int .i64 x0)]), (1, .v false [.val (.str x1)]), (3, .v false [.val (.int .i64 x3)]), (6, .v false [.ptr 64000 0]), (10, .v false [.ptr 512576 0]), (11, .v false [.val (.bool y3.2.2.2.2)]), (12, .v false [.ptr 576128 0]), (13, .v false [.ptr 640512 0]), (14, .v false [.val (.bool y5.2.2.2.2)])], [(64000, .box [.val (.sl V.eSigned x2.1), .val (.bool x2.2.1), .val (.str x2.2.2.1), .val (.int .i64 x2.2.2.2.1), .val (.int .i64 x2.2.2.2.2.1), .val (.sl (.cons .str .nil) x2.2.2.2.2.2.1), .val (.int .i64 x2.2.2.2.2.2.2.1), .val (.sl (.cons (.int .i64) .nil) x2.2.2.2.2.2.2.2.1), .val (.int .i64 x2.2.2.2.2.2.2.2.2.1), .val (.str x2.2.2.2.2.2.2.2.2.2.1), .val (.int .i64 x2.2.2.2.2.2.2.2.2.2.2.1), .val (.int .i64 x2.2.2.2.2.2.2.2.2.2.2.2.1), .val (.sl (.cons .str .nil) x2.2.2.2.2.2.2.2.2.2.2.2.2.1), .val (.str x2.2.2.2.2.2.2.2.2.2.2.2.2.2.1), .val (.int .i64 x2.2.2.2.2.2.2.2.2.2.2.2.2.2.2.1), .val (.int .i64 x2.2.2.2.2.2.2.2.2.2.2.2.2.2.2.2.1), .val (.sl (.cons .str .nil) x2.2.2.2.2.2.2.2.2.2.2.2.2.2.2.2.2.1), .val (.int .i64 x2.2.2.2.2.2.2.2.2.2.2.2.2.2.2.2.2.2.1), .val (.sl (.cons (.int .i64) .nil) x2.2.2.2.2.2.2.2.2.2.2.2.2.2.2.2.2.2.2.1), .val (.int .i64 x2.2.2.2.2.2.2.2.2.2.2.2.2.2.2.2.2.2.2.2.1), .val (.sl (.cons (.int .i64) .nil) x2.2.2.2.2.2.2.2.2.2.2.2.2.2.2.2.2.2.2.2.2)]), (512576, .box [.val (.str y3.1), .val (.int .i64 y3.2.1), .val (.int .i64 y3.2.2.1), .ref 64000000000032804867]), (64000000000032804867, .row (.cons .str .nil) true y3.2.2.2.1), (576128, .box [.ref 64000000000036872192, .val (.bool y4.2.1), .val (.str y4.2.2.1), .val (.int .i64 y4.2.2.2.1), .val (.int .i64 y4.2.2.2.2.1), .ref 64000000000036872197, .val (.int .i64 y4.2.2.2.2.2.2.1), .ref 64000000000036872199, .val (.int .i64 y4.2.2.2.2.2.2.2.2.1), .val (.str y4.2.2.2.2.2.2.2.2.2.1), .val (.int .i64 y4.2.2.2.2.2.2.2.2.2.2.1), .val (.int .i64 y4.2.2.2.2.2.2.2.2.2.2.2.1), .ref 64000000000036872204, .val (.str y4.2.2.2.2.2.2.2.2.2.2.2.2.2.1), .val (.int .i64 y4.2.2.2.2.2.2.2.2.2.2.2.2.2.2.1), .val (.int .i64 y4.2.2.2.2.2.2.2.2.2.2.2.2.2.2.2.1), .ref 64000000000036872208, .val (.int .i64 y4.2.2.2.2.2.2.2.2.2.2.2.2.2.2.2.2.2.1), .ref 64000000000036872210, .val (.int .i64 y4.2.2.2.2.2.2.2.2.2.2.2.2.2.2.2.2.2.2.2.1), .ref 64000000000036872212]), (64000000000036872192, .row V.eSigned true y4.1), (64000000000036872197, .row (.cons .str .nil) true y4.2.2.2.2.2.1), (64000000000036872199, .row (.cons (.int .i64) .nil) true y4.2.2.2.2.2.2.2.1), (64000000000036872204, .row (.cons .str .nil) true y4.2.2.2.2.2.2.2.2.2.2.2.2.1), (64000000000036872208, .row (.cons .str .nil) true y4.2.2.2.2.2.2.2.2.2.2.2.2.2.2.2.2.1), (64000000000036872210, .row (.cons (.int .i64) .nil) true y4.2.2.2.2.2.2.2.2.2.2.2.2.2.2.2.2.2.2.1), (64000000000036872212, .row (.cons (.int .i64) .nil) true y4.2.2.2.2.2.2.2.2.2.2.2.2.2.2.2.2.2.2.2.2), (640512, .box [.val (.str y5.1), .val (.int .i64 y5.2.1), .val (.int .i64 y5.2.2.1), .ref 64000000000040992771]), (64000000000040992771, .row (.cons .str .nil) true y5.2.2.2.1)]⟩
theorem zq70.r59 (x0 : Int) (x1 : ByteArray) (x2 : TAnswer) (x3 : Int) (y11 : List ByteArray × Int) (y5 : TREntryBool) : V.joinF zq70.E Tryz.f12.ntmps [1, 1, 1, 1, 1, 1, 1, 1, 1, 1, 1, 1, 1, 1, 1, 1, 1, 1, 1, 1] [] (V.codeOf Tryz.f12) (zq70.kt x0 x1 x2 x3) (zq70.s59 y5 y11) = zq70.g59 y5 y11 := by kernel_rfl
theorem zq70.e59 (x0 : Int) (x1 : ByteArray) (x2 : TAnswer) (x3 : Int) (y11 : List ByteArray × Int) (y5 : TREntryBool) : V.jn (V.joinF zq70.E Tryz.f12.ntmps [1, 1, 1, 1, 1, 1, 1, 1, 1, 1, 1, 1, 1, 1, 1, 1, 1, 1, 1, 1] [] (V.codeOf Tryz.f12) (zq70.kt x0 x1 x2 x3)) (zq70.s59 y5 y11) = zq70.l59 y5 y11 := by
  rw [V.jn_eq, zq70.r59]
  rfl
theorem zq70.r37 (x0 : Int) (x1 : ByteArray) (x2 : TAnswer) (x3 : Int) (y3 : TREntryBool) (y5 : TREntryBool) : V.joinF zq70.E Tryz.f12.ntmps [1, 1, 1, 1, 1, 1, 1, 1, 1, 1, 1, 1] [] (V.codeOf Tryz.f12) (zq70.kt x0 x1 x2 x3) (zq70.s37 x0 x1 x2 x3 y3 y5) = zq70.g37 x0 x1 x2 x3 y3 y5 (fun y5 y11 => V.jn (V.joinF zq70.E Tryz.f12.ntmps [1, 1, 1, 1, 1, 1, 1, 1, 1, 1, 1, 1, 1, 1, 1, 1, 1, 1, 1, 1] [] (V.codeOf Tryz.f12) (zq70.kt x0 x1 x2 x3)) (zq70.s59 y5 y11)) := by kernel_rfl
theorem zq70.e37 (x0 : Int) (x1 : ByteArray) (x2 : TAnswer) (x3 : Int) (y3 : TREntryBool) (y5 : TREntryBool) : V.jn (V.joinF zq70.E Tryz.f12.ntmps [1, 1, 1, 1, 1, 1, 1, 1, 1, 1, 1, 1] [] (V.codeOf Tryz.f12) (zq70.kt x0 x1 x2 x3)) (zq70.s37 x0 x1 x2 x3 y3 y5) = zq70.l37 x0 x1 x2 x3 y3 y5 := by
  rw [V.jn_eq, zq70.r37]
  simp only [zq70.e59]
  rfl
theorem zq70.r25 (x0 : Int) (x1 : ByteArray) (x2 : TAnswer) (x3 : Int) (y3 : TREntryBool) (y4 : TAnswer) (y5 : TREntryBool) : V.joinF zq70.E Tryz.f12.ntmps [1, 1, 1, 1, 1, 1, 1, 1] [] (V.codeOf Tryz.f12) (zq70.kt x0 x1 x2 x3) (zq70.s25 x0 x1 x2 x3 y3 y4 y5) = zq70.g25 x0 x1 x2 x3 y3 y4 y5 (fun y3 y5 => V.jn (V.joinF zq70.E Tryz.f12.ntmps [1, 1, 1, 1, 1, 1, 1, 1, 1, 1, 1, 1] [] (V.codeOf Tryz.f12) (zq70.kt x0 x1 x2 x3)) (zq70.s37 x0 x1 x2 x3 y3 y5)) := by kernel_rfl
theorem zq70.e25 (x0 : Int) (x1 : ByteArray) (x2 : TAnswer) (x3 : Int) (y3 : TREntryBool) (y4 : TAnswer) (y5 : TREntryBool) : V.jn (V.joinF zq70.E Tryz.f12.ntmps [1, 1, 1, 1, 1, 1, 1, 1] [] (V.codeOf Tryz.f12) (zq70.kt x0 x1 x2 x3)) (zq70.s25 x0 x1 x2 x3 y3 y4 y5) = zq70.l25 x0 x1 x2 x3 y3 y4 y5 := by
  rw [V.jn_eq, zq70.r25]
  simp only [zq70.e37]
  rfl
noncomputable abbrev zq70.s (x0 : Int) (x1 : ByteArray) (x2 : TAnswer) (x3 : Int) : V.St := ⟨[(0, .v false [.val (.int .i64 x0)]), (1, .v false [.val (.str x1)]), (2, .v true [.val (.sl V.eSigned x2.1), .val (.bool x2.2.1), .val (.str x2.2.2.1), .val (.int .i64 x2.2.2.2.1), .val (.int .i64 x2.2.2.2.2.1), .val (.sl (.cons .str .nil) x2.2.2.2.2.2.1), .val (.int .i64 x2.2.2.2.2.2.2.1), .val (.sl (.cons (.int .i64) .nil) x2.2.2.2.2.2.2.2.1), .val (.int .i64 x2.2.2.2.2.2.2.2.2.1), .val (.str x2.2.2.2.2.2.2.2.2.2.1), .val (.int .i64 x2.2.2.2.2.2.2.2.2.2.2.1), .val (.int .i64 x2.2.2.2.2.2.2.2.2.2.2.2.1), .val (.sl (.cons .str .nil) x2.2.2.2.2.2.2.2.2.2.2.2.2.1), .val (.str x2.2.2.2.2.2.2.2.2.2.2.2.2.2.1), .val (.int .i64 x2.2.2.2.2.2.2.2.2.2.2.2.2.2.2.1), .val (.int .i64 x2.2.2.2.2.2.2.2.2.2.2.2.2.2.2.2.1), .val (.sl (.cons .str .nil) x2.2.2.2.2.2.2.2.2.2.2.2.2.2.2.2.2.1), .val (.int .i64 x2.2.2.2.2.2.2.2.2.2.2.2.2.2.2.2.2.2.1), .val (.sl (.cons (.int .i64) .nil) x2.2.2.2.2.2.2.2.2.2.2.2.2.2.2.2.2.2.2.1), .val (.int .i64 x2.2.2.2.2.2.2.2.2.2.2.2.2.2.2.2.2.2.2.2.1), .val (.sl (.cons (.int .i64) .nil) x2.2.2.2.2.2.2.2.2.2.2.2.2.2.2.2.2.2.2.2.2)]), (3, .v false [.val (.int .i64 x3)])], []⟩
theorem zq70.v0 (x0 : Int) (x1 : ByteArray) (x2 : TAnswer) (x3 : Int) : V.evBody zq70.E zq70.con Tryz.f12 (V.fl13 x0 x1 x2 x3) = V.evC zq70.E Tryz.f12.ntmps (V.codeOf Tryz.f12) (zq70.kt x0 x1 x2 x3) (zq70.s x0 x1 x2 x3) := by kernel_rfl
theorem zq70.v (x0 : Int) (x1 : ByteArray) (x2 : TAnswer) (x3 : Int) : V.evC zq70.E Tryz.f12.ntmps (V.codeOf Tryz.f12) (zq70.kt x0 x1 x2 x3) (zq70.s x0 x1 x2 x3) = zq70.b x0 x1 x2 x3 (fun y3 y4 y5 => V.jn (V.joinF zq70.E Tryz.f12.ntmps [1, 1, 1, 1, 1, 1, 1, 1] [] (V.codeOf Tryz.f12) (zq70.kt x0 x1 x2 x3)) (zq70.s25 x0 x1 x2 x3 y3 y4 y5)) := by kernel_rfl
theorem zq70.eq (x0 : Int) (x1 : ByteArray) (x2 : TAnswer) (x3 : Int) : V.evBody zq70.E zq70.con Tryz.f12 (V.fl13 x0 x1 x2 x3) = zq70 x0 x1 x2 x3 := by
  rw [zq70.v0, zq70.v]
  simp only [zq70.e25]
  rfl
theorem zq70.ok : V.Valid Tryz.prog 12 zq70.con :=
  V.fo (V.tab_cons zq94.ok (V.tab_cons zq105.ok (V.tab_cons zq71.ok (V.tab_cons zq133.ok (V.tab_cons zq7.ok (V.tab_cons zq72.ok (V.tab_cons zq85.ok (V.tab_cons zq86.ok (V.tab_cons zq83.ok V.tab_nil))))))))) Tryz.func12 (by kernel_rfl) (fun x y h => (show V.evBody zq70.E zq70.con Tryz.f12 x = _ from zq70.eq (V.p13_0 x) (V.p13_1 x) (V.p13_2 x) (V.p13_3 x)).trans (V.cfl (by kernel_rfl) h))
end Go.Proofs.YtpioofmdambjoaaGreat
