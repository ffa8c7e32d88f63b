/- That the functions compute it, part 1. -/
import Derived.Test.YtpioofmdambjoaaGreatXCheckAnswerWalk0
namespace Go.Proofs.YtpioofmdambjoaaGreat
set_option linter.unusedVariables false
set_option maxRecDepth 100000
noncomputable abbrev impl_judgeCode.con : V.Con := ⟨V.A9, (.cons (.int .i64) .nil), fun (x : V.D9) => impl_judgeCode (V.p9_0 x) (V.p9_1 x), [], [(true, 16), (true, 17)], [(false, 1)], [false], []⟩
noncomputable abbrev impl_judgeCode.E : V.Env := V.mkE V.tys [(208, impl_EqualKeys.con), (259, impl_NoKeys.con), (302, impl_Signed_isSignedBy.con), (310, impl_SameContents.con)] [(7, [2, 3, 5, 6], []), (13, [2, 3, 37], [])] [] [] [] []
noncomputable abbrev impl_judgeCode.kt (x0 : THead) (x1 : TSigned) : V.Kt Int := V.ktOf impl_judgeCode.E impl_judgeCode.con Tryz.f291 (V.fl9 x0 x1)
noncomputable abbrev impl_judgeCode.s13 (x0 : THead) (x1 : TSigned) (v13_0 : Bool) : V.St := ⟨[(2, .v false [.ptr 64000 0]), (3, .v false [.ptr 64064 0]), (37, .v false [.val (.bool v13_0)])], [(64000, .box [.val (.int .i64 x0.1), .val (.int .i64 x0.2.1), .val (.int .i64 x0.2.2.1), .val (.int .i64 x0.2.2.2.1), .val (.int .i64 x0.2.2.2.2.1), .val (.int .i64 x0.2.2.2.2.2.1), .val (.int .i64 x0.2.2.2.2.2.2.1), .val (.int .i64 x0.2.2.2.2.2.2.2.1), .val (.sl (.cons (.int .i64) .nil) x0.2.2.2.2.2.2.2.2.1), .val (.int .i64 x0.2.2.2.2.2.2.2.2.2.1), .val (.sl (.cons (.int .i64) .nil) x0.2.2.2.2.2.2.2.2.2.2.1), .val (.int .i64 x0.2.2.2.2.2.2.2.2.2.2.2.1), .val (.int .i64 x0.2.2.2.2.2.2.2.2.2.2.2.2.1), .val (.sl (.cons (.int .i64) .nil) x0.2.2.2.2.2.2.2.2.2.2.2.2.2.1), .val (.int .i64 x0.2.2.2.2.2.2.2.2.2.2.2.2.2.2.1), .val (.bool x0.2.2.2.2.2.2.2.2.2.2.2.2.2.2.2)]), (64064, .box [.val (.int .i64 x1.1), .val (.int .i64 x1.2.1), .val (.int .i64 x1.2.2.1), .val (.int .i64 x1.2.2.2.1), .val (.int .i64 x1.2.2.2.2.1), .val (.int .i64 x1.2.2.2.2.2.1), .val (.int .i64 x1.2.2.2.2.2.2.1), .val (.int .i64 x1.2.2.2.2.2.2.2.1), .val (.sl (.cons (.int .i64) .nil) x1.2.2.2.2.2.2.2.2.1), .val (.int .i64 x1.2.2.2.2.2.2.2.2.2.1), .val (.sl (.cons (.int .i64) .nil) x1.2.2.2.2.2.2.2.2.2.2.1), .val (.int .i64 x1.2.2.2.2.2.2.2.2.2.2.2.1), .val (.int .i64 x1.2.2.2.2.2.2.2.2.2.2.2.2.1), .val (.sl (.cons (.int .i64) .nil) x1.2.2.2.2.2.2.2.2.2.2.2.2.2.1), .val (.int .i64 x1.2.2.2.2.2.2.2.2.2.2.2.2.2.2.1), .val (.bool x1.2.2.2.2.2.2.2.2.2.2.2.2.2.2.2.1), .val (.sl (.cons (.int .i64) (.cons (.int .i64) .nil)) x1.2.2.2.2.2.2.2.2.2.2.2.2.2.2.2.2)])]⟩
noncomputable abbrev impl_judgeCode.s7 (x0 : THead) (x1 : TSigned) (v7_0 : Bool) : V.St := ⟨[(2, .v false [.ptr 64000 0]), (3, .v false [.ptr 64064 0]), (5, .v false [.ptr 128128 0]), (6, .v false [.val (.bool v7_0)])], [(64000, .box [.val (.int .i64 x0.1), .val (.int .i64 x0.2.1), .val (.int .i64 x0.2.2.1), .val (.int .i64 x0.2.2.2.1), .val (.int .i64 x0.2.2.2.2.1), .val (.int .i64 x0.2.2.2.2.2.1), .val (.int .i64 x0.2.2.2.2.2.2.1), .val (.int .i64 x0.2.2.2.2.2.2.2.1), .val (.sl (.cons (.int .i64) .nil) x0.2.2.2.2.2.2.2.2.1), .val (.int .i64 x0.2.2.2.2.2.2.2.2.2.1), .val (.sl (.cons (.int .i64) .nil) x0.2.2.2.2.2.2.2.2.2.2.1), .val (.int .i64 x0.2.2.2.2.2.2.2.2.2.2.2.1), .val (.int .i64 x0.2.2.2.2.2.2.2.2.2.2.2.2.1), .val (.sl (.cons (.int .i64) .nil) x0.2.2.2.2.2.2.2.2.2.2.2.2.2.1), .val (.int .i64 x0.2.2.2.2.2.2.2.2.2.2.2.2.2.2.1), .val (.bool x0.2.2.2.2.2.2.2.2.2.2.2.2.2.2.2)]), (64064, .box [.val (.int .i64 x1.1), .val (.int .i64 x1.2.1), .val (.int .i64 x1.2.2.1), .val (.int .i64 x1.2.2.2.1), .val (.int .i64 x1.2.2.2.2.1), .val (.int .i64 x1.2.2.2.2.2.1), .val (.int .i64 x1.2.2.2.2.2.2.1), .val (.int .i64 x1.2.2.2.2.2.2.2.1), .val (.sl (.cons (.int .i64) .nil) x1.2.2.2.2.2.2.2.2.1), .val (.int .i64 x1.2.2.2.2.2.2.2.2.2.1), .val (.sl (.cons (.int .i64) .nil) x1.2.2.2.2.2.2.2.2.2.2.1), .val (.int .i64 x1.2.2.2.2.2.2.2.2.2.2.2.1), .val (.int .i64 x1.2.2.2.2.2.2.2.2.2.2.2.2.1), .val (.sl (.cons (.int .i64) .nil) x1.2.2.2.2.2.2.2.2.2.2.2.2.2.1), .val (.int .i64 x1.2.2.2.2.2.2.2.2.2.2.2.2.2.2.1), .val (.bool x1.2.2.2.2.2.2.2.2.2.2.2.2.2.2.2.1), .val (.sl (.cons (.int .i64) (.cons (.int .i64) .nil)) x1.2.2.2.2.2.2.2.2.2.2.2.2.2.2.2.2)]), (128128, .box [.val (.int .i64 x1.1), .val (.int .i64 x1.2.1), .val (.int .i64 x1.2.2.1), .val (.int .i64 x1.2.2.2.1), .val (.int .i64 x1.2.2.2.2.1), .val (.int .i64 x1.2.2.2.2.2.1), .val (.int .i64 x1.2.2.2.2.2.2.1), .val (.int .i64 x1.2.2.2.2.2.2.2.1), .val (.sl (.cons (.int .i64) .nil) x1.2.2.2.2.2.2.2.2.1), .val (.int .i64 x1.2.2.2.2.2.2.2.2.2.1), .val (.sl (.cons (.int .i64) .nil) x1.2.2.2.2.2.2.2.2.2.2.1), .val (.int .i64 x1.2.2.2.2.2.2.2.2.2.2.2.1), .val (.int .i64 x1.2.2.2.2.2.2.2.2.2.2.2.2.1), .val (.sl (.cons (.int .i64) .nil) x1.2.2.2.2.2.2.2.2.2.2.2.2.2.1), .val (.int .i64 x1.2.2.2.2.2.2.2.2.2.2.2.2.2.2.1), .val (.bool x1.2.2.2.2.2.2.2.2.2.2.2.2.2.2.2.1)])]⟩
theorem impl_judgeCode.r13 (x0 : THead) (x1 : TSigned) (v13_0 : Bool) : V.joinF impl_judgeCode.E Tryz.f291.ntmps [1, 1, 1, 0, 0, 1, 1] [] (V.codeOf Tryz.f291) (impl_judgeCode.kt x0 x1) (impl_judgeCode.s13 x0 x1 v13_0) = impl_judgeCode.g13 x0 x1 v13_0 := by kernel_rfl
theorem impl_judgeCode.e13 (x0 : THead) (x1 : TSigned) (v13_0 : Bool) : V.jn (V.joinF impl_judgeCode.E Tryz.f291.ntmps [1, 1, 1, 0, 0, 1, 1] [] (V.codeOf Tryz.f291) (impl_judgeCode.kt x0 x1)) (impl_judgeCode.s13 x0 x1 v13_0) = impl_judgeCode.l13 x0 x1 v13_0 := by
  rw [V.jn_eq, impl_judgeCode.r13]
  rfl
theorem impl_judgeCode.r7 (x0 : THead) (x1 : TSigned) (v7_0 : Bool) : V.joinF impl_judgeCode.E Tryz.f291.ntmps [1, 1] [] (V.codeOf Tryz.f291) (impl_judgeCode.kt x0 x1) (impl_judgeCode.s7 x0 x1 v7_0) = impl_judgeCode.g7 x0 x1 (fun v13_0 => V.jn (V.joinF impl_judgeCode.E Tryz.f291.ntmps [1, 1, 1, 0, 0, 1, 1] [] (V.codeOf Tryz.f291) (impl_judgeCode.kt x0 x1)) (impl_judgeCode.s13 x0 x1 v13_0)) v7_0 := by kernel_rfl
theorem impl_judgeCode.e7 (x0 : THead) (x1 : TSigned) (v7_0 : Bool) : V.jn (V.joinF impl_judgeCode.E Tryz.f291.ntmps [1, 1] [] (V.codeOf Tryz.f291) (impl_judgeCode.kt x0 x1)) (impl_judgeCode.s7 x0 x1 v7_0) = impl_judgeCode.l7 x0 x1 v7_0 := by
  rw [V.jn_eq, impl_judgeCode.r7]
  simp only [impl_judgeCode.e13]
  rfl
noncomputable abbrev impl_judgeCode.s (x0 : THead) (x1 : TSigned) : V.St := ⟨[(0, .v true [.val (.int .i64 x0.1), .val (.int .i64 x0.2.1), .val (.int .i64 x0.2.2.1), .val (.int .i64 x0.2.2.2.1), .val (.int .i64 x0.2.2.2.2.1), .val (.int .i64 x0.2.2.2.2.2.1), .val (.int .i64 x0.2.2.2.2.2.2.1), .val (.int .i64 x0.2.2.2.2.2.2.2.1), .val (.sl (.cons (.int .i64) .nil) x0.2.2.2.2.2.2.2.2.1), .val (.int .i64 x0.2.2.2.2.2.2.2.2.2.1), .val (.sl (.cons (.int .i64) .nil) x0.2.2.2.2.2.2.2.2.2.2.1), .val (.int .i64 x0.2.2.2.2.2.2.2.2.2.2.2.1), .val (.int .i64 x0.2.2.2.2.2.2.2.2.2.2.2.2.1), .val (.sl (.cons (.int .i64) .nil) x0.2.2.2.2.2.2.2.2.2.2.2.2.2.1), .val (.int .i64 x0.2.2.2.2.2.2.2.2.2.2.2.2.2.2.1), .val (.bool x0.2.2.2.2.2.2.2.2.2.2.2.2.2.2.2)]), (1, .v true [.val (.int .i64 x1.1), .val (.int .i64 x1.2.1), .val (.int .i64 x1.2.2.1), .val (.int .i64 x1.2.2.2.1), .val (.int .i64 x1.2.2.2.2.1), .val (.int .i64 x1.2.2.2.2.2.1), .val (.int .i64 x1.2.2.2.2.2.2.1), .val (.int .i64 x1.2.2.2.2.2.2.2.1), .val (.sl (.cons (.int .i64) .nil) x1.2.2.2.2.2.2.2.2.1), .val (.int .i64 x1.2.2.2.2.2.2.2.2.2.1), .val (.sl (.cons (.int .i64) .nil) x1.2.2.2.2.2.2.2.2.2.2.1), .val (.int .i64 x1.2.2.2.2.2.2.2.2.2.2.2.1), .val (.int .i64 x1.2.2.2.2.2.2.2.2.2.2.2.2.1), .val (.sl (.cons (.int .i64) .nil) x1.2.2.2.2.2.2.2.2.2.2.2.2.2.1), .val (.int .i64 x1.2.2.2.2.2.2.2.2.2.2.2.2.2.2.1), .val (.bool x1.2.2.2.2.2.2.2.2.2.2.2.2.2.2.2.1), .val (.sl (.cons (.int .i64) (.cons (.int .i64) .nil)) x1.2.2.2.2.2.2.2.2.2.2.2.2.2.2.2.2)])], []⟩
theorem impl_judgeCode.v0 (x0 : THead) (x1 : TSigned) : V.evBody impl_judgeCode.E impl_judgeCode.con Tryz.f291 (V.fl9 x0 x1) = V.evC impl_judgeCode.E Tryz.f291.ntmps (V.codeOf Tryz.f291) (impl_judgeCode.kt x0 x1) (impl_judgeCode.s x0 x1) := by kernel_rfl
theorem impl_judgeCode.v (x0 : THead) (x1 : TSigned) : V.evC impl_judgeCode.E Tryz.f291.ntmps (V.codeOf Tryz.f291) (impl_judgeCode.kt x0 x1) (impl_judgeCode.s x0 x1) = impl_judgeCode.b x0 x1 (fun v7_0 => V.jn (V.joinF impl_judgeCode.E Tryz.f291.ntmps [1, 1] [] (V.codeOf Tryz.f291) (impl_judgeCode.kt x0 x1)) (impl_judgeCode.s7 x0 x1 v7_0)) := by kernel_rfl
theorem impl_judgeCode.eq (x0 : THead) (x1 : TSigned) : V.evBody impl_judgeCode.E impl_judgeCode.con Tryz.f291 (V.fl9 x0 x1) = impl_judgeCode x0 x1 := by
  rw [impl_judgeCode.v0, impl_judgeCode.v]
  simp only [impl_judgeCode.e7]
  rfl
theorem impl_judgeCode.ok : V.Valid Tryz.prog 291 impl_judgeCode.con :=
  V.fo (V.tab_cons impl_EqualKeys.ok (V.tab_cons impl_NoKeys.ok (V.tab_cons impl_Signed_isSignedBy.ok (V.tab_cons impl_SameContents.ok V.tab_nil)))) Tryz.func291 (by kernel_rfl) (fun x y h => (show V.evBody impl_judgeCode.E impl_judgeCode.con Tryz.f291 x = _ from impl_judgeCode.eq (V.p9_0 x) (V.p9_1 x)).trans (V.cfl (by kernel_rfl) h))
noncomputable abbrev impl_NextCode.con : V.Con := ⟨V.A9, (.cons (.int .i64) .nil), fun (x : V.D9) => impl_NextCode (V.p9_0 x) (V.p9_1 x), [], [(true, 16), (true, 17)], [(false, 1)], [false], []⟩
noncomputable abbrev impl_NextCode.E : V.Env := V.mkE V.tys [(194, impl_IsHead.con), (288, impl_isNext.con), (289, impl_ownerCode.con), (290, impl_heirCode.con), (291, impl_judgeCode.con)] [(5, [2, 3, 5], [])] [] [] [] []
noncomputable abbrev impl_NextCode.kt (x0 : THead) (x1 : TSigned) : V.Kt Int := V.ktOf impl_NextCode.E impl_NextCode.con Tryz.f244 (V.fl9 x0 x1)
noncomputable abbrev impl_NextCode.s5 (x0 : THead) (x1 : TSigned) (v5_0 : Bool) : V.St := ⟨[(2, .v false [.ptr 64000 0]), (3, .v false [.ptr 64064 0]), (5, .v false [.val (.bool v5_0)])], [(64000, .box [.val (.int .i64 x0.1), .val (.int .i64 x0.2.1), .val (.int .i64 x0.2.2.1), .val (.int .i64 x0.2.2.2.1), .val (.int .i64 x0.2.2.2.2.1), .val (.int .i64 x0.2.2.2.2.2.1), .val (.int .i64 x0.2.2.2.2.2.2.1), .val (.int .i64 x0.2.2.2.2.2.2.2.1), .val (.sl (.cons (.int .i64) .nil) x0.2.2.2.2.2.2.2.2.1), .val (.int .i64 x0.2.2.2.2.2.2.2.2.2.1), .val (.sl (.cons (.int .i64) .nil) x0.2.2.2.2.2.2.2.2.2.2.1), .val (.int .i64 x0.2.2.2.2.2.2.2.2.2.2.2.1), .val (.int .i64 x0.2.2.2.2.2.2.2.2.2.2.2.2.1), .val (.sl (.cons (.int .i64) .nil) x0.2.2.2.2.2.2.2.2.2.2.2.2.2.1), .val (.int .i64 x0.2.2.2.2.2.2.2.2.2.2.2.2.2.2.1), .val (.bool x0.2.2.2.2.2.2.2.2.2.2.2.2.2.2.2)]), (64064, .box [.val (.int .i64 x1.1), .val (.int .i64 x1.2.1), .val (.int .i64 x1.2.2.1), .val (.int .i64 x1.2.2.2.1), .val (.int .i64 x1.2.2.2.2.1), .val (.int .i64 x1.2.2.2.2.2.1), .val (.int .i64 x1.2.2.2.2.2.2.1), .val (.int .i64 x1.2.2.2.2.2.2.2.1), .val (.sl (.cons (.int .i64) .nil) x1.2.2.2.2.2.2.2.2.1), .val (.int .i64 x1.2.2.2.2.2.2.2.2.2.1), .val (.sl (.cons (.int .i64) .nil) x1.2.2.2.2.2.2.2.2.2.2.1), .val (.int .i64 x1.2.2.2.2.2.2.2.2.2.2.2.1), .val (.int .i64 x1.2.2.2.2.2.2.2.2.2.2.2.2.1), .val (.sl (.cons (.int .i64) .nil) x1.2.2.2.2.2.2.2.2.2.2.2.2.2.1), .val (.int .i64 x1.2.2.2.2.2.2.2.2.2.2.2.2.2.2.1), .val (.bool x1.2.2.2.2.2.2.2.2.2.2.2.2.2.2.2.1), .val (.sl (.cons (.int .i64) (.cons (.int .i64) .nil)) x1.2.2.2.2.2.2.2.2.2.2.2.2.2.2.2.2)])]⟩
theorem impl_NextCode.r5 (x0 : THead) (x1 : TSigned) (v5_0 : Bool) : V.joinF impl_NextCode.E Tryz.f244.ntmps [1, 0, 0] [] (V.codeOf Tryz.f244) (impl_NextCode.kt x0 x1) (impl_NextCode.s5 x0 x1 v5_0) = impl_NextCode.g5 x0 x1 v5_0 := by kernel_rfl
theorem impl_NextCode.e5 (x0 : THead) (x1 : TSigned) (v5_0 : Bool) : V.jn (V.joinF impl_NextCode.E Tryz.f244.ntmps [1, 0, 0] [] (V.codeOf Tryz.f244) (impl_NextCode.kt x0 x1)) (impl_NextCode.s5 x0 x1 v5_0) = impl_NextCode.l5 x0 x1 v5_0 := by
  rw [V.jn_eq, impl_NextCode.r5]
  rfl
noncomputable abbrev impl_NextCode.s (x0 : THead) (x1 : TSigned) : V.St := ⟨[(0, .v true [.val (.int .i64 x0.1), .val (.int .i64 x0.2.1), .val (.int .i64 x0.2.2.1), .val (.int .i64 x0.2.2.2.1), .val (.int .i64 x0.2.2.2.2.1), .val (.int .i64 x0.2.2.2.2.2.1), .val (.int .i64 x0.2.2.2.2.2.2.1), .val (.int .i64 x0.2.2.2.2.2.2.2.1), .val (.sl (.cons (.int .i64) .nil) x0.2.2.2.2.2.2.2.2.1), .val (.int .i64 x0.2.2.2.2.2.2.2.2.2.1), .val (.sl (.cons (.int .i64) .nil) x0.2.2.2.2.2.2.2.2.2.2.1), .val (.int .i64 x0.2.2.2.2.2.2.2.2.2.2.2.1), .val (.int .i64 x0.2.2.2.2.2.2.2.2.2.2.2.2.1), .val (.sl (.cons (.int .i64) .nil) x0.2.2.2.2.2.2.2.2.2.2.2.2.2.1), .val (.int .i64 x0.2.2.2.2.2.2.2.2.2.2.2.2.2.2.1), .val (.bool x0.2.2.2.2.2.2.2.2.2.2.2.2.2.2.2)]), (1, .v true [.val (.int .i64 x1.1), .val (.int .i64 x1.2.1), .val (.int .i64 x1.2.2.1), .val (.int .i64 x1.2.2.2.1), .val (.int .i64 x1.2.2.2.2.1), .val (.int .i64 x1.2.2.2.2.2.1), .val (.int .i64 x1.2.2.2.2.2.2.1), .val (.int .i64 x1.2.2.2.2.2.2.2.1), .val (.sl (.cons (.int .i64) .nil) x1.2.2.2.2.2.2.2.2.1), .val (.int .i64 x1.2.2.2.2.2.2.2.2.2.1), .val (.sl (.cons (.int .i64) .nil) x1.2.2.2.2.2.2.2.2.2.2.1), .val (.int .i64 x1.2.2.2.2.2.2.2.2.2.2.2.1), .val (.int .i64 x1.2.2.2.2.2.2.2.2.2.2.2.2.1), .val (.sl (.cons (.int .i64) .nil) x1.2.2.2.2.2.2.2.2.2.2.2.2.2.1), .val (.int .i64 x1.2.2.2.2.2.2.2.2.2.2.2.2.2.2.1), .val (.bool x1.2.2.2.2.2.2.2.2.2.2.2.2.2.2.2.1), .val (.sl (.cons (.int .i64) (.cons (.int .i64) .nil)) x1.2.2.2.2.2.2.2.2.2.2.2.2.2.2.2.2)])], []⟩
theorem impl_NextCode.v0 (x0 : THead) (x1 : TSigned) : V.evBody impl_NextCode.E impl_NextCode.con Tryz.f244 (V.fl9 x0 x1) = V.evC impl_NextCode.E Tryz.f244.ntmps (V.codeOf Tryz.f244) (impl_NextCode.kt x0 x1) (impl_NextCode.s x0 x1) := by kernel_rfl
theorem impl_NextCode.v (x0 : THead) (x1 : TSigned) : V.evC impl_NextCode.E Tryz.f244.ntmps (V.codeOf Tryz.f244) (impl_NextCode.kt x0 x1) (impl_NextCode.s x0 x1) = impl_NextCode.b x0 x1 (fun v5_0 => V.jn (V.joinF impl_NextCode.E Tryz.f244.ntmps [1, 0, 0] [] (V.codeOf Tryz.f244) (impl_NextCode.kt x0 x1)) (impl_NextCode.s5 x0 x1 v5_0)) := by kernel_rfl
theorem impl_NextCode.eq (x0 : THead) (x1 : TSigned) : V.evBody impl_NextCode.E impl_NextCode.con Tryz.f244 (V.fl9 x0 x1) = impl_NextCode x0 x1 := by
  rw [impl_NextCode.v0, impl_NextCode.v]
  simp only [impl_NextCode.e5]
  rfl
theorem impl_NextCode.ok : V.Valid Tryz.prog 244 impl_NextCode.con :=
  V.fo (V.tab_cons impl_IsHead.ok (V.tab_cons impl_isNext.ok (V.tab_cons impl_ownerCode.ok (V.tab_cons impl_heirCode.ok (V.tab_cons impl_judgeCode.ok V.tab_nil))))) Tryz.func244 (by kernel_rfl) (fun x y h => (show V.evBody impl_NextCode.E impl_NextCode.con Tryz.f244 x = _ from impl_NextCode.eq (V.p9_0 x) (V.p9_1 x)).trans (V.cfl (by kernel_rfl) h))
noncomputable abbrev impl_MayFollow.con : V.Con := ⟨V.A9, (.cons .bool .nil), fun (x : V.D9) => impl_MayFollow (V.p9_0 x) (V.p9_1 x), [], [(true, 16), (true, 17)], [(false, 1)], [false], []⟩
noncomputable abbrev impl_MayFollow.E : V.Env := V.mkE V.tys [(244, impl_NextCode.con)] [] [] [] [] []
noncomputable abbrev impl_MayFollow.kt (x0 : THead) (x1 : TSigned) : V.Kt Bool := V.ktOf impl_MayFollow.E impl_MayFollow.con Tryz.f269 (V.fl9 x0 x1)
noncomputable abbrev impl_MayFollow.s (x0 : THead) (x1 : TSigned) : V.St := ⟨[(0, .v true [.val (.int .i64 x0.1), .val (.int .i64 x0.2.1), .val (.int .i64 x0.2.2.1), .val (.int .i64 x0.2.2.2.1), .val (.int .i64 x0.2.2.2.2.1), .val (.int .i64 x0.2.2.2.2.2.1), .val (.int .i64 x0.2.2.2.2.2.2.1), .val (.int .i64 x0.2.2.2.2.2.2.2.1), .val (.sl (.cons (.int .i64) .nil) x0.2.2.2.2.2.2.2.2.1), .val (.int .i64 x0.2.2.2.2.2.2.2.2.2.1), .val (.sl (.cons (.int .i64) .nil) x0.2.2.2.2.2.2.2.2.2.2.1), .val (.int .i64 x0.2.2.2.2.2.2.2.2.2.2.2.1), .val (.int .i64 x0.2.2.2.2.2.2.2.2.2.2.2.2.1), .val (.sl (.cons (.int .i64) .nil) x0.2.2.2.2.2.2.2.2.2.2.2.2.2.1), .val (.int .i64 x0.2.2.2.2.2.2.2.2.2.2.2.2.2.2.1), .val (.bool x0.2.2.2.2.2.2.2.2.2.2.2.2.2.2.2)]), (1, .v true [.val (.int .i64 x1.1), .val (.int .i64 x1.2.1), .val (.int .i64 x1.2.2.1), .val (.int .i64 x1.2.2.2.1), .val (.int .i64 x1.2.2.2.2.1), .val (.int .i64 x1.2.2.2.2.2.1), .val (.int .i64 x1.2.2.2.2.2.2.1), .val (.int .i64 x1.2.2.2.2.2.2.2.1), .val (.sl (.cons (.int .i64) .nil) x1.2.2.2.2.2.2.2.2.1), .val (.int .i64 x1.2.2.2.2.2.2.2.2.2.1), .val (.sl (.cons (.int .i64) .nil) x1.2.2.2.2.2.2.2.2.2.2.1), .val (.int .i64 x1.2.2.2.2.2.2.2.2.2.2.2.1), .val (.int .i64 x1.2.2.2.2.2.2.2.2.2.2.2.2.1), .val (.sl (.cons (.int .i64) .nil) x1.2.2.2.2.2.2.2.2.2.2.2.2.2.1), .val (.int .i64 x1.2.2.2.2.2.2.2.2.2.2.2.2.2.2.1), .val (.bool x1.2.2.2.2.2.2.2.2.2.2.2.2.2.2.2.1), .val (.sl (.cons (.int .i64) (.cons (.int .i64) .nil)) x1.2.2.2.2.2.2.2.2.2.2.2.2.2.2.2.2)])], []⟩
theorem impl_MayFollow.v0 (x0 : THead) (x1 : TSigned) : V.evBody impl_MayFollow.E impl_MayFollow.con Tryz.f269 (V.fl9 x0 x1) = V.evC impl_MayFollow.E Tryz.f269.ntmps (V.codeOf Tryz.f269) (impl_MayFollow.kt x0 x1) (impl_MayFollow.s x0 x1) := by kernel_rfl
theorem impl_MayFollow.v (x0 : THead) (x1 : TSigned) : V.evC impl_MayFollow.E Tryz.f269.ntmps (V.codeOf Tryz.f269) (impl_MayFollow.kt x0 x1) (impl_MayFollow.s x0 x1) = impl_MayFollow x0 x1 := by kernel_rfl
theorem impl_MayFollow.eq (x0 : THead) (x1 : TSigned) : V.evBody impl_MayFollow.E impl_MayFollow.con Tryz.f269 (V.fl9 x0 x1) = impl_MayFollow x0 x1 := (impl_MayFollow.v0 x0 x1).trans (impl_MayFollow.v x0 x1)
theorem impl_MayFollow.ok : V.Valid Tryz.prog 269 impl_MayFollow.con :=
  V.fo (V.tab_cons impl_NextCode.ok V.tab_nil) Tryz.func269 (by kernel_rfl) (fun x y h => (show V.evBody impl_MayFollow.E impl_MayFollow.con Tryz.f269 x = _ from impl_MayFollow.eq (V.p9_0 x) (V.p9_1 x)).trans (V.cfl (by kernel_rfl) h))
noncomputable abbrev impl_FirstWrong.con : V.Con := ⟨(.cons (.sl V.eSigned) .nil), (.cons (.int .i64) .nil), fun (x : List TSigned) => impl_FirstWrong x, [], [(false, 1)], [(false, 1)], [false], []⟩
noncomputable abbrev impl_FirstWrong.E : V.Env := V.mkE V.tys [(268, impl_IsFirst.con), (269, impl_MayFollow.con)] [(4, [0, 5, 6, 7], [])] [(4, 18)] [] [] []
noncomputable abbrev impl_FirstWrong.kt (x0 : List TSigned) : V.Kt Int := V.ktOf impl_FirstWrong.E impl_FirstWrong.con Tryz.f207 ((x0) : List TSigned)
noncomputable abbrev impl_FirstWrong.s4 (x0 : List TSigned) (v4_2 : Int) (v4_3 : Int) : V.St := ⟨[(0, .v false [.val (.sl V.eSigned x0)]), (5, .v false [.val (.sl V.eSigned x0)]), (6, .v false [.val (.int .i64 v4_2)]), (7, .v false [.val (.int .i64 v4_3)])], []⟩
theorem impl_FirstWrong.r4 (x0 : List TSigned) (R : V.St → Option Int) (v4_2 : Int) (v4_3 : Int) : V.loopF impl_FirstWrong.E Tryz.f207.ntmps [1, 0, 1, 0] [] (V.codeOf Tryz.f207) (impl_FirstWrong.kt x0) R (impl_FirstWrong.s4 x0 v4_2 v4_3) = impl_FirstWrong.g4 x0 (fun v4_2 v4_3 => R (impl_FirstWrong.s4 x0 v4_2 v4_3)) v4_2 v4_3 := by kernel_rfl
theorem impl_FirstWrong.e4 (x0 : List TSigned) : ∀ (n : Nat) (v4_2 : Int) (v4_3 : Int), V.loopN (V.loopF impl_FirstWrong.E Tryz.f207.ntmps [1, 0, 1, 0] [] (V.codeOf Tryz.f207) (impl_FirstWrong.kt x0)) n (impl_FirstWrong.s4 x0 v4_2 v4_3) = impl_FirstWrong.l4 x0 n v4_2 v4_3 := by
  intro n
  induction n with
  | zero => intros; rw [V.loopN_z]; rfl
  | succ n ih =>
    intro v4_2 v4_3
    rw [V.loopN_s, impl_FirstWrong.r4]
    simp only [ih]
    first | exact (impl_FirstWrong.u4 ..).symm | rfl
theorem impl_FirstWrong.v (x0 : List TSigned) : V.evBody impl_FirstWrong.E impl_FirstWrong.con Tryz.f207 ((x0) : List TSigned) = impl_FirstWrong.b x0 (fun v4_2 v4_3 => V.loopN (V.loopF impl_FirstWrong.E Tryz.f207.ntmps [1, 0, 1, 0] [] (V.codeOf Tryz.f207) (impl_FirstWrong.kt x0)) V.KK (impl_FirstWrong.s4 x0 v4_2 v4_3)) := by kernel_rfl
theorem impl_FirstWrong.eq (x0 : List TSigned) : V.evBody impl_FirstWrong.E impl_FirstWrong.con Tryz.f207 ((x0) : List TSigned) = impl_FirstWrong x0 := by
  rw [impl_FirstWrong.v]
  simp only [impl_FirstWrong.e4]
  rfl
theorem impl_FirstWrong.ok : V.Valid Tryz.prog 207 impl_FirstWrong.con :=
  V.fo (V.tab_cons impl_IsFirst.ok (V.tab_cons impl_MayFollow.ok V.tab_nil)) Tryz.func207 (by kernel_rfl) (fun x y h => (show V.evBody impl_FirstWrong.E impl_FirstWrong.con Tryz.f207 x = _ from impl_FirstWrong.eq x).trans (V.cfl (by kernel_rfl) h))
noncomputable abbrev impl_IsChain.con : V.Con := ⟨(.cons (.sl V.eSigned) .nil), (.cons .bool .nil), fun (x : List TSigned) => impl_IsChain x, [], [(false, 1)], [(false, 1)], [false], []⟩
noncomputable abbrev impl_IsChain.E : V.Env := V.mkE V.tys [(151, impl_InRange.con), (207, impl_FirstWrong.con)] [] [] [] [] []
theorem impl_IsChain.eq (x0 : List TSigned) : V.evBody impl_IsChain.E impl_IsChain.con Tryz.f104 ((x0) : List TSigned) = impl_IsChain x0 := by kernel_rfl
theorem impl_IsChain.ok : V.Valid Tryz.prog 104 impl_IsChain.con :=
  V.fo (V.tab_cons impl_InRange.ok (V.tab_cons impl_FirstWrong.ok V.tab_nil)) Tryz.func104 (by kernel_rfl) (fun x y h => (show V.evBody impl_IsChain.E impl_IsChain.con Tryz.f104 x = _ from impl_IsChain.eq x).trans (V.cfl (by kernel_rfl) h))
noncomputable abbrev impl_last.con : V.Con := ⟨(.cons (.sl V.eSigned) .nil), V.eHead, fun (x : List TSigned) => impl_last x, [], [(false, 1)], [(true, 16)], [false, false, false, false, false, false, false, false, false, false, false, false, false, false, false, false], []⟩
noncomputable abbrev impl_last.E : V.Env := V.mkE V.tys [] [] [] [] [] []
theorem impl_last.eq (x0 : List TSigned) : V.evBody impl_last.E impl_last.con Tryz.f130 ((x0) : List TSigned) = impl_last x0 := by kernel_rfl
theorem impl_last.ok : V.Valid Tryz.prog 130 impl_last.con :=
  V.fo V.tab_nil Tryz.func130 (by kernel_rfl) (fun x y h => (show V.evBody impl_last.E impl_last.con Tryz.f130 x = _ from impl_last.eq x).trans (V.cfl (by kernel_rfl) h))
noncomputable abbrev slices_Clone_int.con : V.Con := ⟨(.cons (.sl (.cons (.int .i64) .nil)) .nil), (.cons (.sl (.cons (.int .i64) .nil)) .nil), fun (x : List Int) => slices_Clone_int x, [], [(false, 1)], [(false, 1)], [true], []⟩
noncomputable abbrev slices_Clone_int.E : V.Env := V.mkE V.tys [] [] [] [] [] []
theorem slices_Clone_int.eq (x0 : List Int) : V.evBody slices_Clone_int.E slices_Clone_int.con Tryz.f275 ((x0) : List Int) = slices_Clone_int x0 := by kernel_rfl
theorem slices_Clone_int.ok : V.Valid Tryz.prog 275 slices_Clone_int.con :=
  V.fo V.tab_nil Tryz.func275 (by kernel_rfl) (fun x y h => (show V.evBody slices_Clone_int.E slices_Clone_int.con Tryz.f275 x = _ from slices_Clone_int.eq x).trans (V.cfl (by kernel_rfl) h))
noncomputable abbrev impl_copyKeys.con : V.Con := ⟨(.cons (.sl (.cons (.int .i64) .nil)) (.cons (.int .i64) .nil)), (.cons (.sl (.cons (.int .i64) .nil)) (.cons (.int .i64) .nil)), fun (x : List Int × Int) => impl_copyKeys x, [], [(true, 2)], [(true, 2)], [true, false], []⟩
noncomputable abbrev impl_copyKeys.E : V.Env := V.mkE V.tys [(275, slices_Clone_int.con)] [] [(1, 5)] [] [] []
theorem impl_copyKeys.eq (x0 : TKeys) : V.evBody impl_copyKeys.E impl_copyKeys.con Tryz.f228 ((x0.1, x0.2) : List Int × Int) = impl_copyKeys x0 := by kernel_rfl
theorem impl_copyKeys.ok : V.Valid Tryz.prog 228 impl_copyKeys.con :=
  V.fo (V.tab_cons slices_Clone_int.ok V.tab_nil) Tryz.func228 (by kernel_rfl) (fun x y h => (show V.evBody impl_copyKeys.E impl_copyKeys.con Tryz.f228 x = _ from impl_copyKeys.eq x).trans (V.cfl (by kernel_rfl) h))
noncomputable abbrev impl_copyHead.con : V.Con := ⟨V.A4, V.eHead, fun (x : V.D4) => impl_copyHead (V.p4_0 x), [], [(true, 16)], [(true, 16)], [false, false, false, false, false, false, false, false, true, false, true, false, false, true, false, false], []⟩
noncomputable abbrev impl_copyHead.E : V.Env := V.mkE V.tys [(228, impl_copyKeys.con)] [] [(1, 10)] [] [] []
noncomputable abbrev impl_copyHead.kt (x0 : THead) : V.Kt THead := V.ktOf impl_copyHead.E impl_copyHead.con Tryz.f195 (V.fl4 x0)
noncomputable abbrev impl_copyHead.s (x0 : THead) : V.St := ⟨[(0, .v true [.val (.int .i64 x0.1), .val (.int .i64 x0.2.1), .val (.int .i64 x0.2.2.1), .val (.int .i64 x0.2.2.2.1), .val (.int .i64 x0.2.2.2.2.1), .val (.int .i64 x0.2.2.2.2.2.1), .val (.int .i64 x0.2.2.2.2.2.2.1), .val (.int .i64 x0.2.2.2.2.2.2.2.1), .val (.sl (.cons (.int .i64) .nil) x0.2.2.2.2.2.2.2.2.1), .val (.int .i64 x0.2.2.2.2.2.2.2.2.2.1), .val (.sl (.cons (.int .i64) .nil) x0.2.2.2.2.2.2.2.2.2.2.1), .val (.int .i64 x0.2.2.2.2.2.2.2.2.2.2.2.1), .val (.int .i64 x0.2.2.2.2.2.2.2.2.2.2.2.2.1), .val (.sl (.cons (.int .i64) .nil) x0.2.2.2.2.2.2.2.2.2.2.2.2.2.1), .val (.int .i64 x0.2.2.2.2.2.2.2.2.2.2.2.2.2.2.1), .val (.bool x0.2.2.2.2.2.2.2.2.2.2.2.2.2.2.2)])], []⟩
theorem impl_copyHead.v0 (x0 : THead) : V.evBody impl_copyHead.E impl_copyHead.con Tryz.f195 (V.fl4 x0) = V.evC impl_copyHead.E Tryz.f195.ntmps (V.codeOf Tryz.f195) (impl_copyHead.kt x0) (impl_copyHead.s x0) := by kernel_rfl
theorem impl_copyHead.v (x0 : THead) : V.evC impl_copyHead.E Tryz.f195.ntmps (V.codeOf Tryz.f195) (impl_copyHead.kt x0) (impl_copyHead.s x0) = impl_copyHead x0 := by kernel_rfl
theorem impl_copyHead.eq (x0 : THead) : V.evBody impl_copyHead.E impl_copyHead.con Tryz.f195 (V.fl4 x0) = impl_copyHead x0 := (impl_copyHead.v0 x0).trans (impl_copyHead.v x0)
theorem impl_copyHead.ok : V.Valid Tryz.prog 195 impl_copyHead.con :=
  V.fo (V.tab_cons impl_copyKeys.ok V.tab_nil) Tryz.func195 (by kernel_rfl) (fun x y h => (show V.evBody impl_copyHead.E impl_copyHead.con Tryz.f195 x = _ from impl_copyHead.eq (V.p4_0 x)).trans (V.cfl (by kernel_rfl) h))
noncomputable abbrev impl_LastHead.con : V.Con := ⟨(.cons (.sl V.eSigned) .nil), V.eRHeadBool, fun (x : List TSigned) => impl_LastHead x, [], [(false, 1)], [(true, 16), (false, 1)], [false, false, false, false, false, false, false, false, true, false, true, false, false, true, false, false, false], []⟩
noncomputable abbrev impl_LastHead.E : V.Env := V.mkE V.tys [(104, impl_IsChain.con), (130, impl_last.con), (195, impl_copyHead.con)] [] [] [] [] []
theorem impl_LastHead.eq (x0 : List TSigned) : V.evBody impl_LastHead.E impl_LastHead.con Tryz.f161 ((x0) : List TSigned) = impl_LastHead x0 := by kernel_rfl
theorem impl_LastHead.ok : V.Valid Tryz.prog 161 impl_LastHead.con :=
  V.fo (V.tab_cons impl_IsChain.ok (V.tab_cons impl_last.ok (V.tab_cons impl_copyHead.ok V.tab_nil))) Tryz.func161 (by kernel_rfl) (fun x y h => (show V.evBody impl_LastHead.E impl_LastHead.con Tryz.f161 x = _ from impl_LastHead.eq x).trans (V.cfl (by kernel_rfl) h))
noncomputable abbrev impl_IsFresh.con : V.Con := ⟨V.A0, (.cons .bool .nil), fun (x : V.D0) => impl_IsFresh (V.p0_0 x) (V.p0_1 x), [], [(true, 16), (false, 1)], [(false, 1)], [false], []⟩
noncomputable abbrev impl_IsFresh.E : V.Env := V.mkE V.tys [(151, impl_InRange.con)] [] [] [] [] []
noncomputable abbrev impl_IsFresh.kt (x0 : THead) (x1 : Int) : V.Kt Bool := V.ktOf impl_IsFresh.E impl_IsFresh.con Tryz.f162 (V.fl0 x0 x1)
noncomputable abbrev impl_IsFresh.s (x0 : THead) (x1 : Int) : V.St := ⟨[(0, .v true [.val (.int .i64 x0.1), .val (.int .i64 x0.2.1), .val (.int .i64 x0.2.2.1), .val (.int .i64 x0.2.2.2.1), .val (.int .i64 x0.2.2.2.2.1), .val (.int .i64 x0.2.2.2.2.2.1), .val (.int .i64 x0.2.2.2.2.2.2.1), .val (.int .i64 x0.2.2.2.2.2.2.2.1), .val (.sl (.cons (.int .i64) .nil) x0.2.2.2.2.2.2.2.2.1), .val (.int .i64 x0.2.2.2.2.2.2.2.2.2.1), .val (.sl (.cons (.int .i64) .nil) x0.2.2.2.2.2.2.2.2.2.2.1), .val (.int .i64 x0.2.2.2.2.2.2.2.2.2.2.2.1), .val (.int .i64 x0.2.2.2.2.2.2.2.2.2.2.2.2.1), .val (.sl (.cons (.int .i64) .nil) x0.2.2.2.2.2.2.2.2.2.2.2.2.2.1), .val (.int .i64 x0.2.2.2.2.2.2.2.2.2.2.2.2.2.2.1), .val (.bool x0.2.2.2.2.2.2.2.2.2.2.2.2.2.2.2)]), (1, .v false [.val (.int .i64 x1)])], []⟩
theorem impl_IsFresh.v0 (x0 : THead) (x1 : Int) : V.evBody impl_IsFresh.E impl_IsFresh.con Tryz.f162 (V.fl0 x0 x1) = V.evC impl_IsFresh.E Tryz.f162.ntmps (V.codeOf Tryz.f162) (impl_IsFresh.kt x0 x1) (impl_IsFresh.s x0 x1) := by kernel_rfl
theorem impl_IsFresh.v (x0 : THead) (x1 : Int) : V.evC impl_IsFresh.E Tryz.f162.ntmps (V.codeOf Tryz.f162) (impl_IsFresh.kt x0 x1) (impl_IsFresh.s x0 x1) = impl_IsFresh x0 x1 := by kernel_rfl
theorem impl_IsFresh.eq (x0 : THead) (x1 : Int) : V.evBody impl_IsFresh.E impl_IsFresh.con Tryz.f162 (V.fl0 x0 x1) = impl_IsFresh x0 x1 := (impl_IsFresh.v0 x0 x1).trans (impl_IsFresh.v x0 x1)
theorem impl_IsFresh.ok : V.Valid Tryz.prog 162 impl_IsFresh.con :=
  V.fo (V.tab_cons impl_InRange.ok V.tab_nil) Tryz.func162 (by kernel_rfl) (fun x y h => (show V.evBody impl_IsFresh.E impl_IsFresh.con Tryz.f162 x = _ from impl_IsFresh.eq (V.p0_0 x) (V.p0_1 x)).trans (V.cfl (by kernel_rfl) h))
noncomputable abbrev impl_BytesToInts.con : V.Con := ⟨(.cons (.sl (.cons (.int .u8) .nil)) .nil), (.cons (.sl (.cons (.int .i64) .nil)) .nil), fun (x : List Int) => impl_BytesToInts x, [], [(false, 1)], [(false, 1)], [true], []⟩
noncomputable abbrev impl_BytesToInts.E : V.Env := V.mkE V.tys [] [(6, [3, 9, 10, 11], [])] [] [] [] []
noncomputable abbrev impl_BytesToInts.kt (x0 : List Int) : V.Kt (List Int) := V.ktOf impl_BytesToInts.E impl_BytesToInts.con Tryz.f318 ((x0) : List Int)
noncomputable abbrev impl_BytesToInts.s6 (x0 : List Int) (v6_1 : Int) (v6_2 : Int) (v6_3 : List Int) : V.St := ⟨[(3, .v false [.ref 64000038400192]), (9, .v false [.val (.sl (.cons (.int .u8) .nil) x0)]), (10, .v false [.val (.int .i64 v6_1)]), (11, .v false [.val (.int .i64 v6_2)])], [(64000038400192, .row (.cons (.int .i64) .nil) true v6_3)]⟩
theorem impl_BytesToInts.r6 (x0 : List Int) (R : V.St → Option (List Int)) (v6_1 : Int) (v6_2 : Int) (v6_3 : List Int) : V.loopF impl_BytesToInts.E Tryz.f318.ntmps [1, 1, 0, 1, 0] [] (V.codeOf Tryz.f318) (impl_BytesToInts.kt x0) R (impl_BytesToInts.s6 x0 v6_1 v6_2 v6_3) = impl_BytesToInts.g6 x0 (fun v6_1 v6_2 v6_3 => R (impl_BytesToInts.s6 x0 v6_1 v6_2 v6_3)) v6_1 v6_2 v6_3 := by kernel_rfl
theorem impl_BytesToInts.e6 (x0 : List Int) : ∀ (n : Nat) (v6_1 : Int) (v6_2 : Int) (v6_3 : List Int), V.loopN (V.loopF impl_BytesToInts.E Tryz.f318.ntmps [1, 1, 0, 1, 0] [] (V.codeOf Tryz.f318) (impl_BytesToInts.kt x0)) n (impl_BytesToInts.s6 x0 v6_1 v6_2 v6_3) = impl_BytesToInts.l6 x0 n v6_1 v6_2 v6_3 := by
  intro n
  induction n with
  | zero => intros; rw [V.loopN_z]; rfl
  | succ n ih =>
    intro v6_1 v6_2 v6_3
    rw [V.loopN_s, impl_BytesToInts.r6]
    simp only [ih]
    first | exact (impl_BytesToInts.u6 ..).symm | rfl
theorem impl_BytesToInts.v (x0 : List Int) : V.evBody impl_BytesToInts.E impl_BytesToInts.con Tryz.f318 ((x0) : List Int) = impl_BytesToInts.b x0 (fun v6_1 v6_2 v6_3 => V.loopN (V.loopF impl_BytesToInts.E Tryz.f318.ntmps [1, 1, 0, 1, 0] [] (V.codeOf Tryz.f318) (impl_BytesToInts.kt x0)) V.KK (impl_BytesToInts.s6 x0 v6_1 v6_2 v6_3)) := by kernel_rfl
theorem impl_BytesToInts.eq (x0 : List Int) : V.evBody impl_BytesToInts.E impl_BytesToInts.con Tryz.f318 ((x0) : List Int) = impl_BytesToInts x0 := by
  rw [impl_BytesToInts.v]
  simp only [impl_BytesToInts.e6]
  rfl
theorem impl_BytesToInts.ok : V.Valid Tryz.prog 318 impl_BytesToInts.con :=
  V.fo V.tab_nil Tryz.func318 (by kernel_rfl) (fun x y h => (show V.evBody impl_BytesToInts.E impl_BytesToInts.con Tryz.f318 x = _ from impl_BytesToInts.eq x).trans (V.cfl (by kernel_rfl) h))
noncomputable abbrev impl_LabelInts.con : V.Con := ⟨(.cons .str .nil), (.cons (.sl (.cons (.int .i64) .nil)) .nil), fun (x : ByteArray) => impl_LabelInts x, [], [(false, 1)], [(false, 1)], [true], []⟩
noncomputable abbrev impl_LabelInts.E : V.Env := V.mkE V.tys [(318, impl_BytesToInts.con)] [] [] [] [] []
theorem impl_LabelInts.eq (x0 : ByteArray) : V.evBody impl_LabelInts.E impl_LabelInts.con Tryz.f314 ((x0) : ByteArray) = impl_LabelInts x0 := by kernel_rfl
theorem impl_LabelInts.ok : V.Valid Tryz.prog 314 impl_LabelInts.con :=
  V.fo (V.tab_cons impl_BytesToInts.ok V.tab_nil) Tryz.func314 (by kernel_rfl) (fun x y h => (show V.evBody impl_LabelInts.E impl_LabelInts.con Tryz.f314 x = _ from impl_LabelInts.eq x).trans (V.cfl (by kernel_rfl) h))
noncomputable abbrev impl_EntryInts.con : V.Con := ⟨V.eEntry, (.cons (.sl (.cons (.int .i64) .nil)) .nil), fun (x : ByteArray × Int × Int × List ByteArray) => impl_EntryInts x, [], [(true, 4)], [(false, 1)], [true], []⟩
noncomputable abbrev impl_EntryInts.E : V.Env := V.mkE V.tys [(314, impl_LabelInts.con)] [(6, [3, 19, 20, 21], [])] [(1, 11)] [] [] []
noncomputable abbrev impl_EntryInts.kt (x0 : TEntry) : V.Kt (List Int) := V.ktOf impl_EntryInts.E impl_EntryInts.con Tryz.f301 ((x0.1, x0.2.1, x0.2.2.1, x0.2.2.2) : ByteArray × Int × Int × List ByteArray)
noncomputable abbrev impl_EntryInts.s6 (x0 : TEntry) (v6_1 : Int) (v6_2 : Int) (v6_3 : List Int) : V.St := ⟨[(3, .v false [.ref 64000038400192]), (19, .v false [.val (.sl (.cons .str .nil) x0.2.2.2)]), (20, .v false [.val (.int .i64 v6_1)]), (21, .v false [.val (.int .i64 v6_2)])], [(64000038400192, .row (.cons (.int .i64) .nil) true v6_3)]⟩
theorem impl_EntryInts.r6 (x0 : TEntry) (R : V.St → Option (List Int)) (v6_1 : Int) (v6_2 : Int) (v6_3 : List Int) : V.loopF impl_EntryInts.E Tryz.f301.ntmps [1, 1, 0, 1, 0] [] (V.codeOf Tryz.f301) (impl_EntryInts.kt x0) R (impl_EntryInts.s6 x0 v6_1 v6_2 v6_3) = impl_EntryInts.g6 x0 (fun v6_1 v6_2 v6_3 => R (impl_EntryInts.s6 x0 v6_1 v6_2 v6_3)) v6_1 v6_2 v6_3 := by kernel_rfl
theorem impl_EntryInts.e6 (x0 : TEntry) : ∀ (n : Nat) (v6_1 : Int) (v6_2 : Int) (v6_3 : List Int), V.loopN (V.loopF impl_EntryInts.E Tryz.f301.ntmps [1, 1, 0, 1, 0] [] (V.codeOf Tryz.f301) (impl_EntryInts.kt x0)) n (impl_EntryInts.s6 x0 v6_1 v6_2 v6_3) = impl_EntryInts.l6 x0 n v6_1 v6_2 v6_3 := by
  intro n
  induction n with
  | zero => intros; rw [V.loopN_z]; rfl
  | succ n ih =>
    intro v6_1 v6_2 v6_3
    rw [V.loopN_s, impl_EntryInts.r6]
    simp only [ih]
    first | exact (impl_EntryInts.u6 ..).symm | rfl
theorem impl_EntryInts.v (x0 : TEntry) : V.evBody impl_EntryInts.E impl_EntryInts.con Tryz.f301 ((x0.1, x0.2.1, x0.2.2.1, x0.2.2.2) : ByteArray × Int × Int × List ByteArray) = impl_EntryInts.b x0 (fun v6_1 v6_2 v6_3 => V.loopN (V.loopF impl_EntryInts.E Tryz.f301.ntmps [1, 1, 0, 1, 0] [] (V.codeOf Tryz.f301) (impl_EntryInts.kt x0)) V.KK (impl_EntryInts.s6 x0 v6_1 v6_2 v6_3)) := by kernel_rfl
theorem impl_EntryInts.eq (x0 : TEntry) : V.evBody impl_EntryInts.E impl_EntryInts.con Tryz.f301 ((x0.1, x0.2.1, x0.2.2.1, x0.2.2.2) : ByteArray × Int × Int × List ByteArray) = impl_EntryInts x0 := by
  rw [impl_EntryInts.v]
  simp only [impl_EntryInts.e6]
  rfl
theorem impl_EntryInts.ok : V.Valid Tryz.prog 301 impl_EntryInts.con :=
  V.fo (V.tab_cons impl_LabelInts.ok V.tab_nil) Tryz.func301 (by kernel_rfl) (fun x y h => (show V.evBody impl_EntryInts.E impl_EntryInts.con Tryz.f301 x = _ from impl_EntryInts.eq x).trans (V.cfl (by kernel_rfl) h))
noncomputable abbrev impl_LeafOf.con : V.Con := ⟨V.eEntry, (.cons (.int .i64) .nil), fun (x : ByteArray × Int × Int × List ByteArray) => impl_LeafOf x, [], [(true, 4)], [(false, 1)], [false], []⟩
noncomputable abbrev impl_LeafOf.E : V.Env := V.mkE V.tys [(260, impl_Hash.con), (301, impl_EntryInts.con)] [] [] [] [] []
theorem impl_LeafOf.eq (x0 : TEntry) : V.evBody impl_LeafOf.E impl_LeafOf.con Tryz.f263 ((x0.1, x0.2.1, x0.2.2.1, x0.2.2.2) : ByteArray × Int × Int × List ByteArray) = impl_LeafOf x0 := by kernel_rfl
theorem impl_LeafOf.ok : V.Valid Tryz.prog 263 impl_LeafOf.con :=
  V.fo (V.tab_cons impl_Hash.ok (V.tab_cons impl_EntryInts.ok V.tab_nil)) Tryz.func263 (by kernel_rfl) (fun x y h => (show V.evBody impl_LeafOf.E impl_LeafOf.con Tryz.f263 x = _ from impl_LeafOf.eq x).trans (V.cfl (by kernel_rfl) h))
noncomputable abbrev impl_hash.con : V.Con := ⟨(.cons (.sl (.cons (.int .i64) .nil)) .nil), (.cons (.int .i64) .nil), fun (x : List Int) => impl_hash x, [], [(false, 1)], [(false, 1)], [false], []⟩
noncomputable abbrev impl_hash.E : V.Env := V.mkE V.tys [(260, impl_Hash.con)] [] [] [] [] []
theorem impl_hash.eq (x0 : List Int) : V.evBody impl_hash.E impl_hash.con Tryz.f261 ((x0) : List Int) = impl_hash x0 := by kernel_rfl
theorem impl_hash.ok : V.Valid Tryz.prog 261 impl_hash.con :=
  V.fo (V.tab_cons impl_Hash.ok V.tab_nil) Tryz.func261 (by kernel_rfl) (fun x y h => (show V.evBody impl_hash.E impl_hash.con Tryz.f261 x = _ from impl_hash.eq x).trans (V.cfl (by kernel_rfl) h))
noncomputable abbrev impl_NodeOf.con : V.Con := ⟨(.cons (.int .i64) (.cons (.int .i64) .nil)), (.cons (.int .i64) .nil), fun (x : Int × Int) => impl_NodeOf x.1 x.2, [], [(false, 1), (false, 1)], [(false, 1)], [false], []⟩
noncomputable abbrev impl_NodeOf.E : V.Env := V.mkE V.tys [(261, impl_hash.con)] [] [] [] [] []
theorem impl_NodeOf.eq (x0 : Int) (x1 : Int) : V.evBody impl_NodeOf.E impl_NodeOf.con Tryz.f300 ((x0, x1) : Int × Int) = impl_NodeOf x0 x1 := by kernel_rfl
theorem impl_NodeOf.ok : V.Valid Tryz.prog 300 impl_NodeOf.con :=
  V.fo (V.tab_cons impl_hash.ok V.tab_nil) Tryz.func300 (by kernel_rfl) (fun x y h => (show V.evBody impl_NodeOf.E impl_NodeOf.con Tryz.f300 x = _ from impl_NodeOf.eq x.1 x.2).trans (V.cfl (by kernel_rfl) h))
noncomputable abbrev impl_TopFrom.con : V.Con := ⟨(.cons (.int .i64) (.cons (.int .i64) (.cons (.int .i64) (.cons (.sl (.cons (.int .i64) .nil)) .nil)))), (.cons (.int .i64) (.cons .bool .nil)), fun (x : Int × Int × Int × List Int) => impl_TopFrom x.1 x.2.1 x.2.2.1 x.2.2.2, [], [(false, 1), (false, 1), (false, 1), (false, 1)], [(false, 1), (false, 1)], [false, false], []⟩
noncomputable abbrev impl_TopFrom.E : V.Env := V.mkE V.tys [(151, impl_InRange.con), (300, impl_NodeOf.con)] [(6, [0, 1, 2, 3], []), (7, [0, 1, 2, 3], []), (9, [0, 1, 2, 3], [])] [] [] [] []
noncomputable abbrev impl_TopFrom.kt (x0 : Int) (x1 : Int) (x2 : Int) (x3 : List Int) : V.Kt (Int × Bool) := V.ktOf impl_TopFrom.E impl_TopFrom.con Tryz.f280 ((x0, x1, x2, x3) : Int × Int × Int × List Int)
noncomputable abbrev impl_TopFrom.s9 (v6_1 : Int) (v6_2 : Int) (v9_0 : Int) (v9_3 : List Int) : V.St := ⟨[(0, .v false [.val (.int .i64 v9_0)]), (1, .v false [.val (.int .i64 v6_1)]), (2, .v false [.val (.int .i64 v6_2)]), (3, .v false [.val (.sl (.cons (.int .i64) .nil) v9_3)])], []⟩
noncomputable abbrev impl_TopFrom.s6 (v6_0 : Int) (v6_1 : Int) (v6_2 : Int) (v6_3 : List Int) : V.St := ⟨[(0, .v false [.val (.int .i64 v6_0)]), (1, .v false [.val (.int .i64 v6_1)]), (2, .v false [.val (.int .i64 v6_2)]), (3, .v false [.val (.sl (.cons (.int .i64) .nil) v6_3)])], []⟩
noncomputable abbrev impl_TopFrom.s7 (x0 : Int) (x1 : Int) (x2 : Int) (x3 : List Int) : V.St := ⟨[(0, .v false [.val (.int .i64 x0)]), (1, .v false [.val (.int .i64 x1)]), (2, .v false [.val (.int .i64 x2)]), (3, .v false [.val (.sl (.cons (.int .i64) .nil) x3)])], []⟩
theorem impl_TopFrom.r9 (x0 : Int) (x1 : Int) (x2 : Int) (x3 : List Int) (v6_1 : Int) (v6_2 : Int) (R6 : V.St → Option (Int × Bool)) (v9_0 : Int) (v9_3 : List Int) : V.joinF impl_TopFrom.E Tryz.f280.ntmps [1, 1, 0, 0, 0, 1] [R6] (V.codeOf Tryz.f280) (impl_TopFrom.kt x0 x1 x2 x3) (impl_TopFrom.s9 v6_1 v6_2 v9_0 v9_3) = impl_TopFrom.g9 v6_1 v6_2 (fun v6_0 v6_1 v6_2 v6_3 => R6 (impl_TopFrom.s6 v6_0 v6_1 v6_2 v6_3)) v9_0 v9_3 := by kernel_rfl
theorem impl_TopFrom.e9 (x0 : Int) (x1 : Int) (x2 : Int) (x3 : List Int) (v6_1 : Int) (v6_2 : Int) (R6 : V.St → Option (Int × Bool)) (v9_0 : Int) (v9_3 : List Int) : V.jn (V.joinF impl_TopFrom.E Tryz.f280.ntmps [1, 1, 0, 0, 0, 1] [R6] (V.codeOf Tryz.f280) (impl_TopFrom.kt x0 x1 x2 x3)) (impl_TopFrom.s9 v6_1 v6_2 v9_0 v9_3) = impl_TopFrom.l9 v6_1 v6_2 (fun v6_0 v6_1 v6_2 v6_3 => R6 (impl_TopFrom.s6 v6_0 v6_1 v6_2 v6_3)) v9_0 v9_3 := by
  rw [V.jn_eq, impl_TopFrom.r9]
  rfl
theorem impl_TopFrom.r6 (x0 : Int) (x1 : Int) (x2 : Int) (x3 : List Int) (R : V.St → Option (Int × Bool)) (v6_0 : Int) (v6_1 : Int) (v6_2 : Int) (v6_3 : List Int) : V.loopF impl_TopFrom.E Tryz.f280.ntmps [1, 1, 0, 0] [] (V.codeOf Tryz.f280) (impl_TopFrom.kt x0 x1 x2 x3) R (impl_TopFrom.s6 v6_0 v6_1 v6_2 v6_3) = impl_TopFrom.g6 (fun v6_0 v6_1 v6_2 v6_3 => R (impl_TopFrom.s6 v6_0 v6_1 v6_2 v6_3)) (fun v9_0 v9_3 => V.jn (V.joinF impl_TopFrom.E Tryz.f280.ntmps [1, 1, 0, 0, 0, 1] [R] (V.codeOf Tryz.f280) (impl_TopFrom.kt x0 x1 x2 x3)) (impl_TopFrom.s9 v6_1 v6_2 v9_0 v9_3)) v6_0 v6_1 v6_2 v6_3 := by kernel_rfl
theorem impl_TopFrom.e6 (x0 : Int) (x1 : Int) (x2 : Int) (x3 : List Int) : ∀ (n : Nat) (v6_0 : Int) (v6_1 : Int) (v6_2 : Int) (v6_3 : List Int), V.loopN (V.loopF impl_TopFrom.E Tryz.f280.ntmps [1, 1, 0, 0] [] (V.codeOf Tryz.f280) (impl_TopFrom.kt x0 x1 x2 x3)) n (impl_TopFrom.s6 v6_0 v6_1 v6_2 v6_3) = impl_TopFrom.l6 n v6_0 v6_1 v6_2 v6_3 := by
  intro n
  induction n with
  | zero => intros; rw [V.loopN_z]; rfl
  | succ n ih =>
    intro v6_0 v6_1 v6_2 v6_3
    rw [V.loopN_s, impl_TopFrom.r6]
    simp only [impl_TopFrom.e9, ih]
    first | exact (impl_TopFrom.u6 ..).symm | rfl
theorem impl_TopFrom.r7 (x0 : Int) (x1 : Int) (x2 : Int) (x3 : List Int) : V.joinF impl_TopFrom.E Tryz.f280.ntmps [1] [] (V.codeOf Tryz.f280) (impl_TopFrom.kt x0 x1 x2 x3) (impl_TopFrom.s7 x0 x1 x2 x3) = impl_TopFrom.g7 x0 x1 x2 x3 (fun v6_0 v6_1 v6_2 v6_3 => V.loopN (V.loopF impl_TopFrom.E Tryz.f280.ntmps [1, 1, 0, 0] [] (V.codeOf Tryz.f280) (impl_TopFrom.kt x0 x1 x2 x3)) V.KK (impl_TopFrom.s6 v6_0 v6_1 v6_2 v6_3)) := by kernel_rfl
theorem impl_TopFrom.e7 (x0 : Int) (x1 : Int) (x2 : Int) (x3 : List Int) : V.jn (V.joinF impl_TopFrom.E Tryz.f280.ntmps [1] [] (V.codeOf Tryz.f280) (impl_TopFrom.kt x0 x1 x2 x3)) (impl_TopFrom.s7 x0 x1 x2 x3) = impl_TopFrom.l7 x0 x1 x2 x3 := by
  rw [V.jn_eq, impl_TopFrom.r7]
  simp only [impl_TopFrom.e6]
  rfl
theorem impl_TopFrom.v (x0 : Int) (x1 : Int) (x2 : Int) (x3 : List Int) : V.evBody impl_TopFrom.E impl_TopFrom.con Tryz.f280 ((x0, x1, x2, x3) : Int × Int × Int × List Int) = impl_TopFrom.b x0 x1 x2 x3 (V.jn (V.joinF impl_TopFrom.E Tryz.f280.ntmps [1] [] (V.codeOf Tryz.f280) (impl_TopFrom.kt x0 x1 x2 x3)) (impl_TopFrom.s7 x0 x1 x2 x3)) := by kernel_rfl
theorem impl_TopFrom.eq (x0 : Int) (x1 : Int) (x2 : Int) (x3 : List Int) : V.evBody impl_TopFrom.E impl_TopFrom.con Tryz.f280 ((x0, x1, x2, x3) : Int × Int × Int × List Int) = impl_TopFrom x0 x1 x2 x3 := by
  rw [impl_TopFrom.v]
  simp only [impl_TopFrom.e7]
  rfl
theorem impl_TopFrom.ok : V.Valid Tryz.prog 280 impl_TopFrom.con :=
  V.fo (V.tab_cons impl_InRange.ok (V.tab_cons impl_NodeOf.ok V.tab_nil)) Tryz.func280 (by kernel_rfl) (fun x y h => (show V.evBody impl_TopFrom.E impl_TopFrom.con Tryz.f280 x = _ from impl_TopFrom.eq x.1 x.2.1 x.2.2.1 x.2.2.2).trans (V.cfl (by kernel_rfl) h))
noncomputable abbrev impl_IsLabel.con : V.Con := ⟨(.cons .str .nil), (.cons .bool .nil), fun (x : ByteArray) => impl_IsLabel x, [], [(false, 1)], [(false, 1)], [false], []⟩
noncomputable abbrev impl_IsLabel.E : V.Env := V.mkE V.tys [(151, impl_InRange.con)] [(4, [0, 6, 7], [])] [] [] [] []
noncomputable abbrev impl_IsLabel.kt (x0 : ByteArray) : V.Kt Bool := V.ktOf impl_IsLabel.E impl_IsLabel.con Tryz.f252 ((x0) : ByteArray)
noncomputable abbrev impl_IsLabel.s4 (x0 : ByteArray) (v4_1 : Int) (v4_2 : Int) : V.St := ⟨[(0, .v false [.val (.str x0)]), (6, .v false [.val (.int .i64 v4_1)]), (7, .v false [.val (.int .i64 v4_2)])], []⟩
theorem impl_IsLabel.r4 (x0 : ByteArray) (R : V.St → Option Bool) (v4_1 : Int) (v4_2 : Int) : V.loopF impl_IsLabel.E Tryz.f252.ntmps [1, 0, 1, 0] [] (V.codeOf Tryz.f252) (impl_IsLabel.kt x0) R (impl_IsLabel.s4 x0 v4_1 v4_2) = impl_IsLabel.g4 x0 (fun v4_1 v4_2 => R (impl_IsLabel.s4 x0 v4_1 v4_2)) v4_1 v4_2 := by kernel_rfl
theorem impl_IsLabel.e4 (x0 : ByteArray) : ∀ (n : Nat) (v4_1 : Int) (v4_2 : Int), V.loopN (V.loopF impl_IsLabel.E Tryz.f252.ntmps [1, 0, 1, 0] [] (V.codeOf Tryz.f252) (impl_IsLabel.kt x0)) n (impl_IsLabel.s4 x0 v4_1 v4_2) = impl_IsLabel.l4 x0 n v4_1 v4_2 := by
  intro n
  induction n with
  | zero => intros; rw [V.loopN_z]; rfl
  | succ n ih =>
    intro v4_1 v4_2
    rw [V.loopN_s, impl_IsLabel.r4]
    simp only [ih]
    first | exact (impl_IsLabel.u4 ..).symm | rfl
theorem impl_IsLabel.v (x0 : ByteArray) : V.evBody impl_IsLabel.E impl_IsLabel.con Tryz.f252 ((x0) : ByteArray) = impl_IsLabel.b x0 (fun v4_1 v4_2 => V.loopN (V.loopF impl_IsLabel.E Tryz.f252.ntmps [1, 0, 1, 0] [] (V.codeOf Tryz.f252) (impl_IsLabel.kt x0)) V.KK (impl_IsLabel.s4 x0 v4_1 v4_2)) := by kernel_rfl
theorem impl_IsLabel.eq (x0 : ByteArray) : V.evBody impl_IsLabel.E impl_IsLabel.con Tryz.f252 ((x0) : ByteArray) = impl_IsLabel x0 := by
  rw [impl_IsLabel.v]
  simp only [impl_IsLabel.e4]
  rfl
theorem impl_IsLabel.ok : V.Valid Tryz.prog 252 impl_IsLabel.con :=
  V.fo (V.tab_cons impl_InRange.ok V.tab_nil) Tryz.func252 (by kernel_rfl) (fun x y h => (show V.evBody impl_IsLabel.E impl_IsLabel.con Tryz.f252 x = _ from impl_IsLabel.eq x).trans (V.cfl (by kernel_rfl) h))
noncomputable abbrev impl_IsPath_1.con : V.Con := ⟨(.cons .str .nil), (.cons .bool .nil), fun (x : ByteArray) => impl_IsPath_1 x, [], [(false, 1)], [(false, 1)], [false], []⟩
noncomputable abbrev impl_IsPath_1.E : V.Env := V.mkE V.tys [(252, impl_IsLabel.con)] [] [] [] [] []
theorem impl_IsPath_1.eq (x0 : ByteArray) : V.evBody impl_IsPath_1.E impl_IsPath_1.con Tryz.f296 ((x0) : ByteArray) = impl_IsPath_1 x0 := by kernel_rfl
theorem impl_IsPath_1.ok : V.Valid Tryz.prog 296 impl_IsPath_1.con :=
  V.fo (V.tab_cons impl_IsLabel.ok V.tab_nil) Tryz.func296 (by kernel_rfl) (fun x y h => (show V.evBody impl_IsPath_1.E impl_IsPath_1.con Tryz.f296 x = _ from impl_IsPath_1.eq x).trans (V.cfl (by kernel_rfl) h))
noncomputable abbrev slices_IndexFunc_string__IsPath_1.con : V.Con := ⟨(.cons (.sl (.cons .str .nil)) (.cons (.fn 296 false .nil .nil) .nil)), (.cons (.int .i64) .nil), fun (x : List ByteArray × (Unit) × (Unit)) => slices_IndexFunc_string__IsPath_1 x.1 x.2, [], [(false, 1), (false, 1)], [(false, 1)], [false], []⟩
noncomputable abbrev slices_IndexFunc_string__IsPath_1.E : V.Env := V.mkE V.tys [(296, impl_IsPath_1.con)] [(4, [0, 1, 7, 8], [])] [] [] [] []
noncomputable abbrev slices_IndexFunc_string__IsPath_1.kt (x0 : List ByteArray) (x1 : (Unit) × (Unit)) : V.Kt Int := V.ktOf slices_IndexFunc_string__IsPath_1.E slices_IndexFunc_string__IsPath_1.con Tryz.f312 ((x0, x1) : List ByteArray × (Unit) × (Unit))
noncomputable abbrev slices_IndexFunc_string__IsPath_1.s4 (x0 : List ByteArray) (v4_1 : Int) (v4_2 : Int) : V.St := ⟨[(0, .v false [.val (.sl (.cons .str .nil) x0)]), (1, .v false [.val (.fn 296 false .nil .nil () ())]), (7, .v false [.val (.int .i64 v4_1)]), (8, .v false [.val (.int .i64 v4_2)])], []⟩
theorem slices_IndexFunc_string__IsPath_1.r4 (x0 : List ByteArray) (x1 : (Unit) × (Unit)) (R : V.St → Option Int) (v4_1 : Int) (v4_2 : Int) : V.loopF slices_IndexFunc_string__IsPath_1.E Tryz.f312.ntmps [1, 0, 1, 0] [] (V.codeOf Tryz.f312) (slices_IndexFunc_string__IsPath_1.kt x0 x1) R (slices_IndexFunc_string__IsPath_1.s4 x0 v4_1 v4_2) = slices_IndexFunc_string__IsPath_1.g4 x0 (fun v4_1 v4_2 => R (slices_IndexFunc_string__IsPath_1.s4 x0 v4_1 v4_2)) v4_1 v4_2 := by kernel_rfl
theorem slices_IndexFunc_string__IsPath_1.e4 (x0 : List ByteArray) (x1 : (Unit) × (Unit)) : ∀ (n : Nat) (v4_1 : Int) (v4_2 : Int), V.loopN (V.loopF slices_IndexFunc_string__IsPath_1.E Tryz.f312.ntmps [1, 0, 1, 0] [] (V.codeOf Tryz.f312) (slices_IndexFunc_string__IsPath_1.kt x0 x1)) n (slices_IndexFunc_string__IsPath_1.s4 x0 v4_1 v4_2) = slices_IndexFunc_string__IsPath_1.l4 x0 n v4_1 v4_2 := by
  intro n
  induction n with
  | zero => intros; rw [V.loopN_z]; rfl
  | succ n ih =>
    intro v4_1 v4_2
    rw [V.loopN_s, slices_IndexFunc_string__IsPath_1.r4]
    simp only [ih]
    first | exact (slices_IndexFunc_string__IsPath_1.u4 ..).symm | rfl
theorem slices_IndexFunc_string__IsPath_1.v (x0 : List ByteArray) (x1 : (Unit) × (Unit)) : V.evBody slices_IndexFunc_string__IsPath_1.E slices_IndexFunc_string__IsPath_1.con Tryz.f312 ((x0, x1) : List ByteArray × (Unit) × (Unit)) = slices_IndexFunc_string__IsPath_1.b x0 x1 (fun v4_1 v4_2 => V.loopN (V.loopF slices_IndexFunc_string__IsPath_1.E Tryz.f312.ntmps [1, 0, 1, 0] [] (V.codeOf Tryz.f312) (slices_IndexFunc_string__IsPath_1.kt x0 x1)) V.KK (slices_IndexFunc_string__IsPath_1.s4 x0 v4_1 v4_2)) := by kernel_rfl
theorem slices_IndexFunc_string__IsPath_1.eq (x0 : List ByteArray) (x1 : (Unit) × (Unit)) : V.evBody slices_IndexFunc_string__IsPath_1.E slices_IndexFunc_string__IsPath_1.con Tryz.f312 ((x0, x1) : List ByteArray × (Unit) × (Unit)) = slices_IndexFunc_string__IsPath_1 x0 x1 := by
  rw [slices_IndexFunc_string__IsPath_1.v]
  simp only [slices_IndexFunc_string__IsPath_1.e4]
  rfl
theorem slices_IndexFunc_string__IsPath_1.ok : V.Valid Tryz.prog 312 slices_IndexFunc_string__IsPath_1.con :=
  V.fo (V.tab_cons impl_IsPath_1.ok V.tab_nil) Tryz.func312 (by kernel_rfl) (fun x y h => (show V.evBody slices_IndexFunc_string__IsPath_1.E slices_IndexFunc_string__IsPath_1.con Tryz.f312 x = _ from slices_IndexFunc_string__IsPath_1.eq x.1 x.2).trans (V.cfl (by kernel_rfl) h))
noncomputable abbrev slices_ContainsFunc_string__IsPath_1.con : V.Con := ⟨(.cons (.sl (.cons .str .nil)) (.cons (.fn 296 false .nil .nil) .nil)), (.cons .bool .nil), fun (x : List ByteArray × (Unit) × (Unit)) => slices_ContainsFunc_string__IsPath_1 x.1 x.2, [], [(false, 1), (false, 1)], [(false, 1)], [false], []⟩
noncomputable abbrev slices_ContainsFunc_string__IsPath_1.E : V.Env := V.mkE V.tys [(312, slices_IndexFunc_string__IsPath_1.con)] [] [] [] [] []
theorem slices_ContainsFunc_string__IsPath_1.eq (x0 : List ByteArray) (x1 : (Unit) × (Unit)) : V.evBody slices_ContainsFunc_string__IsPath_1.E slices_ContainsFunc_string__IsPath_1.con Tryz.f295 ((x0, x1) : List ByteArray × (Unit) × (Unit)) = slices_ContainsFunc_string__IsPath_1 x0 x1 := by kernel_rfl
theorem slices_ContainsFunc_string__IsPath_1.ok : V.Valid Tryz.prog 295 slices_ContainsFunc_string__IsPath_1.con :=
  V.fo (V.tab_cons slices_IndexFunc_string__IsPath_1.ok V.tab_nil) Tryz.func295 (by kernel_rfl) (fun x y h => (show V.evBody slices_ContainsFunc_string__IsPath_1.E slices_ContainsFunc_string__IsPath_1.con Tryz.f295 x = _ from slices_ContainsFunc_string__IsPath_1.eq x.1 x.2).trans (V.cfl (by kernel_rfl) h))
noncomputable abbrev impl_IsPath.con : V.Con := ⟨(.cons (.sl (.cons .str .nil)) .nil), (.cons .bool .nil), fun (x : List ByteArray) => impl_IsPath x, [], [(false, 1)], [(false, 1)], [false], []⟩
noncomputable abbrev impl_IsPath.E : V.Env := V.mkE V.tys [(151, impl_InRange.con), (295, slices_ContainsFunc_string__IsPath_1.con)] [] [] [] [] []
theorem impl_IsPath.eq (x0 : List ByteArray) : V.evBody impl_IsPath.E impl_IsPath.con Tryz.f253 ((x0) : List ByteArray) = impl_IsPath x0 := by kernel_rfl
theorem impl_IsPath.ok : V.Valid Tryz.prog 253 impl_IsPath.con :=
  V.fo (V.tab_cons impl_InRange.ok (V.tab_cons slices_ContainsFunc_string__IsPath_1.ok V.tab_nil)) Tryz.func253 (by kernel_rfl) (fun x y h => (show V.evBody impl_IsPath.E impl_IsPath.con Tryz.f253 x = _ from impl_IsPath.eq x).trans (V.cfl (by kernel_rfl) h))
noncomputable abbrev impl_IsEntry.con : V.Con := ⟨V.eEntry, (.cons .bool .nil), fun (x : ByteArray × Int × Int × List ByteArray) => impl_IsEntry x, [], [(true, 4)], [(false, 1)], [false], []⟩
noncomputable abbrev impl_IsEntry.E : V.Env := V.mkE V.tys [(151, impl_InRange.con), (217, impl_isDigest.con), (252, impl_IsLabel.con), (253, impl_IsPath.con)] [] [] [] [] []
theorem impl_IsEntry.eq (x0 : TEntry) : V.evBody impl_IsEntry.E impl_IsEntry.con Tryz.f192 ((x0.1, x0.2.1, x0.2.2.1, x0.2.2.2) : ByteArray × Int × Int × List ByteArray) = impl_IsEntry x0 := by kernel_rfl
theorem impl_IsEntry.ok : V.Valid Tryz.prog 192 impl_IsEntry.con :=
  V.fo (V.tab_cons impl_InRange.ok (V.tab_cons impl_isDigest.ok (V.tab_cons impl_IsLabel.ok (V.tab_cons impl_IsPath.ok V.tab_nil)))) Tryz.func192 (by kernel_rfl) (fun x y h => (show V.evBody impl_IsEntry.E impl_IsEntry.con Tryz.f192 x = _ from impl_IsEntry.eq x).trans (V.cfl (by kernel_rfl) h))
noncomputable abbrev impl_rootFrom.con : V.Con := ⟨(.cons (.int .i64) (.cons (.int .i64) .nil)), (.cons (.int .i64) .nil), fun (x : Int × Int) => impl_rootFrom x.1 x.2, [], [(false, 1), (false, 1)], [(false, 1)], [false], []⟩
noncomputable abbrev impl_rootFrom.E : V.Env := V.mkE V.tys [(261, impl_hash.con)] [] [] [] [] []
theorem impl_rootFrom.eq (x0 : Int) (x1 : Int) : V.evBody impl_rootFrom.E impl_rootFrom.con Tryz.f198 ((x0, x1) : Int × Int) = impl_rootFrom x0 x1 := by kernel_rfl
theorem impl_rootFrom.ok : V.Valid Tryz.prog 198 impl_rootFrom.con :=
  V.fo (V.tab_cons impl_hash.ok V.tab_nil) Tryz.func198 (by kernel_rfl) (fun x y h => (show V.evBody impl_rootFrom.E impl_rootFrom.con Tryz.f198 x = _ from impl_rootFrom.eq x.1 x.2).trans (V.cfl (by kernel_rfl) h))
noncomputable abbrev impl_CheckEntry.con : V.Con := ⟨(.cons (.int .i64) (.cons (.int .i64) (.cons .str (.cons (.int .i64) (.cons (.int .i64) (.cons (.sl (.cons .str .nil)) (.cons (.int .i64) (.cons (.sl (.cons (.int .i64) .nil)) .nil)))))))), (.cons .bool .nil), fun (x : Int × Int × ByteArray × Int × Int × List ByteArray × Int × List Int) => impl_CheckEntry x.1 x.2.1 (x.2.2.1, x.2.2.2.1, x.2.2.2.2.1, x.2.2.2.2.2.1) x.2.2.2.2.2.2, [], [(false, 1), (false, 1), (true, 4), (true, 2)], [(false, 1)], [false], []⟩
noncomputable abbrev impl_CheckEntry.E : V.Env := V.mkE V.tys [(192, impl_IsEntry.con), (198, impl_rootFrom.con), (263, impl_LeafOf.con), (280, impl_TopFrom.con)] [] [(1, 11)] [] [] []
theorem impl_CheckEntry.eq (x0 : Int) (x1 : Int) (x2 : TEntry) (x3 : TProof) : V.evBody impl_CheckEntry.E impl_CheckEntry.con Tryz.f234 ((x0, x1, x2.1, x2.2.1, x2.2.2.1, x2.2.2.2, x3.1, x3.2) : Int × Int × ByteArray × Int × Int × List ByteArray × Int × List Int) = impl_CheckEntry x0 x1 x2 x3 := by kernel_rfl
theorem impl_CheckEntry.ok : V.Valid Tryz.prog 234 impl_CheckEntry.con :=
  V.fo (V.tab_cons impl_IsEntry.ok (V.tab_cons impl_rootFrom.ok (V.tab_cons impl_LeafOf.ok (V.tab_cons impl_TopFrom.ok V.tab_nil)))) Tryz.func234 (by kernel_rfl) (fun x y h => (show V.evBody impl_CheckEntry.E impl_CheckEntry.con Tryz.f234 x = _ from impl_CheckEntry.eq x.1 x.2.1 (x.2.2.1, x.2.2.2.1, x.2.2.2.2.1, x.2.2.2.2.2.1) x.2.2.2.2.2.2).trans (V.cfl (by kernel_rfl) h))
noncomputable abbrev slices_Equal_string.con : V.Con := ⟨(.cons (.sl (.cons .str .nil)) (.cons (.sl (.cons .str .nil)) .nil)), (.cons .bool .nil), fun (x : List ByteArray × List ByteArray) => slices_Equal_string x.1 x.2, [], [(false, 1), (false, 1)], [(false, 1)], [false], []⟩
noncomputable abbrev slices_Equal_string.E : V.Env := V.mkE V.tys [] [(8, [0, 1, 12, 13], [])] [(6, 8)] [] [] []
noncomputable abbrev slices_Equal_string.kt (x0 : List ByteArray) (x1 : List ByteArray) : V.Kt Bool := V.ktOf slices_Equal_string.E slices_Equal_string.con Tryz.f306 ((x0, x1) : List ByteArray × List ByteArray)
noncomputable abbrev slices_Equal_string.s8 (x0 : List ByteArray) (x1 : List ByteArray) (v8_2 : Int) (v8_3 : Int) : V.St := ⟨[(0, .v false [.val (.sl (.cons .str .nil) x0)]), (1, .v false [.val (.sl (.cons .str .nil) x1)]), (12, .v false [.val (.int .i64 v8_2)]), (13, .v false [.val (.int .i64 v8_3)])], []⟩
theorem slices_Equal_string.r8 (x0 : List ByteArray) (x1 : List ByteArray) (R : V.St → Option Bool) (v8_2 : Int) (v8_3 : Int) : V.loopF slices_Equal_string.E Tryz.f306.ntmps [1, 1, 0, 1, 0] [] (V.codeOf Tryz.f306) (slices_Equal_string.kt x0 x1) R (slices_Equal_string.s8 x0 x1 v8_2 v8_3) = slices_Equal_string.g8 x0 x1 (fun v8_2 v8_3 => R (slices_Equal_string.s8 x0 x1 v8_2 v8_3)) v8_2 v8_3 := by kernel_rfl
theorem slices_Equal_string.e8 (x0 : List ByteArray) (x1 : List ByteArray) : ∀ (n : Nat) (v8_2 : Int) (v8_3 : Int), V.loopN (V.loopF slices_Equal_string.E Tryz.f306.ntmps [1, 1, 0, 1, 0] [] (V.codeOf Tryz.f306) (slices_Equal_string.kt x0 x1)) n (slices_Equal_string.s8 x0 x1 v8_2 v8_3) = slices_Equal_string.l8 x0 x1 n v8_2 v8_3 := by
  intro n
  induction n with
  | zero => intros; rw [V.loopN_z]; rfl
  | succ n ih =>
    intro v8_2 v8_3
    rw [V.loopN_s, slices_Equal_string.r8]
    simp only [ih]
    first | exact (slices_Equal_string.u8 ..).symm | rfl
theorem slices_Equal_string.v (x0 : List ByteArray) (x1 : List ByteArray) : V.evBody slices_Equal_string.E slices_Equal_string.con Tryz.f306 ((x0, x1) : List ByteArray × List ByteArray) = slices_Equal_string.b x0 x1 (fun v8_2 v8_3 => V.loopN (V.loopF slices_Equal_string.E Tryz.f306.ntmps [1, 1, 0, 1, 0] [] (V.codeOf Tryz.f306) (slices_Equal_string.kt x0 x1)) V.KK (slices_Equal_string.s8 x0 x1 v8_2 v8_3)) := by kernel_rfl
theorem slices_Equal_string.eq (x0 : List ByteArray) (x1 : List ByteArray) : V.evBody slices_Equal_string.E slices_Equal_string.con Tryz.f306 ((x0, x1) : List ByteArray × List ByteArray) = slices_Equal_string x0 x1 := by
  rw [slices_Equal_string.v]
  simp only [slices_Equal_string.e8]
  rfl
theorem slices_Equal_string.ok : V.Valid Tryz.prog 306 slices_Equal_string.con :=
  V.fo V.tab_nil Tryz.func306 (by kernel_rfl) (fun x y h => (show V.evBody slices_Equal_string.E slices_Equal_string.con Tryz.f306 x = _ from slices_Equal_string.eq x.1 x.2).trans (V.cfl (by kernel_rfl) h))
noncomputable abbrev impl_EqualEntries.con : V.Con := ⟨(.cons .str (.cons (.int .i64) (.cons (.int .i64) (.cons (.sl (.cons .str .nil)) (.cons .str (.cons (.int .i64) (.cons (.int .i64) (.cons (.sl (.cons .str .nil)) .nil)))))))), (.cons .bool .nil), fun (x : ByteArray × Int × Int × List ByteArray × ByteArray × Int × Int × List ByteArray) => impl_EqualEntries (x.1, x.2.1, x.2.2.1, x.2.2.2.1) x.2.2.2.2, [], [(true, 4), (true, 4)], [(false, 1)], [false], []⟩
noncomputable abbrev impl_EqualEntries.E : V.Env := V.mkE V.tys [(306, slices_Equal_string.con)] [] [] [] [] []
theorem impl_EqualEntries.eq (x0 : TEntry) (x1 : TEntry) : V.evBody impl_EqualEntries.E impl_EqualEntries.con Tryz.f281 ((x0.1, x0.2.1, x0.2.2.1, x0.2.2.2, x1.1, x1.2.1, x1.2.2.1, x1.2.2.2) : ByteArray × Int × Int × List ByteArray × ByteArray × Int × Int × List ByteArray) = impl_EqualEntries x0 x1 := by kernel_rfl
theorem impl_EqualEntries.ok : V.Valid Tryz.prog 281 impl_EqualEntries.con :=
  V.fo (V.tab_cons slices_Equal_string.ok V.tab_nil) Tryz.func281 (by kernel_rfl) (fun x y h => (show V.evBody impl_EqualEntries.E impl_EqualEntries.con Tryz.f281 x = _ from impl_EqualEntries.eq (x.1, x.2.1, x.2.2.1, x.2.2.2.1) x.2.2.2.2).trans (V.cfl (by kernel_rfl) h))
noncomputable abbrev impl_EqualProofs.con : V.Con := ⟨(.cons (.int .i64) (.cons (.sl (.cons (.int .i64) .nil)) (.cons (.int .i64) (.cons (.sl (.cons (.int .i64) .nil)) .nil)))), (.cons .bool .nil), fun (x : Int × List Int × Int × List Int) => impl_EqualProofs (x.1, x.2.1) x.2.2, [], [(true, 2), (true, 2)], [(false, 1)], [false], []⟩
noncomputable abbrev impl_EqualProofs.E : V.Env := V.mkE V.tys [(209, slices_Equal_int.con)] [] [] [] [] []
theorem impl_EqualProofs.eq (x0 : TProof) (x1 : TProof) : V.evBody impl_EqualProofs.E impl_EqualProofs.con Tryz.f282 ((x0.1, x0.2, x1.1, x1.2) : Int × List Int × Int × List Int) = impl_EqualProofs x0 x1 := by kernel_rfl
theorem impl_EqualProofs.ok : V.Valid Tryz.prog 282 impl_EqualProofs.con :=
  V.fo (V.tab_cons slices_Equal_int.ok V.tab_nil) Tryz.func282 (by kernel_rfl) (fun x y h => (show V.evBody impl_EqualProofs.E impl_EqualProofs.con Tryz.f282 x = _ from impl_EqualProofs.eq (x.1, x.2.1) x.2.2).trans (V.cfl (by kernel_rfl) h))
noncomputable abbrev impl_EqualGaps.con : V.Con := ⟨V.A10, (.cons .bool .nil), fun (x : V.D10) => impl_EqualGaps (V.p10_0 x) (V.p10_1 x), [], [(true, 13), (true, 13)], [(false, 1)], [false], []⟩
noncomputable abbrev impl_EqualGaps.E : V.Env := V.mkE V.tys [(281, impl_EqualEntries.con), (282, impl_EqualProofs.con)] [] [] [] [] []
noncomputable abbrev impl_EqualGaps.kt (x0 : TGap) (x1 : TGap) : V.Kt Bool := V.ktOf impl_EqualGaps.E impl_EqualGaps.con Tryz.f235 (V.fl10 x0 x1)
noncomputable abbrev impl_EqualGaps.s (x0 : TGap) (x1 : TGap) : V.St := ⟨[(0, .v true [.val (.int .i64 x0.1), .val (.str x0.2.1), .val (.int .i64 x0.2.2.1), .val (.int .i64 x0.2.2.2.1), .val (.sl (.cons .str .nil) x0.2.2.2.2.1), .val (.str x0.2.2.2.2.2.1), .val (.int .i64 x0.2.2.2.2.2.2.1), .val (.int .i64 x0.2.2.2.2.2.2.2.1), .val (.sl (.cons .str .nil) x0.2.2.2.2.2.2.2.2.1), .val (.int .i64 x0.2.2.2.2.2.2.2.2.2.1), .val (.sl (.cons (.int .i64) .nil) x0.2.2.2.2.2.2.2.2.2.2.1), .val (.int .i64 x0.2.2.2.2.2.2.2.2.2.2.2.1), .val (.sl (.cons (.int .i64) .nil) x0.2.2.2.2.2.2.2.2.2.2.2.2)]), (1, .v true [.val (.int .i64 x1.1), .val (.str x1.2.1), .val (.int .i64 x1.2.2.1), .val (.int .i64 x1.2.2.2.1), .val (.sl (.cons .str .nil) x1.2.2.2.2.1), .val (.str x1.2.2.2.2.2.1), .val (.int .i64 x1.2.2.2.2.2.2.1), .val (.int .i64 x1.2.2.2.2.2.2.2.1), .val (.sl (.cons .str .nil) x1.2.2.2.2.2.2.2.2.1), .val (.int .i64 x1.2.2.2.2.2.2.2.2.2.1), .val (.sl (.cons (.int .i64) .nil) x1.2.2.2.2.2.2.2.2.2.2.1), .val (.int .i64 x1.2.2.2.2.2.2.2.2.2.2.2.1), .val (.sl (.cons (.int .i64) .nil) x1.2.2.2.2.2.2.2.2.2.2.2.2)])], []⟩
theorem impl_EqualGaps.v0 (x0 : TGap) (x1 : TGap) : V.evBody impl_EqualGaps.E impl_EqualGaps.con Tryz.f235 (V.fl10 x0 x1) = V.evC impl_EqualGaps.E Tryz.f235.ntmps (V.codeOf Tryz.f235) (impl_EqualGaps.kt x0 x1) (impl_EqualGaps.s x0 x1) := by kernel_rfl
theorem impl_EqualGaps.v (x0 : TGap) (x1 : TGap) : V.evC impl_EqualGaps.E Tryz.f235.ntmps (V.codeOf Tryz.f235) (impl_EqualGaps.kt x0 x1) (impl_EqualGaps.s x0 x1) = impl_EqualGaps x0 x1 := by kernel_rfl
theorem impl_EqualGaps.eq (x0 : TGap) (x1 : TGap) : V.evBody impl_EqualGaps.E impl_EqualGaps.con Tryz.f235 (V.fl10 x0 x1) = impl_EqualGaps x0 x1 := (impl_EqualGaps.v0 x0 x1).trans (impl_EqualGaps.v x0 x1)
theorem impl_EqualGaps.ok : V.Valid Tryz.prog 235 impl_EqualGaps.con :=
  V.fo (V.tab_cons impl_EqualEntries.ok (V.tab_cons impl_EqualProofs.ok V.tab_nil)) Tryz.func235 (by kernel_rfl) (fun x y h => (show V.evBody impl_EqualGaps.E impl_EqualGaps.con Tryz.f235 x = _ from impl_EqualGaps.eq (V.p10_0 x) (V.p10_1 x)).trans (V.cfl (by kernel_rfl) h))
noncomputable abbrev impl_LeavesOf.con : V.Con := ⟨(.cons (.sl V.eEntry) .nil), (.cons (.sl (.cons (.int .i64) .nil)) .nil), fun (x : List TEntry) => impl_LeavesOf x, [], [(false, 1)], [(false, 1)], [true], []⟩
noncomputable abbrev impl_LeavesOf.E : V.Env := V.mkE V.tys [(263, impl_LeafOf.con)] [(6, [3, 7, 8, 9], [(64000038400192, (.cons (.int .i64) .nil), true)])] [] [] [] []
noncomputable abbrev impl_LeavesOf.kt (x0 : List TEntry) : V.Kt (List Int) := V.ktOf impl_LeavesOf.E impl_LeavesOf.con Tryz.f200 ((x0) : List TEntry)
noncomputable abbrev impl_LeavesOf.s6 (x0 : List TEntry) (v6_1 : Int) (v6_2 : Int) (v6_3 : List Int) : V.St := ⟨[(3, .v false [.ref 64000038400192]), (7, .v false [.val (.sl V.eEntry x0)]), (8, .v false [.val (.int .i64 v6_1)]), (9, .v false [.val (.int .i64 v6_2)])], [(64000038400192, .row (.cons (.int .i64) .nil) true v6_3)]⟩
theorem impl_LeavesOf.r6 (x0 : List TEntry) (R : V.St → Option (List Int)) (v6_1 : Int) (v6_2 : Int) (v6_3 : List Int) : V.loopF impl_LeavesOf.E Tryz.f200.ntmps [1, 1, 0, 1, 0] [] (V.codeOf Tryz.f200) (impl_LeavesOf.kt x0) R (impl_LeavesOf.s6 x0 v6_1 v6_2 v6_3) = impl_LeavesOf.g6 x0 (fun v6_1 v6_2 v6_3 => R (impl_LeavesOf.s6 x0 v6_1 v6_2 v6_3)) v6_1 v6_2 v6_3 := by kernel_rfl
theorem impl_LeavesOf.e6 (x0 : List TEntry) : ∀ (n : Nat) (v6_1 : Int) (v6_2 : Int) (v6_3 : List Int), V.loopN (V.loopF impl_LeavesOf.E Tryz.f200.ntmps [1, 1, 0, 1, 0] [] (V.codeOf Tryz.f200) (impl_LeavesOf.kt x0)) n (impl_LeavesOf.s6 x0 v6_1 v6_2 v6_3) = impl_LeavesOf.l6 x0 n v6_1 v6_2 v6_3 := by
  intro n
  induction n with
  | zero => intros; rw [V.loopN_z]; rfl
  | succ n ih =>
    intro v6_1 v6_2 v6_3
    rw [V.loopN_s, impl_LeavesOf.r6]
    simp only [ih]
    first | exact (impl_LeavesOf.u6 ..).symm | rfl
theorem impl_LeavesOf.v (x0 : List TEntry) : V.evBody impl_LeavesOf.E impl_LeavesOf.con Tryz.f200 ((x0) : List TEntry) = impl_LeavesOf.b x0 (fun v6_1 v6_2 v6_3 => V.loopN (V.loopF impl_LeavesOf.E Tryz.f200.ntmps [1, 1, 0, 1, 0] [] (V.codeOf Tryz.f200) (impl_LeavesOf.kt x0)) V.KK (impl_LeavesOf.s6 x0 v6_1 v6_2 v6_3)) := by kernel_rfl
theorem impl_LeavesOf.eq (x0 : List TEntry) : V.evBody impl_LeavesOf.E impl_LeavesOf.con Tryz.f200 ((x0) : List TEntry) = impl_LeavesOf x0 := by
  rw [impl_LeavesOf.v]
  simp only [impl_LeavesOf.e6]
  rfl
theorem impl_LeavesOf.ok : V.Valid Tryz.prog 200 impl_LeavesOf.con :=
  V.fo (V.tab_cons impl_LeafOf.ok V.tab_nil) Tryz.func200 (by kernel_rfl) (fun x y h => (show V.evBody impl_LeavesOf.E impl_LeavesOf.con Tryz.f200 x = _ from impl_LeavesOf.eq x).trans (V.cfl (by kernel_rfl) h))
noncomputable abbrev impl_above.con : V.Con := ⟨(.cons (.sl (.cons (.int .i64) .nil)) .nil), (.cons (.sl (.cons (.int .i64) .nil)) .nil), fun (x : List Int) => impl_above x, [], [(false, 1)], [(false, 1)], [true], []⟩
noncomputable abbrev impl_above.E : V.Env := V.mkE V.tys [(300, impl_NodeOf.con)] [(6, [0, 3, 4], [(64000038400192, (.cons (.int .i64) .nil), true)])] [(6, 12)] [] [] []
noncomputable abbrev impl_above.kt (x0 : List Int) : V.Kt (List Int) := V.ktOf impl_above.E impl_above.con Tryz.f262 ((x0) : List Int)
noncomputable abbrev impl_above.s6 (x0 : List Int) (v6_1 : Int) (v6_2 : List Int) : V.St := ⟨[(0, .v false [.val (.sl (.cons (.int .i64) .nil) x0)]), (3, .v false [.ref 64000038400192]), (4, .v false [.val (.int .i64 v6_1)])], [(64000038400192, .row (.cons (.int .i64) .nil) true v6_2)]⟩
theorem impl_above.r6 (x0 : List Int) (R : V.St → Option (List Int)) (v6_1 : Int) (v6_2 : List Int) : V.loopF impl_above.E Tryz.f262.ntmps [1, 1, 0, 1, 0] [] (V.codeOf Tryz.f262) (impl_above.kt x0) R (impl_above.s6 x0 v6_1 v6_2) = impl_above.g6 x0 (fun v6_1 v6_2 => R (impl_above.s6 x0 v6_1 v6_2)) v6_1 v6_2 := by kernel_rfl
theorem impl_above.e6 (x0 : List Int) : ∀ (n : Nat) (v6_1 : Int) (v6_2 : List Int), V.loopN (V.loopF impl_above.E Tryz.f262.ntmps [1, 1, 0, 1, 0] [] (V.codeOf Tryz.f262) (impl_above.kt x0)) n (impl_above.s6 x0 v6_1 v6_2) = impl_above.l6 x0 n v6_1 v6_2 := by
  intro n
  induction n with
  | zero => intros; rw [V.loopN_z]; rfl
  | succ n ih =>
    intro v6_1 v6_2
    rw [V.loopN_s, impl_above.r6]
    simp only [ih]
    first | exact (impl_above.u6 ..).symm | rfl
theorem impl_above.v (x0 : List Int) : V.evBody impl_above.E impl_above.con Tryz.f262 ((x0) : List Int) = impl_above.b x0 (fun v6_1 v6_2 => V.loopN (V.loopF impl_above.E Tryz.f262.ntmps [1, 1, 0, 1, 0] [] (V.codeOf Tryz.f262) (impl_above.kt x0)) V.KK (impl_above.s6 x0 v6_1 v6_2)) := by kernel_rfl
theorem impl_above.eq (x0 : List Int) : V.evBody impl_above.E impl_above.con Tryz.f262 ((x0) : List Int) = impl_above x0 := by
  rw [impl_above.v]
  simp only [impl_above.e6]
  rfl
theorem impl_above.ok : V.Valid Tryz.prog 262 impl_above.con :=
  V.fo (V.tab_cons impl_NodeOf.ok V.tab_nil) Tryz.func262 (by kernel_rfl) (fun x y h => (show V.evBody impl_above.E impl_above.con Tryz.f262 x = _ from impl_above.eq x).trans (V.cfl (by kernel_rfl) h))
noncomputable abbrev impl_TopOf.con : V.Con := ⟨(.cons (.sl (.cons (.int .i64) .nil)) .nil), (.cons (.int .i64) .nil), fun (x : List Int) => impl_TopOf x, [], [(false, 1)], [(false, 1)], [false], []⟩
noncomputable abbrev impl_TopOf.E : V.Env := V.mkE V.tys [(261, impl_hash.con), (262, impl_above.con)] [(6, [0], [(0, (.cons (.int .i64) .nil), false)])] [] [] [] []
noncomputable abbrev impl_TopOf.kt (x0 : List Int) : V.Kt Int := V.ktOf impl_TopOf.E impl_TopOf.con Tryz.f199 ((x0) : List Int)
noncomputable abbrev impl_TopOf.s6 (v6_0 : List Int) : V.St := ⟨[(0, .v false [.val (.sl (.cons (.int .i64) .nil) v6_0)])], []⟩
theorem impl_TopOf.r6 (x0 : List Int) (R : V.St → Option Int) (v6_0 : List Int) : V.loopF impl_TopOf.E Tryz.f199.ntmps [1, 1, 0, 0] [] (V.codeOf Tryz.f199) (impl_TopOf.kt x0) R (impl_TopOf.s6 v6_0) = impl_TopOf.g6 (fun v6_0 => R (impl_TopOf.s6 v6_0)) v6_0 := by kernel_rfl
theorem impl_TopOf.e6 (x0 : List Int) : ∀ (n : Nat) (v6_0 : List Int), V.loopN (V.loopF impl_TopOf.E Tryz.f199.ntmps [1, 1, 0, 0] [] (V.codeOf Tryz.f199) (impl_TopOf.kt x0)) n (impl_TopOf.s6 v6_0) = impl_TopOf.l6 n v6_0 := by
  intro n
  induction n with
  | zero => intros; rw [V.loopN_z]; rfl
  | succ n ih =>
    intro v6_0
    rw [V.loopN_s, impl_TopOf.r6]
    simp only [ih]
    first | exact (impl_TopOf.u6 ..).symm | rfl
theorem impl_TopOf.v (x0 : List Int) : V.evBody impl_TopOf.E impl_TopOf.con Tryz.f199 ((x0) : List Int) = impl_TopOf.b x0 (fun v6_0 => V.loopN (V.loopF impl_TopOf.E Tryz.f199.ntmps [1, 1, 0, 0] [] (V.codeOf Tryz.f199) (impl_TopOf.kt x0)) V.KK (impl_TopOf.s6 v6_0)) := by kernel_rfl
theorem impl_TopOf.eq (x0 : List Int) : V.evBody impl_TopOf.E impl_TopOf.con Tryz.f199 ((x0) : List Int) = impl_TopOf x0 := by
  rw [impl_TopOf.v]
  simp only [impl_TopOf.e6]
  rfl
theorem impl_TopOf.ok : V.Valid Tryz.prog 199 impl_TopOf.con :=
  V.fo (V.tab_cons impl_hash.ok (V.tab_cons impl_above.ok V.tab_nil)) Tryz.func199 (by kernel_rfl) (fun x y h => (show V.evBody impl_TopOf.E impl_TopOf.con Tryz.f199 x = _ from impl_TopOf.eq x).trans (V.cfl (by kernel_rfl) h))
noncomputable abbrev impl_RootOf.con : V.Con := ⟨(.cons (.sl V.eEntry) .nil), (.cons (.int .i64) .nil), fun (x : List TEntry) => impl_RootOf x, [], [(false, 1)], [(false, 1)], [false], []⟩
noncomputable abbrev impl_RootOf.E : V.Env := V.mkE V.tys [(198, impl_rootFrom.con), (199, impl_TopOf.con), (200, impl_LeavesOf.con)] [] [] [] [] []
theorem impl_RootOf.eq (x0 : List TEntry) : V.evBody impl_RootOf.E impl_RootOf.con Tryz.f94 ((x0) : List TEntry) = impl_RootOf x0 := by kernel_rfl
theorem impl_RootOf.ok : V.Valid Tryz.prog 94 impl_RootOf.con :=
  V.fo (V.tab_cons impl_rootFrom.ok (V.tab_cons impl_TopOf.ok (V.tab_cons impl_LeavesOf.ok V.tab_nil))) Tryz.func94 (by kernel_rfl) (fun x y h => (show V.evBody impl_RootOf.E impl_RootOf.con Tryz.f94 x = _ from impl_RootOf.eq x).trans (V.cfl (by kernel_rfl) h))
noncomputable abbrev impl_isZeroEntry.con : V.Con := ⟨V.eEntry, (.cons .bool .nil), fun (x : ByteArray × Int × Int × List ByteArray) => impl_isZeroEntry x, [], [(true, 4)], [(false, 1)], [false], []⟩
noncomputable abbrev impl_isZeroEntry.E : V.Env := V.mkE V.tys [(281, impl_EqualEntries.con)] [] [] [] [] []
theorem impl_isZeroEntry.eq (x0 : TEntry) : V.evBody impl_isZeroEntry.E impl_isZeroEntry.con Tryz.f237 ((x0.1, x0.2.1, x0.2.2.1, x0.2.2.2) : ByteArray × Int × Int × List ByteArray) = impl_isZeroEntry x0 := by kernel_rfl
theorem impl_isZeroEntry.ok : V.Valid Tryz.prog 237 impl_isZeroEntry.con :=
  V.fo (V.tab_cons impl_EqualEntries.ok V.tab_nil) Tryz.func237 (by kernel_rfl) (fun x y h => (show V.evBody impl_isZeroEntry.E impl_isZeroEntry.con Tryz.f237 x = _ from impl_isZeroEntry.eq x).trans (V.cfl (by kernel_rfl) h))
noncomputable abbrev impl_isZeroProof.con : V.Con := ⟨(.cons (.int .i64) (.cons (.sl (.cons (.int .i64) .nil)) .nil)), (.cons .bool .nil), fun (x : Int × List Int) => impl_isZeroProof x, [], [(true, 2)], [(false, 1)], [false], []⟩
noncomputable abbrev impl_isZeroProof.E : V.Env := V.mkE V.tys [(282, impl_EqualProofs.con)] [] [] [] [] []
theorem impl_isZeroProof.eq (x0 : TProof) : V.evBody impl_isZeroProof.E impl_isZeroProof.con Tryz.f238 ((x0.1, x0.2) : Int × List Int) = impl_isZeroProof x0 := by kernel_rfl
theorem impl_isZeroProof.ok : V.Valid Tryz.prog 238 impl_isZeroProof.con :=
  V.fo (V.tab_cons impl_EqualProofs.ok V.tab_nil) Tryz.func238 (by kernel_rfl) (fun x y h => (show V.evBody impl_isZeroProof.E impl_isZeroProof.con Tryz.f238 x = _ from impl_isZeroProof.eq x).trans (V.cfl (by kernel_rfl) h))
noncomputable abbrev impl_neighbourHolds.con : V.Con := ⟨(.cons (.int .i64) (.cons (.int .i64) (.cons .str (.cons (.int .i64) (.cons (.int .i64) (.cons (.sl (.cons .str .nil)) (.cons (.int .i64) (.cons (.sl (.cons (.int .i64) .nil)) (.cons (.int .i64) .nil))))))))), (.cons .bool .nil), fun (x : Int × Int × ByteArray × Int × Int × List ByteArray × Int × List Int × Int) => impl_neighbourHolds x.1 x.2.1 (x.2.2.1, x.2.2.2.1, x.2.2.2.2.1, x.2.2.2.2.2.1) (x.2.2.2.2.2.2.1, x.2.2.2.2.2.2.2.1) x.2.2.2.2.2.2.2.2, [], [(false, 1), (false, 1), (true, 4), (true, 2), (false, 1)], [(false, 1)], [false], []⟩
noncomputable abbrev impl_neighbourHolds.E : V.Env := V.mkE V.tys [(151, impl_InRange.con), (234, impl_CheckEntry.con), (237, impl_isZeroEntry.con), (238, impl_isZeroProof.con)] [] [] [] [] []
theorem impl_neighbourHolds.eq (x0 : Int) (x1 : Int) (x2 : TEntry) (x3 : TProof) (x4 : Int) : V.evBody impl_neighbourHolds.E impl_neighbourHolds.con Tryz.f283 ((x0, x1, x2.1, x2.2.1, x2.2.2.1, x2.2.2.2, x3.1, x3.2, x4) : Int × Int × ByteArray × Int × Int × List ByteArray × Int × List Int × Int) = impl_neighbourHolds x0 x1 x2 x3 x4 := by kernel_rfl
theorem impl_neighbourHolds.ok : V.Valid Tryz.prog 283 impl_neighbourHolds.con :=
  V.fo (V.tab_cons impl_InRange.ok (V.tab_cons impl_CheckEntry.ok (V.tab_cons impl_isZeroEntry.ok (V.tab_cons impl_isZeroProof.ok V.tab_nil)))) Tryz.func283 (by kernel_rfl) (fun x y h => (show V.evBody impl_neighbourHolds.E impl_neighbourHolds.con Tryz.f283 x = _ from impl_neighbourHolds.eq x.1 x.2.1 (x.2.2.1, x.2.2.2.1, x.2.2.2.2.1, x.2.2.2.2.2.1) (x.2.2.2.2.2.2.1, x.2.2.2.2.2.2.2.1) x.2.2.2.2.2.2.2.2).trans (V.cfl (by kernel_rfl) h))
noncomputable abbrev internal_bytealg_CompareString.con : V.Con := ⟨.cons .str (.cons .str .nil), .cons (.int .i64) .nil, fun (x : ByteArray × ByteArray) => internal_bytealg_CompareString x.1 x.2, [], [(false, 1), (false, 1)], [(false, 1)], [false], []⟩
theorem internal_bytealg_CompareString.ok : V.Valid Tryz.prog 297 internal_bytealg_CompareString.con :=
  V.cmp_valid (ρ := ⟨fun n => bif Nat.beq n 213 then 297 else 313, fun t => bif Nat.beq t 3 then 3 else 9, fun x => x⟩) { mixed := V.mixed, f213 := by kernel_rfl, f265 := by kernel_rfl, t3 := by kernel_rfl, a3 := fun w => rfl, z3 := fun w => rfl, v3 := fun w => rfl, t9 := by kernel_rfl, a9 := fun w => rfl, z9 := fun w => rfl, v9 := fun w => rfl }
noncomputable abbrev strings_Compare.con : V.Con := ⟨(.cons .str (.cons .str .nil)), (.cons (.int .i64) .nil), fun (x : ByteArray × ByteArray) => strings_Compare x.1 x.2, [], [(false, 1), (false, 1)], [(false, 1)], [false], []⟩
noncomputable abbrev strings_Compare.E : V.Env := V.mkE V.tys [(297, internal_bytealg_CompareString.con)] [] [] [] [] []
theorem strings_Compare.eq (x0 : ByteArray) (x1 : ByteArray) : V.evBody strings_Compare.E strings_Compare.con Tryz.f254 ((x0, x1) : ByteArray × ByteArray) = strings_Compare x0 x1 := by kernel_rfl
theorem strings_Compare.ok : V.Valid Tryz.prog 254 strings_Compare.con :=
  V.fo (V.tab_cons internal_bytealg_CompareString.ok V.tab_nil) Tryz.func254 (by kernel_rfl) (fun x y h => (show V.evBody strings_Compare.E strings_Compare.con Tryz.f254 x = _ from strings_Compare.eq x.1 x.2).trans (V.cfl (by kernel_rfl) h))
noncomputable abbrev impl_CompareLabels.con : V.Con := ⟨(.cons .str (.cons .str .nil)), (.cons (.int .i64) .nil), fun (x : ByteArray × ByteArray) => impl_CompareLabels x.1 x.2, [], [(false, 1), (false, 1)], [(false, 1)], [false], []⟩
noncomputable abbrev impl_CompareLabels.E : V.Env := V.mkE V.tys [(254, strings_Compare.con)] [] [] [] [] []
theorem impl_CompareLabels.eq (x0 : ByteArray) (x1 : ByteArray) : V.evBody impl_CompareLabels.E impl_CompareLabels.con Tryz.f193 ((x0, x1) : ByteArray × ByteArray) = impl_CompareLabels x0 x1 := by kernel_rfl
theorem impl_CompareLabels.ok : V.Valid Tryz.prog 193 impl_CompareLabels.con :=
  V.fo (V.tab_cons strings_Compare.ok V.tab_nil) Tryz.func193 (by kernel_rfl) (fun x y h => (show V.evBody impl_CompareLabels.E impl_CompareLabels.con Tryz.f193 x = _ from impl_CompareLabels.eq x.1 x.2).trans (V.cfl (by kernel_rfl) h))
noncomputable abbrev impl_CheckAbsence.con : V.Con := ⟨V.A11, (.cons .bool .nil), fun (x : V.D11) => impl_CheckAbsence (V.p11_0 x) (V.p11_1 x) (V.p11_2 x) (V.p11_3 x), [], [(false, 1), (false, 1), (false, 1), (true, 13)], [(false, 1)], [false], []⟩
noncomputable abbrev impl_CheckAbsence.E : V.Env := V.mkE V.tys [(94, impl_RootOf.con), (151, impl_InRange.con), (193, impl_CompareLabels.con), (252, impl_IsLabel.con), (283, impl_neighbourHolds.con)] [(7, [0, 1, 2, 7], []), (11, [1, 2, 7], [])] [] [] [] []
noncomputable abbrev impl_CheckAbsence.kt (x0 : Int) (x1 : Int) (x2 : ByteArray) (x3 : TGap) : V.Kt Bool := V.ktOf impl_CheckAbsence.E impl_CheckAbsence.con Tryz.f236 (V.fl11 x0 x1 x2 x3)
noncomputable abbrev impl_CheckAbsence.s11 (x1 : Int) (x2 : ByteArray) (x3 : TGap) : V.St := ⟨[(1, .v false [.val (.int .i64 x1)]), (2, .v false [.val (.str x2)]), (7, .v false [.ptr 64000 0])], [(64000, .box [.val (.int .i64 x3.1), .val (.str x3.2.1), .val (.int .i64 x3.2.2.1), .val (.int .i64 x3.2.2.2.1), .val (.sl (.cons .str .nil) x3.2.2.2.2.1), .val (.str x3.2.2.2.2.2.1), .val (.int .i64 x3.2.2.2.2.2.2.1), .val (.int .i64 x3.2.2.2.2.2.2.2.1), .val (.sl (.cons .str .nil) x3.2.2.2.2.2.2.2.2.1), .val (.int .i64 x3.2.2.2.2.2.2.2.2.2.1), .val (.sl (.cons (.int .i64) .nil) x3.2.2.2.2.2.2.2.2.2.2.1), .val (.int .i64 x3.2.2.2.2.2.2.2.2.2.2.2.1), .val (.sl (.cons (.int .i64) .nil) x3.2.2.2.2.2.2.2.2.2.2.2.2)])]⟩
noncomputable abbrev impl_CheckAbsence.s7 (x0 : Int) (x1 : Int) (x2 : ByteArray) (x3 : TGap) : V.St := ⟨[(0, .v false [.val (.int .i64 x0)]), (1, .v false [.val (.int .i64 x1)]), (2, .v false [.val (.str x2)]), (7, .v false [.ptr 64000 0])], [(64000, .box [.val (.int .i64 x3.1), .val (.str x3.2.1), .val (.int .i64 x3.2.2.1), .val (.int .i64 x3.2.2.2.1), .val (.sl (.cons .str .nil) x3.2.2.2.2.1), .val (.str x3.2.2.2.2.2.1), .val (.int .i64 x3.2.2.2.2.2.2.1), .val (.int .i64 x3.2.2.2.2.2.2.2.1), .val (.sl (.cons .str .nil) x3.2.2.2.2.2.2.2.2.1), .val (.int .i64 x3.2.2.2.2.2.2.2.2.2.1), .val (.sl (.cons (.int .i64) .nil) x3.2.2.2.2.2.2.2.2.2.2.1), .val (.int .i64 x3.2.2.2.2.2.2.2.2.2.2.2.1), .val (.sl (.cons (.int .i64) .nil) x3.2.2.2.2.2.2.2.2.2.2.2.2)])]⟩
theorem impl_CheckAbsence.r11 (x0 : Int) (x1 : Int) (x2 : ByteArray) (x3 : TGap) : V.joinF impl_CheckAbsence.E Tryz.f236.ntmps [1, 1] [] (V.codeOf Tryz.f236) (impl_CheckAbsence.kt x0 x1 x2 x3) (impl_CheckAbsence.s11 x1 x2 x3) = impl_CheckAbsence.g11 x1 x2 x3 := by kernel_rfl
theorem impl_CheckAbsence.e11 (x0 : Int) (x1 : Int) (x2 : ByteArray) (x3 : TGap) : V.jn (V.joinF impl_CheckAbsence.E Tryz.f236.ntmps [1, 1] [] (V.codeOf Tryz.f236) (impl_CheckAbsence.kt x0 x1 x2 x3)) (impl_CheckAbsence.s11 x1 x2 x3) = impl_CheckAbsence.l11 x1 x2 x3 := by
  rw [V.jn_eq, impl_CheckAbsence.r11]
  rfl
theorem impl_CheckAbsence.r7 (x0 : Int) (x1 : Int) (x2 : ByteArray) (x3 : TGap) : V.joinF impl_CheckAbsence.E Tryz.f236.ntmps [1] [] (V.codeOf Tryz.f236) (impl_CheckAbsence.kt x0 x1 x2 x3) (impl_CheckAbsence.s7 x0 x1 x2 x3) = impl_CheckAbsence.g7 x0 x1 x2 x3 (V.jn (V.joinF impl_CheckAbsence.E Tryz.f236.ntmps [1, 1] [] (V.codeOf Tryz.f236) (impl_CheckAbsence.kt x0 x1 x2 x3)) (impl_CheckAbsence.s11 x1 x2 x3)) := by kernel_rfl
theorem impl_CheckAbsence.e7 (x0 : Int) (x1 : Int) (x2 : ByteArray) (x3 : TGap) : V.jn (V.joinF impl_CheckAbsence.E Tryz.f236.ntmps [1] [] (V.codeOf Tryz.f236) (impl_CheckAbsence.kt x0 x1 x2 x3)) (impl_CheckAbsence.s7 x0 x1 x2 x3) = impl_CheckAbsence.l7 x0 x1 x2 x3 := by
  rw [V.jn_eq, impl_CheckAbsence.r7]
  simp only [impl_CheckAbsence.e11]
  rfl
noncomputable abbrev impl_CheckAbsence.s (x0 : Int) (x1 : Int) (x2 : ByteArray) (x3 : TGap) : V.St := ⟨[(0, .v false [.val (.int .i64 x0)]), (1, .v false [.val (.int .i64 x1)]), (2, .v false [.val (.str x2)]), (3, .v true [.val (.int .i64 x3.1), .val (.str x3.2.1), .val (.int .i64 x3.2.2.1), .val (.int .i64 x3.2.2.2.1), .val (.sl (.cons .str .nil) x3.2.2.2.2.1), .val (.str x3.2.2.2.2.2.1), .val (.int .i64 x3.2.2.2.2.2.2.1), .val (.int .i64 x3.2.2.2.2.2.2.2.1), .val (.sl (.cons .str .nil) x3.2.2.2.2.2.2.2.2.1), .val (.int .i64 x3.2.2.2.2.2.2.2.2.2.1), .val (.sl (.cons (.int .i64) .nil) x3.2.2.2.2.2.2.2.2.2.2.1), .val (.int .i64 x3.2.2.2.2.2.2.2.2.2.2.2.1), .val (.sl (.cons (.int .i64) .nil) x3.2.2.2.2.2.2.2.2.2.2.2.2)])], []⟩
theorem impl_CheckAbsence.v0 (x0 : Int) (x1 : Int) (x2 : ByteArray) (x3 : TGap) : V.evBody impl_CheckAbsence.E impl_CheckAbsence.con Tryz.f236 (V.fl11 x0 x1 x2 x3) = V.evC impl_CheckAbsence.E Tryz.f236.ntmps (V.codeOf Tryz.f236) (impl_CheckAbsence.kt x0 x1 x2 x3) (impl_CheckAbsence.s x0 x1 x2 x3) := by kernel_rfl
theorem impl_CheckAbsence.v (x0 : Int) (x1 : Int) (x2 : ByteArray) (x3 : TGap) : V.evC impl_CheckAbsence.E Tryz.f236.ntmps (V.codeOf Tryz.f236) (impl_CheckAbsence.kt x0 x1 x2 x3) (impl_CheckAbsence.s x0 x1 x2 x3) = impl_CheckAbsence.b x0 x1 x2 x3 (V.jn (V.joinF impl_CheckAbsence.E Tryz.f236.ntmps [1] [] (V.codeOf Tryz.f236) (impl_CheckAbsence.kt x0 x1 x2 x3)) (impl_CheckAbsence.s7 x0 x1 x2 x3)) := by kernel_rfl
theorem impl_CheckAbsence.eq (x0 : Int) (x1 : Int) (x2 : ByteArray) (x3 : TGap) : V.evBody impl_CheckAbsence.E impl_CheckAbsence.con Tryz.f236 (V.fl11 x0 x1 x2 x3) = impl_CheckAbsence x0 x1 x2 x3 := by
  rw [impl_CheckAbsence.v0, impl_CheckAbsence.v]
  simp only [impl_CheckAbsence.e7]
  rfl
theorem impl_CheckAbsence.ok : V.Valid Tryz.prog 236 impl_CheckAbsence.con :=
  V.fo (V.tab_cons impl_RootOf.ok (V.tab_cons impl_InRange.ok (V.tab_cons impl_CompareLabels.ok (V.tab_cons impl_IsLabel.ok (V.tab_cons impl_neighbourHolds.ok V.tab_nil))))) Tryz.func236 (by kernel_rfl) (fun x y h => (show V.evBody impl_CheckAbsence.E impl_CheckAbsence.con Tryz.f236 x = _ from impl_CheckAbsence.eq (V.p11_0 x) (V.p11_1 x) (V.p11_2 x) (V.p11_3 x)).trans (V.cfl (by kernel_rfl) h))
noncomputable abbrev impl_isProved.con : V.Con := ⟨V.A12, (.cons .bool .nil), fun (x : V.D12) => impl_isProved (V.p12_0 x) (V.p12_1 x) (V.p12_2 x), [], [(true, 16), (false, 1), (true, 21)], [(false, 1)], [false], []⟩
noncomputable abbrev impl_isProved.E : V.Env := V.mkE V.tys [(234, impl_CheckEntry.con), (235, impl_EqualGaps.con), (236, impl_CheckAbsence.con), (237, impl_isZeroEntry.con), (238, impl_isZeroProof.con)] [] [] [] [] []
noncomputable abbrev impl_isProved.kt (x0 : THead) (x1 : ByteArray) (x2 : TAnswer) : V.Kt Bool := V.ktOf impl_isProved.E impl_isProved.con Tryz.f163 (V.fl12 x0 x1 x2)
noncomputable abbrev impl_isProved.s (x0 : THead) (x1 : ByteArray) (x2 : TAnswer) : V.St := ⟨[(0, .v true [.val (.int .i64 x0.1), .val (.int .i64 x0.2.1), .val (.int .i64 x0.2.2.1), .val (.int .i64 x0.2.2.2.1), .val (.int .i64 x0.2.2.2.2.1), .val (.int .i64 x0.2.2.2.2.2.1), .val (.int .i64 x0.2.2.2.2.2.2.1), .val (.int .i64 x0.2.2.2.2.2.2.2.1), .val (.sl (.cons (.int .i64) .nil) x0.2.2.2.2.2.2.2.2.1), .val (.int .i64 x0.2.2.2.2.2.2.2.2.2.1), .val (.sl (.cons (.int .i64) .nil) x0.2.2.2.2.2.2.2.2.2.2.1), .val (.int .i64 x0.2.2.2.2.2.2.2.2.2.2.2.1), .val (.int .i64 x0.2.2.2.2.2.2.2.2.2.2.2.2.1), .val (.sl (.cons (.int .i64) .nil) x0.2.2.2.2.2.2.2.2.2.2.2.2.2.1), .val (.int .i64 x0.2.2.2.2.2.2.2.2.2.2.2.2.2.2.1), .val (.bool x0.2.2.2.2.2.2.2.2.2.2.2.2.2.2.2)]), (1, .v false [.val (.str x1)]), (2, .v true [.val (.sl V.eSigned x2.1), .val (.bool x2.2.1), .val (.str x2.2.2.1), .val (.int .i64 x2.2.2.2.1), .val (.int .i64 x2.2.2.2.2.1), .val (.sl (.cons .str .nil) x2.2.2.2.2.2.1), .val (.int .i64 x2.2.2.2.2.2.2.1), .val (.sl (.cons (.int .i64) .nil) x2.2.2.2.2.2.2.2.1), .val (.int .i64 x2.2.2.2.2.2.2.2.2.1), .val (.str x2.2.2.2.2.2.2.2.2.2.1), .val (.int .i64 x2.2.2.2.2.2.2.2.2.2.2.1), .val (.int .i64 x2.2.2.2.2.2.2.2.2.2.2.2.1), .val (.sl (.cons .str .nil) x2.2.2.2.2.2.2.2.2.2.2.2.2.1), .val (.str x2.2.2.2.2.2.2.2.2.2.2.2.2.2.1), .val (.int .i64 x2.2.2.2.2.2.2.2.2.2.2.2.2.2.2.1), .val (.int .i64 x2.2.2.2.2.2.2.2.2.2.2.2.2.2.2.2.1), .val (.sl (.cons .str .nil) x2.2.2.2.2.2.2.2.2.2.2.2.2.2.2.2.2.1), .val (.int .i64 x2.2.2.2.2.2.2.2.2.2.2.2.2.2.2.2.2.2.1), .val (.sl (.cons (.int .i64) .nil) x2.2.2.2.2.2.2.2.2.2.2.2.2.2.2.2.2.2.2.1), .val (.int .i64 x2.2.2.2.2.2.2.2.2.2.2.2.2.2.2.2.2.2.2.2.1), .val (.sl (.cons (.int .i64) .nil) x2.2.2.2.2.2.2.2.2.2.2.2.2.2.2.2.2.2.2.2.2)])], []⟩
theorem impl_isProved.v0 (x0 : THead) (x1 : ByteArray) (x2 : TAnswer) : V.evBody impl_isProved.E impl_isProved.con Tryz.f163 (V.fl12 x0 x1 x2) = V.evC impl_isProved.E Tryz.f163.ntmps (V.codeOf Tryz.f163) (impl_isProved.kt x0 x1 x2) (impl_isProved.s x0 x1 x2) := by kernel_rfl
theorem impl_isProved.v (x0 : THead) (x1 : ByteArray) (x2 : TAnswer) : V.evC impl_isProved.E Tryz.f163.ntmps (V.codeOf Tryz.f163) (impl_isProved.kt x0 x1 x2) (impl_isProved.s x0 x1 x2) = impl_isProved x0 x1 x2 := by kernel_rfl
theorem impl_isProved.eq (x0 : THead) (x1 : ByteArray) (x2 : TAnswer) : V.evBody impl_isProved.E impl_isProved.con Tryz.f163 (V.fl12 x0 x1 x2) = impl_isProved x0 x1 x2 := (impl_isProved.v0 x0 x1 x2).trans (impl_isProved.v x0 x1 x2)
theorem impl_isProved.ok : V.Valid Tryz.prog 163 impl_isProved.con :=
  V.fo (V.tab_cons impl_CheckEntry.ok (V.tab_cons impl_EqualGaps.ok (V.tab_cons impl_CheckAbsence.ok (V.tab_cons impl_isZeroEntry.ok (V.tab_cons impl_isZeroProof.ok V.tab_nil))))) Tryz.func163 (by kernel_rfl) (fun x y h => (show V.evBody impl_isProved.E impl_isProved.con Tryz.f163 x = _ from impl_isProved.eq (V.p12_0 x) (V.p12_1 x) (V.p12_2 x)).trans (V.cfl (by kernel_rfl) h))
noncomputable abbrev impl_CheckAnswer.con : V.Con := ⟨V.A13, (.cons (.int .i64) .nil), fun (x : V.D13) => impl_CheckAnswer (V.p13_0 x) (V.p13_1 x) (V.p13_2 x) (V.p13_3 x), [], [(false, 1), (false, 1), (true, 21), (false, 1)], [(false, 1)], [false], []⟩
noncomputable abbrev impl_CheckAnswer.E : V.Env := V.mkE V.tys [(161, impl_LastHead.con), (162, impl_IsFresh.con), (163, impl_isProved.con)] [] [] [] [] []
noncomputable abbrev impl_CheckAnswer.kt (x0 : Int) (x1 : ByteArray) (x2 : TAnswer) (x3 : Int) : V.Kt Int := V.ktOf impl_CheckAnswer.E impl_CheckAnswer.con Tryz.f68 (V.fl13 x0 x1 x2 x3)
noncomputable abbrev impl_CheckAnswer.s (x0 : Int) (x1 : ByteArray) (x2 : TAnswer) (x3 : Int) : V.St := ⟨[(0, .v false [.val (.int .i64 x0)]), (1, .v false [.val (.str x1)]), (2, .v true [.val (.sl V.eSigned x2.1), .val (.bool x2.2.1), .val (.str x2.2.2.1), .val (.int .i64 x2.2.2.2.1), .val (.int .i64 x2.2.2.2.2.1), .val (.sl (.cons .str .nil) x2.2.2.2.2.2.1), .val (.int .i64 x2.2.2.2.2.2.2.1), .val (.sl (.cons (.int .i64) .nil) x2.2.2.2.2.2.2.2.1), .val (.int .i64 x2.2.2.2.2.2.2.2.2.1), .val (.str x2.2.2.2.2.2.2.2.2.2.1), .val (.int .i64 x2.2.2.2.2.2.2.2.2.2.2.1), .val (.int .i64 x2.2.2.2.2.2.2.2.2.2.2.2.1), .val (.sl (.cons .str .nil) x2.2.2.2.2.2.2.2.2.2.2.2.2.1), .val (.str x2.2.2.2.2.2.2.2.2.2.2.2.2.2.1), .val (.int .i64 x2.2.2.2.2.2.2.2.2.2.2.2.2.2.2.1), .val (.int .i64 x2.2.2.2.2.2.2.2.2.2.2.2.2.2.2.2.1), .val (.sl (.cons .str .nil) x2.2.2.2.2.2.2.2.2.2.2.2.2.2.2.2.2.1), .val (.int .i64 x2.2.2.2.2.2.2.2.2.2.2.2.2.2.2.2.2.2.1), .val (.sl (.cons (.int .i64) .nil) x2.2.2.2.2.2.2.2.2.2.2.2.2.2.2.2.2.2.2.1), .val (.int .i64 x2.2.2.2.2.2.2.2.2.2.2.2.2.2.2.2.2.2.2.2.1), .val (.sl (.cons (.int .i64) .nil) x2.2.2.2.2.2.2.2.2.2.2.2.2.2.2.2.2.2.2.2.2)]), (3, .v false [.val (.int .i64 x3)])], []⟩
theorem impl_CheckAnswer.v0 (x0 : Int) (x1 : ByteArray) (x2 : TAnswer) (x3 : Int) : V.evBody impl_CheckAnswer.E impl_CheckAnswer.con Tryz.f68 (V.fl13 x0 x1 x2 x3) = V.evC impl_CheckAnswer.E Tryz.f68.ntmps (V.codeOf Tryz.f68) (impl_CheckAnswer.kt x0 x1 x2 x3) (impl_CheckAnswer.s x0 x1 x2 x3) := by kernel_rfl
theorem impl_CheckAnswer.v (x0 : Int) (x1 : ByteArray) (x2 : TAnswer) (x3 : Int) : V.evC impl_CheckAnswer.E Tryz.f68.ntmps (V.codeOf Tryz.f68) (impl_CheckAnswer.kt x0 x1 x2 x3) (impl_CheckAnswer.s x0 x1 x2 x3) = impl_CheckAnswer x0 x1 x2 x3 := by kernel_rfl
theorem impl_CheckAnswer.eq (x0 : Int) (x1 : ByteArray) (x2 : TAnswer) (x3 : Int) : V.evBody impl_CheckAnswer.E impl_CheckAnswer.con Tryz.f68 (V.fl13 x0 x1 x2 x3) = impl_CheckAnswer x0 x1 x2 x3 := (impl_CheckAnswer.v0 x0 x1 x2 x3).trans (impl_CheckAnswer.v x0 x1 x2 x3)
theorem impl_CheckAnswer.ok : V.Valid Tryz.prog 68 impl_CheckAnswer.con :=
  V.fo (V.tab_cons impl_LastHead.ok (V.tab_cons impl_IsFresh.ok (V.tab_cons impl_isProved.ok V.tab_nil))) Tryz.func68 (by kernel_rfl) (fun x y h => (show V.evBody impl_CheckAnswer.E impl_CheckAnswer.con Tryz.f68 x = _ from impl_CheckAnswer.eq (V.p13_0 x) (V.p13_1 x) (V.p13_2 x) (V.p13_3 x)).trans (V.cfl (by kernel_rfl) h))
noncomputable abbrev laws_eqIntS.con : V.Con := ⟨(.cons (.sl (.cons (.int .i64) .nil)) (.cons (.sl (.cons (.int .i64) .nil)) .nil)), (.cons .bool .nil), fun (x : List Int × List Int) => laws_eqIntS x.1 x.2, [], [(false, 1), (false, 1)], [(false, 1)], [false], []⟩
noncomputable abbrev laws_eqIntS.E : V.Env := V.mkE V.tys [] [(8, [0, 1, 5], [])] [(6, 8)] [] [] []
noncomputable abbrev laws_eqIntS.kt (x0 : List Int) (x1 : List Int) : V.Kt Bool := V.ktOf laws_eqIntS.E laws_eqIntS.con Tryz.f79 ((x0, x1) : List Int × List Int)
noncomputable abbrev laws_eqIntS.s8 (x0 : List Int) (x1 : List Int) (v8_2 : Int) : V.St := ⟨[(0, .v false [.val (.sl (.cons (.int .i64) .nil) x0)]), (1, .v false [.val (.sl (.cons (.int .i64) .nil) x1)]), (5, .v false [.val (.int .i64 v8_2)])], []⟩
theorem laws_eqIntS.r8 (x0 : List Int) (x1 : List Int) (R : V.St → Option Bool) (v8_2 : Int) : V.loopF laws_eqIntS.E Tryz.f79.ntmps [1, 1, 0, 1, 0] [] (V.codeOf Tryz.f79) (laws_eqIntS.kt x0 x1) R (laws_eqIntS.s8 x0 x1 v8_2) = laws_eqIntS.g8 x0 x1 (fun v8_2 => R (laws_eqIntS.s8 x0 x1 v8_2)) v8_2 := by kernel_rfl
theorem laws_eqIntS.e8 (x0 : List Int) (x1 : List Int) : ∀ (n : Nat) (v8_2 : Int), V.loopN (V.loopF laws_eqIntS.E Tryz.f79.ntmps [1, 1, 0, 1, 0] [] (V.codeOf Tryz.f79) (laws_eqIntS.kt x0 x1)) n (laws_eqIntS.s8 x0 x1 v8_2) = laws_eqIntS.l8 x0 x1 n v8_2 := by
  intro n
  induction n with
  | zero => intros; rw [V.loopN_z]; rfl
  | succ n ih =>
    intro v8_2
    rw [V.loopN_s, laws_eqIntS.r8]
    simp only [ih]
    first | exact (laws_eqIntS.u8 ..).symm | rfl
theorem laws_eqIntS.v (x0 : List Int) (x1 : List Int) : V.evBody laws_eqIntS.E laws_eqIntS.con Tryz.f79 ((x0, x1) : List Int × List Int) = laws_eqIntS.b x0 x1 (fun v8_2 => V.loopN (V.loopF laws_eqIntS.E Tryz.f79.ntmps [1, 1, 0, 1, 0] [] (V.codeOf Tryz.f79) (laws_eqIntS.kt x0 x1)) V.KK (laws_eqIntS.s8 x0 x1 v8_2)) := by kernel_rfl
theorem laws_eqIntS.eq (x0 : List Int) (x1 : List Int) : V.evBody laws_eqIntS.E laws_eqIntS.con Tryz.f79 ((x0, x1) : List Int × List Int) = laws_eqIntS x0 x1 := by
  rw [laws_eqIntS.v]
  simp only [laws_eqIntS.e8]
  rfl
theorem laws_eqIntS.ok : V.Valid Tryz.prog 79 laws_eqIntS.con :=
  V.fo V.tab_nil Tryz.func79 (by kernel_rfl) (fun x y h => (show V.evBody laws_eqIntS.E laws_eqIntS.con Tryz.f79 x = _ from laws_eqIntS.eq x.1 x.2).trans (V.cfl (by kernel_rfl) h))
noncomputable abbrev laws_eqKeys.con : V.Con := ⟨(.cons (.sl (.cons (.int .i64) .nil)) (.cons (.int .i64) (.cons (.sl (.cons (.int .i64) .nil)) (.cons (.int .i64) .nil)))), (.cons .bool .nil), fun (x : List Int × Int × List Int × Int) => laws_eqKeys (x.1, x.2.1) x.2.2, [], [(true, 2), (true, 2)], [(false, 1)], [false], []⟩
noncomputable abbrev laws_eqKeys.E : V.Env := V.mkE V.tys [(79, laws_eqIntS.con)] [] [] [] [] []
theorem laws_eqKeys.eq (x0 : TKeys) (x1 : TKeys) : V.evBody laws_eqKeys.E laws_eqKeys.con Tryz.f54 ((x0.1, x0.2, x1.1, x1.2) : List Int × Int × List Int × Int) = laws_eqKeys x0 x1 := by kernel_rfl
theorem laws_eqKeys.ok : V.Valid Tryz.prog 54 laws_eqKeys.con :=
  V.fo (V.tab_cons laws_eqIntS.ok V.tab_nil) Tryz.func54 (by kernel_rfl) (fun x y h => (show V.evBody laws_eqKeys.E laws_eqKeys.con Tryz.f54 x = _ from laws_eqKeys.eq (x.1, x.2.1) x.2.2).trans (V.cfl (by kernel_rfl) h))
noncomputable abbrev laws_eqHead.con : V.Con := ⟨V.A8, (.cons .bool .nil), fun (x : V.D8) => laws_eqHead (V.p8_0 x) (V.p8_1 x), [], [(true, 16), (true, 16)], [(false, 1)], [false], []⟩
noncomputable abbrev laws_eqHead.E : V.Env := V.mkE V.tys [(54, laws_eqKeys.con)] [] [] [] [] []
noncomputable abbrev laws_eqHead.kt (x0 : THead) (x1 : THead) : V.Kt Bool := V.ktOf laws_eqHead.E laws_eqHead.con Tryz.f21 (V.fl8 x0 x1)
noncomputable abbrev laws_eqHead.s (x0 : THead) (x1 : THead) : V.St := ⟨[(0, .v true [.val (.int .i64 x0.1), .val (.int .i64 x0.2.1), .val (.int .i64 x0.2.2.1), .val (.int .i64 x0.2.2.2.1), .val (.int .i64 x0.2.2.2.2.1), .val (.int .i64 x0.2.2.2.2.2.1), .val (.int .i64 x0.2.2.2.2.2.2.1), .val (.int .i64 x0.2.2.2.2.2.2.2.1), .val (.sl (.cons (.int .i64) .nil) x0.2.2.2.2.2.2.2.2.1), .val (.int .i64 x0.2.2.2.2.2.2.2.2.2.1), .val (.sl (.cons (.int .i64) .nil) x0.2.2.2.2.2.2.2.2.2.2.1), .val (.int .i64 x0.2.2.2.2.2.2.2.2.2.2.2.1), .val (.int .i64 x0.2.2.2.2.2.2.2.2.2.2.2.2.1), .val (.sl (.cons (.int .i64) .nil) x0.2.2.2.2.2.2.2.2.2.2.2.2.2.1), .val (.int .i64 x0.2.2.2.2.2.2.2.2.2.2.2.2.2.2.1), .val (.bool x0.2.2.2.2.2.2.2.2.2.2.2.2.2.2.2)]), (1, .v true [.val (.int .i64 x1.1), .val (.int .i64 x1.2.1), .val (.int .i64 x1.2.2.1), .val (.int .i64 x1.2.2.2.1), .val (.int .i64 x1.2.2.2.2.1), .val (.int .i64 x1.2.2.2.2.2.1), .val (.int .i64 x1.2.2.2.2.2.2.1), .val (.int .i64 x1.2.2.2.2.2.2.2.1), .val (.sl (.cons (.int .i64) .nil) x1.2.2.2.2.2.2.2.2.1), .val (.int .i64 x1.2.2.2.2.2.2.2.2.2.1), .val (.sl (.cons (.int .i64) .nil) x1.2.2.2.2.2.2.2.2.2.2.1), .val (.int .i64 x1.2.2.2.2.2.2.2.2.2.2.2.1), .val (.int .i64 x1.2.2.2.2.2.2.2.2.2.2.2.2.1), .val (.sl (.cons (.int .i64) .nil) x1.2.2.2.2.2.2.2.2.2.2.2.2.2.1), .val (.int .i64 x1.2.2.2.2.2.2.2.2.2.2.2.2.2.2.1), .val (.bool x1.2.2.2.2.2.2.2.2.2.2.2.2.2.2.2)])], []⟩
theorem laws_eqHead.v0 (x0 : THead) (x1 : THead) : V.evBody laws_eqHead.E laws_eqHead.con Tryz.f21 (V.fl8 x0 x1) = V.evC laws_eqHead.E Tryz.f21.ntmps (V.codeOf Tryz.f21) (laws_eqHead.kt x0 x1) (laws_eqHead.s x0 x1) := by kernel_rfl
theorem laws_eqHead.v (x0 : THead) (x1 : THead) : V.evC laws_eqHead.E Tryz.f21.ntmps (V.codeOf Tryz.f21) (laws_eqHead.kt x0 x1) (laws_eqHead.s x0 x1) = laws_eqHead x0 x1 := by kernel_rfl
theorem laws_eqHead.eq (x0 : THead) (x1 : THead) : V.evBody laws_eqHead.E laws_eqHead.con Tryz.f21 (V.fl8 x0 x1) = laws_eqHead x0 x1 := (laws_eqHead.v0 x0 x1).trans (laws_eqHead.v x0 x1)
theorem laws_eqHead.ok : V.Valid Tryz.prog 21 laws_eqHead.con :=
  V.fo (V.tab_cons laws_eqKeys.ok V.tab_nil) Tryz.func21 (by kernel_rfl) (fun x y h => (show V.evBody laws_eqHead.E laws_eqHead.con Tryz.f21 x = _ from laws_eqHead.eq (V.p8_0 x) (V.p8_1 x)).trans (V.cfl (by kernel_rfl) h))
noncomputable abbrev laws_eqSig.con : V.Con := ⟨(.cons (.int .i64) (.cons (.int .i64) (.cons (.int .i64) (.cons (.int .i64) .nil)))), (.cons .bool .nil), fun (x : Int × Int × Int × Int) => laws_eqSig (x.1, x.2.1) x.2.2, [], [(true, 2), (true, 2)], [(false, 1)], [false], []⟩
noncomputable abbrev laws_eqSig.E : V.Env := V.mkE V.tys [] [] [] [] [] []
theorem laws_eqSig.eq (x0 : TSig) (x1 : TSig) : V.evBody laws_eqSig.E laws_eqSig.con Tryz.f40 ((x0.1, x0.2, x1.1, x1.2) : Int × Int × Int × Int) = laws_eqSig x0 x1 := by kernel_rfl
theorem laws_eqSig.ok : V.Valid Tryz.prog 40 laws_eqSig.con :=
  V.fo V.tab_nil Tryz.func40 (by kernel_rfl) (fun x y h => (show V.evBody laws_eqSig.E laws_eqSig.con Tryz.f40 x = _ from laws_eqSig.eq (x.1, x.2.1) x.2.2).trans (V.cfl (by kernel_rfl) h))
noncomputable abbrev laws_eqSigS.con : V.Con := ⟨(.cons (.sl (.cons (.int .i64) (.cons (.int .i64) .nil))) (.cons (.sl (.cons (.int .i64) (.cons (.int .i64) .nil))) .nil)), (.cons .bool .nil), fun (x : List TSig × List TSig) => laws_eqSigS x.1 x.2, [], [(false, 1), (false, 1)], [(false, 1)], [false], []⟩
noncomputable abbrev laws_eqSigS.E : V.Env := V.mkE V.tys [(40, laws_eqSig.con)] [(8, [0, 1, 5], [])] [(6, 8)] [] [] []
noncomputable abbrev laws_eqSigS.kt (x0 : List TSig) (x1 : List TSig) : V.Kt Bool := V.ktOf laws_eqSigS.E laws_eqSigS.con Tryz.f212 ((x0, x1) : List TSig × List TSig)
noncomputable abbrev laws_eqSigS.s8 (x0 : List TSig) (x1 : List TSig) (v8_2 : Int) : V.St := ⟨[(0, .v false [.val (.sl (.cons (.int .i64) (.cons (.int .i64) .nil)) x0)]), (1, .v false [.val (.sl (.cons (.int .i64) (.cons (.int .i64) .nil)) x1)]), (5, .v false [.val (.int .i64 v8_2)])], []⟩
theorem laws_eqSigS.r8 (x0 : List TSig) (x1 : List TSig) (R : V.St → Option Bool) (v8_2 : Int) : V.loopF laws_eqSigS.E Tryz.f212.ntmps [1, 1, 0, 1, 0] [] (V.codeOf Tryz.f212) (laws_eqSigS.kt x0 x1) R (laws_eqSigS.s8 x0 x1 v8_2) = laws_eqSigS.g8 x0 x1 (fun v8_2 => R (laws_eqSigS.s8 x0 x1 v8_2)) v8_2 := by kernel_rfl
theorem laws_eqSigS.e8 (x0 : List TSig) (x1 : List TSig) : ∀ (n : Nat) (v8_2 : Int), V.loopN (V.loopF laws_eqSigS.E Tryz.f212.ntmps [1, 1, 0, 1, 0] [] (V.codeOf Tryz.f212) (laws_eqSigS.kt x0 x1)) n (laws_eqSigS.s8 x0 x1 v8_2) = laws_eqSigS.l8 x0 x1 n v8_2 := by
  intro n
  induction n with
  | zero => intros; rw [V.loopN_z]; rfl
  | succ n ih =>
    intro v8_2
    rw [V.loopN_s, laws_eqSigS.r8]
    simp only [ih]
    first | exact (laws_eqSigS.u8 ..).symm | rfl
theorem laws_eqSigS.v (x0 : List TSig) (x1 : List TSig) : V.evBody laws_eqSigS.E laws_eqSigS.con Tryz.f212 ((x0, x1) : List TSig × List TSig) = laws_eqSigS.b x0 x1 (fun v8_2 => V.loopN (V.loopF laws_eqSigS.E Tryz.f212.ntmps [1, 1, 0, 1, 0] [] (V.codeOf Tryz.f212) (laws_eqSigS.kt x0 x1)) V.KK (laws_eqSigS.s8 x0 x1 v8_2)) := by kernel_rfl
theorem laws_eqSigS.eq (x0 : List TSig) (x1 : List TSig) : V.evBody laws_eqSigS.E laws_eqSigS.con Tryz.f212 ((x0, x1) : List TSig × List TSig) = laws_eqSigS x0 x1 := by
  rw [laws_eqSigS.v]
  simp only [laws_eqSigS.e8]
  rfl
theorem laws_eqSigS.ok : V.Valid Tryz.prog 212 laws_eqSigS.con :=
  V.fo (V.tab_cons laws_eqSig.ok V.tab_nil) Tryz.func212 (by kernel_rfl) (fun x y h => (show V.evBody laws_eqSigS.E laws_eqSigS.con Tryz.f212 x = _ from laws_eqSigS.eq x.1 x.2).trans (V.cfl (by kernel_rfl) h))
noncomputable abbrev laws_eqSigned.con : V.Con := ⟨V.A15, (.cons .bool .nil), fun (x : V.D15) => laws_eqSigned (V.p15_0 x) (V.p15_1 x), [], [(true, 17), (true, 17)], [(false, 1)], [false], []⟩
noncomputable abbrev laws_eqSigned.E : V.Env := V.mkE V.tys [(21, laws_eqHead.con), (212, laws_eqSigS.con)] [] [] [] [] []
noncomputable abbrev laws_eqSigned.kt (x0 : TSigned) (x1 : TSigned) : V.Kt Bool := V.ktOf laws_eqSigned.E laws_eqSigned.con Tryz.f108 (V.fl15 x0 x1)
noncomputable abbrev laws_eqSigned.s (x0 : TSigned) (x1 : TSigned) : V.St := ⟨[(0, .v true [.val (.int .i64 x0.1), .val (.int .i64 x0.2.1), .val (.int .i64 x0.2.2.1), .val (.int .i64 x0.2.2.2.1), .val (.int .i64 x0.2.2.2.2.1), .val (.int .i64 x0.2.2.2.2.2.1), .val (.int .i64 x0.2.2.2.2.2.2.1), .val (.int .i64 x0.2.2.2.2.2.2.2.1), .val (.sl (.cons (.int .i64) .nil) x0.2.2.2.2.2.2.2.2.1), .val (.int .i64 x0.2.2.2.2.2.2.2.2.2.1), .val (.sl (.cons (.int .i64) .nil) x0.2.2.2.2.2.2.2.2.2.2.1), .val (.int .i64 x0.2.2.2.2.2.2.2.2.2.2.2.1), .val (.int .i64 x0.2.2.2.2.2.2.2.2.2.2.2.2.1), .val (.sl (.cons (.int .i64) .nil) x0.2.2.2.2.2.2.2.2.2.2.2.2.2.1), .val (.int .i64 x0.2.2.2.2.2.2.2.2.2.2.2.2.2.2.1), .val (.bool x0.2.2.2.2.2.2.2.2.2.2.2.2.2.2.2.1), .val (.sl (.cons (.int .i64) (.cons (.int .i64) .nil)) x0.2.2.2.2.2.2.2.2.2.2.2.2.2.2.2.2)]), (1, .v true [.val (.int .i64 x1.1), .val (.int .i64 x1.2.1), .val (.int .i64 x1.2.2.1), .val (.int .i64 x1.2.2.2.1), .val (.int .i64 x1.2.2.2.2.1), .val (.int .i64 x1.2.2.2.2.2.1), .val (.int .i64 x1.2.2.2.2.2.2.1), .val (.int .i64 x1.2.2.2.2.2.2.2.1), .val (.sl (.cons (.int .i64) .nil) x1.2.2.2.2.2.2.2.2.1), .val (.int .i64 x1.2.2.2.2.2.2.2.2.2.1), .val (.sl (.cons (.int .i64) .nil) x1.2.2.2.2.2.2.2.2.2.2.1), .val (.int .i64 x1.2.2.2.2.2.2.2.2.2.2.2.1), .val (.int .i64 x1.2.2.2.2.2.2.2.2.2.2.2.2.1), .val (.sl (.cons (.int .i64) .nil) x1.2.2.2.2.2.2.2.2.2.2.2.2.2.1), .val (.int .i64 x1.2.2.2.2.2.2.2.2.2.2.2.2.2.2.1), .val (.bool x1.2.2.2.2.2.2.2.2.2.2.2.2.2.2.2.1), .val (.sl (.cons (.int .i64) (.cons (.int .i64) .nil)) x1.2.2.2.2.2.2.2.2.2.2.2.2.2.2.2.2)])], []⟩
theorem laws_eqSigned.v0 (x0 : TSigned) (x1 : TSigned) : V.evBody laws_eqSigned.E laws_eqSigned.con Tryz.f108 (V.fl15 x0 x1) = V.evC laws_eqSigned.E Tryz.f108.ntmps (V.codeOf Tryz.f108) (laws_eqSigned.kt x0 x1) (laws_eqSigned.s x0 x1) := by kernel_rfl
theorem laws_eqSigned.v (x0 : TSigned) (x1 : TSigned) : V.evC laws_eqSigned.E Tryz.f108.ntmps (V.codeOf Tryz.f108) (laws_eqSigned.kt x0 x1) (laws_eqSigned.s x0 x1) = laws_eqSigned x0 x1 := by kernel_rfl
theorem laws_eqSigned.eq (x0 : TSigned) (x1 : TSigned) : V.evBody laws_eqSigned.E laws_eqSigned.con Tryz.f108 (V.fl15 x0 x1) = laws_eqSigned x0 x1 := (laws_eqSigned.v0 x0 x1).trans (laws_eqSigned.v x0 x1)
theorem laws_eqSigned.ok : V.Valid Tryz.prog 108 laws_eqSigned.con :=
  V.fo (V.tab_cons laws_eqHead.ok (V.tab_cons laws_eqSigS.ok V.tab_nil)) Tryz.func108 (by kernel_rfl) (fun x y h => (show V.evBody laws_eqSigned.E laws_eqSigned.con Tryz.f108 x = _ from laws_eqSigned.eq (V.p15_0 x) (V.p15_1 x)).trans (V.cfl (by kernel_rfl) h))
noncomputable abbrev laws_eqSignedS.con : V.Con := ⟨(.cons (.sl V.eSigned) (.cons (.sl V.eSigned) .nil)), (.cons .bool .nil), fun (x : List TSigned × List TSigned) => laws_eqSignedS x.1 x.2, [], [(false, 1), (false, 1)], [(false, 1)], [false], []⟩
noncomputable abbrev laws_eqSignedS.E : V.Env := V.mkE V.tys [(108, laws_eqSigned.con)] [(8, [0, 1, 5], [])] [(6, 8)] [] [] []
noncomputable abbrev laws_eqSignedS.kt (x0 : List TSigned) (x1 : List TSigned) : V.Kt Bool := V.ktOf laws_eqSignedS.E laws_eqSignedS.con Tryz.f31 ((x0, x1) : List TSigned × List TSigned)
noncomputable abbrev laws_eqSignedS.s8 (x0 : List TSigned) (x1 : List TSigned) (v8_2 : Int) : V.St := ⟨[(0, .v false [.val (.sl V.eSigned x0)]), (1, .v false [.val (.sl V.eSigned x1)]), (5, .v false [.val (.int .i64 v8_2)])], []⟩
theorem laws_eqSignedS.r8 (x0 : List TSigned) (x1 : List TSigned) (R : V.St → Option Bool) (v8_2 : Int) : V.loopF laws_eqSignedS.E Tryz.f31.ntmps [1, 1, 0, 1, 0] [] (V.codeOf Tryz.f31) (laws_eqSignedS.kt x0 x1) R (laws_eqSignedS.s8 x0 x1 v8_2) = laws_eqSignedS.g8 x0 x1 (fun v8_2 => R (laws_eqSignedS.s8 x0 x1 v8_2)) v8_2 := by kernel_rfl
theorem laws_eqSignedS.e8 (x0 : List TSigned) (x1 : List TSigned) : ∀ (n : Nat) (v8_2 : Int), V.loopN (V.loopF laws_eqSignedS.E Tryz.f31.ntmps [1, 1, 0, 1, 0] [] (V.codeOf Tryz.f31) (laws_eqSignedS.kt x0 x1)) n (laws_eqSignedS.s8 x0 x1 v8_2) = laws_eqSignedS.l8 x0 x1 n v8_2 := by
  intro n
  induction n with
  | zero => intros; rw [V.loopN_z]; rfl
  | succ n ih =>
    intro v8_2
    rw [V.loopN_s, laws_eqSignedS.r8]
    simp only [ih]
    first | exact (laws_eqSignedS.u8 ..).symm | rfl
theorem laws_eqSignedS.v (x0 : List TSigned) (x1 : List TSigned) : V.evBody laws_eqSignedS.E laws_eqSignedS.con Tryz.f31 ((x0, x1) : List TSigned × List TSigned) = laws_eqSignedS.b x0 x1 (fun v8_2 => V.loopN (V.loopF laws_eqSignedS.E Tryz.f31.ntmps [1, 1, 0, 1, 0] [] (V.codeOf Tryz.f31) (laws_eqSignedS.kt x0 x1)) V.KK (laws_eqSignedS.s8 x0 x1 v8_2)) := by kernel_rfl
theorem laws_eqSignedS.eq (x0 : List TSigned) (x1 : List TSigned) : V.evBody laws_eqSignedS.E laws_eqSignedS.con Tryz.f31 ((x0, x1) : List TSigned × List TSigned) = laws_eqSignedS x0 x1 := by
  rw [laws_eqSignedS.v]
  simp only [laws_eqSignedS.e8]
  rfl
theorem laws_eqSignedS.ok : V.Valid Tryz.prog 31 laws_eqSignedS.con :=
  V.fo (V.tab_cons laws_eqSigned.ok V.tab_nil) Tryz.func31 (by kernel_rfl) (fun x y h => (show V.evBody laws_eqSignedS.E laws_eqSignedS.con Tryz.f31 x = _ from laws_eqSignedS.eq x.1 x.2).trans (V.cfl (by kernel_rfl) h))
noncomputable abbrev laws_eqStringS.con : V.Con := ⟨(.cons (.sl (.cons .str .nil)) (.cons (.sl (.cons .str .nil)) .nil)), (.cons .bool .nil), fun (x : List ByteArray × List ByteArray) => laws_eqStringS x.1 x.2, [], [(false, 1), (false, 1)], [(false, 1)], [false], []⟩
noncomputable abbrev laws_eqStringS.E : V.Env := V.mkE V.tys [] [(8, [0, 1, 5], [])] [(6, 8)] [] [] []
noncomputable abbrev laws_eqStringS.kt (x0 : List ByteArray) (x1 : List ByteArray) : V.Kt Bool := V.ktOf laws_eqStringS.E laws_eqStringS.con Tryz.f168 ((x0, x1) : List ByteArray × List ByteArray)
noncomputable abbrev laws_eqStringS.s8 (x0 : List ByteArray) (x1 : List ByteArray) (v8_2 : Int) : V.St := ⟨[(0, .v false [.val (.sl (.cons .str .nil) x0)]), (1, .v false [.val (.sl (.cons .str .nil) x1)]), (5, .v false [.val (.int .i64 v8_2)])], []⟩
theorem laws_eqStringS.r8 (x0 : List ByteArray) (x1 : List ByteArray) (R : V.St → Option Bool) (v8_2 : Int) : V.loopF laws_eqStringS.E Tryz.f168.ntmps [1, 1, 0, 1, 0] [] (V.codeOf Tryz.f168) (laws_eqStringS.kt x0 x1) R (laws_eqStringS.s8 x0 x1 v8_2) = laws_eqStringS.g8 x0 x1 (fun v8_2 => R (laws_eqStringS.s8 x0 x1 v8_2)) v8_2 := by kernel_rfl
theorem laws_eqStringS.e8 (x0 : List ByteArray) (x1 : List ByteArray) : ∀ (n : Nat) (v8_2 : Int), V.loopN (V.loopF laws_eqStringS.E Tryz.f168.ntmps [1, 1, 0, 1, 0] [] (V.codeOf Tryz.f168) (laws_eqStringS.kt x0 x1)) n (laws_eqStringS.s8 x0 x1 v8_2) = laws_eqStringS.l8 x0 x1 n v8_2 := by
  intro n
  induction n with
  | zero => intros; rw [V.loopN_z]; rfl
  | succ n ih =>
    intro v8_2
    rw [V.loopN_s, laws_eqStringS.r8]
    simp only [ih]
    first | exact (laws_eqStringS.u8 ..).symm | rfl
theorem laws_eqStringS.v (x0 : List ByteArray) (x1 : List ByteArray) : V.evBody laws_eqStringS.E laws_eqStringS.con Tryz.f168 ((x0, x1) : List ByteArray × List ByteArray) = laws_eqStringS.b x0 x1 (fun v8_2 => V.loopN (V.loopF laws_eqStringS.E Tryz.f168.ntmps [1, 1, 0, 1, 0] [] (V.codeOf Tryz.f168) (laws_eqStringS.kt x0 x1)) V.KK (laws_eqStringS.s8 x0 x1 v8_2)) := by kernel_rfl
theorem laws_eqStringS.eq (x0 : List ByteArray) (x1 : List ByteArray) : V.evBody laws_eqStringS.E laws_eqStringS.con Tryz.f168 ((x0, x1) : List ByteArray × List ByteArray) = laws_eqStringS x0 x1 := by
  rw [laws_eqStringS.v]
  simp only [laws_eqStringS.e8]
  rfl
theorem laws_eqStringS.ok : V.Valid Tryz.prog 168 laws_eqStringS.con :=
  V.fo V.tab_nil Tryz.func168 (by kernel_rfl) (fun x y h => (show V.evBody laws_eqStringS.E laws_eqStringS.con Tryz.f168 x = _ from laws_eqStringS.eq x.1 x.2).trans (V.cfl (by kernel_rfl) h))
noncomputable abbrev laws_eqEntry.con : V.Con := ⟨(.cons .str (.cons (.int .i64) (.cons (.int .i64) (.cons (.sl (.cons .str .nil)) (.cons .str (.cons (.int .i64) (.cons (.int .i64) (.cons (.sl (.cons .str .nil)) .nil)))))))), (.cons .bool .nil), fun (x : ByteArray × Int × Int × List ByteArray × ByteArray × Int × Int × List ByteArray) => laws_eqEntry (x.1, x.2.1, x.2.2.1, x.2.2.2.1) x.2.2.2.2, [], [(true, 4), (true, 4)], [(false, 1)], [false], []⟩
noncomputable abbrev laws_eqEntry.E : V.Env := V.mkE V.tys [(168, laws_eqStringS.con)] [] [] [] [] []
theorem laws_eqEntry.eq (x0 : TEntry) (x1 : TEntry) : V.evBody laws_eqEntry.E laws_eqEntry.con Tryz.f72 ((x0.1, x0.2.1, x0.2.2.1, x0.2.2.2, x1.1, x1.2.1, x1.2.2.1, x1.2.2.2) : ByteArray × Int × Int × List ByteArray × ByteArray × Int × Int × List ByteArray) = laws_eqEntry x0 x1 := by kernel_rfl
theorem laws_eqEntry.ok : V.Valid Tryz.prog 72 laws_eqEntry.con :=
  V.fo (V.tab_cons laws_eqStringS.ok V.tab_nil) Tryz.func72 (by kernel_rfl) (fun x y h => (show V.evBody laws_eqEntry.E laws_eqEntry.con Tryz.f72 x = _ from laws_eqEntry.eq (x.1, x.2.1, x.2.2.1, x.2.2.2.1) x.2.2.2.2).trans (V.cfl (by kernel_rfl) h))
noncomputable abbrev laws_eqProof.con : V.Con := ⟨(.cons (.int .i64) (.cons (.sl (.cons (.int .i64) .nil)) (.cons (.int .i64) (.cons (.sl (.cons (.int .i64) .nil)) .nil)))), (.cons .bool .nil), fun (x : Int × List Int × Int × List Int) => laws_eqProof (x.1, x.2.1) x.2.2, [], [(true, 2), (true, 2)], [(false, 1)], [false], []⟩
noncomputable abbrev laws_eqProof.E : V.Env := V.mkE V.tys [(79, laws_eqIntS.con)] [] [] [] [] []
theorem laws_eqProof.eq (x0 : TProof) (x1 : TProof) : V.evBody laws_eqProof.E laws_eqProof.con Tryz.f164 ((x0.1, x0.2, x1.1, x1.2) : Int × List Int × Int × List Int) = laws_eqProof x0 x1 := by kernel_rfl
theorem laws_eqProof.ok : V.Valid Tryz.prog 164 laws_eqProof.con :=
  V.fo (V.tab_cons laws_eqIntS.ok V.tab_nil) Tryz.func164 (by kernel_rfl) (fun x y h => (show V.evBody laws_eqProof.E laws_eqProof.con Tryz.f164 x = _ from laws_eqProof.eq (x.1, x.2.1) x.2.2).trans (V.cfl (by kernel_rfl) h))
noncomputable abbrev laws_eqGap.con : V.Con := ⟨V.A10, (.cons .bool .nil), fun (x : V.D10) => laws_eqGap (V.p10_0 x) (V.p10_1 x), [], [(true, 13), (true, 13)], [(false, 1)], [false], []⟩
noncomputable abbrev laws_eqGap.E : V.Env := V.mkE V.tys [(72, laws_eqEntry.con), (164, laws_eqProof.con)] [] [] [] [] []
noncomputable abbrev laws_eqGap.kt (x0 : TGap) (x1 : TGap) : V.Kt Bool := V.ktOf laws_eqGap.E laws_eqGap.con Tryz.f165 (V.fl10 x0 x1)
noncomputable abbrev laws_eqGap.s (x0 : TGap) (x1 : TGap) : V.St := ⟨[(0, .v true [.val (.int .i64 x0.1), .val (.str x0.2.1), .val (.int .i64 x0.2.2.1), .val (.int .i64 x0.2.2.2.1), .val (.sl (.cons .str .nil) x0.2.2.2.2.1), .val (.str x0.2.2.2.2.2.1), .val (.int .i64 x0.2.2.2.2.2.2.1), .val (.int .i64 x0.2.2.2.2.2.2.2.1), .val (.sl (.cons .str .nil) x0.2.2.2.2.2.2.2.2.1), .val (.int .i64 x0.2.2.2.2.2.2.2.2.2.1), .val (.sl (.cons (.int .i64) .nil) x0.2.2.2.2.2.2.2.2.2.2.1), .val (.int .i64 x0.2.2.2.2.2.2.2.2.2.2.2.1), .val (.sl (.cons (.int .i64) .nil) x0.2.2.2.2.2.2.2.2.2.2.2.2)]), (1, .v true [.val (.int .i64 x1.1), .val (.str x1.2.1), .val (.int .i64 x1.2.2.1), .val (.int .i64 x1.2.2.2.1), .val (.sl (.cons .str .nil) x1.2.2.2.2.1), .val (.str x1.2.2.2.2.2.1), .val (.int .i64 x1.2.2.2.2.2.2.1), .val (.int .i64 x1.2.2.2.2.2.2.2.1), .val (.sl (.cons .str .nil) x1.2.2.2.2.2.2.2.2.1), .val (.int .i64 x1.2.2.2.2.2.2.2.2.2.1), .val (.sl (.cons (.int .i64) .nil) x1.2.2.2.2.2.2.2.2.2.2.1), .val (.int .i64 x1.2.2.2.2.2.2.2.2.2.2.2.1), .val (.sl (.cons (.int .i64) .nil) x1.2.2.2.2.2.2.2.2.2.2.2.2)])], []⟩
theorem laws_eqGap.v0 (x0 : TGap) (x1 : TGap) : V.evBody laws_eqGap.E laws_eqGap.con Tryz.f165 (V.fl10 x0 x1) = V.evC laws_eqGap.E Tryz.f165.ntmps (V.codeOf Tryz.f165) (laws_eqGap.kt x0 x1) (laws_eqGap.s x0 x1) := by kernel_rfl
theorem laws_eqGap.v (x0 : TGap) (x1 : TGap) : V.evC laws_eqGap.E Tryz.f165.ntmps (V.codeOf Tryz.f165) (laws_eqGap.kt x0 x1) (laws_eqGap.s x0 x1) = laws_eqGap x0 x1 := by kernel_rfl
theorem laws_eqGap.eq (x0 : TGap) (x1 : TGap) : V.evBody laws_eqGap.E laws_eqGap.con Tryz.f165 (V.fl10 x0 x1) = laws_eqGap x0 x1 := (laws_eqGap.v0 x0 x1).trans (laws_eqGap.v x0 x1)
theorem laws_eqGap.ok : V.Valid Tryz.prog 165 laws_eqGap.con :=
  V.fo (V.tab_cons laws_eqEntry.ok (V.tab_cons laws_eqProof.ok V.tab_nil)) Tryz.func165 (by kernel_rfl) (fun x y h => (show V.evBody laws_eqGap.E laws_eqGap.con Tryz.f165 x = _ from laws_eqGap.eq (V.p10_0 x) (V.p10_1 x)).trans (V.cfl (by kernel_rfl) h))
noncomputable abbrev laws_eqAnswer.con : V.Con := ⟨V.A16, (.cons .bool .nil), fun (x : V.D16) => laws_eqAnswer (V.p16_0 x) (V.p16_1 x), [], [(true, 21), (true, 21)], [(false, 1)], [false], []⟩
noncomputable abbrev laws_eqAnswer.E : V.Env := V.mkE V.tys [(31, laws_eqSignedS.con), (72, laws_eqEntry.con), (164, laws_eqProof.con), (165, laws_eqGap.con)] [] [] [] [] []
noncomputable abbrev laws_eqAnswer.kt (x0 : TAnswer) (x1 : TAnswer) : V.Kt Bool := V.ktOf laws_eqAnswer.E laws_eqAnswer.con Tryz.f69 (V.fl16 x0 x1)
noncomputable abbrev laws_eqAnswer.s (x0 : TAnswer) (x1 : TAnswer) : V.St := ⟨[(0, .v true [.val (.sl V.eSigned x0.1), .val (.bool x0.2.1), .val (.str x0.2.2.1), .val (.int .i64 x0.2.2.2.1), .val (.int .i64 x0.2.2.2.2.1), .val (.sl (.cons .str .nil) x0.2.2.2.2.2.1), .val (.int .i64 x0.2.2.2.2.2.2.1), .val (.sl (.cons (.int .i64) .nil) x0.2.2.2.2.2.2.2.1), .val (.int .i64 x0.2.2.2.2.2.2.2.2.1), .val (.str x0.2.2.2.2.2.2.2.2.2.1), .val (.int .i64 x0.2.2.2.2.2.2.2.2.2.2.1), .val (.int .i64 x0.2.2.2.2.2.2.2.2.2.2.2.1), .val (.sl (.cons .str .nil) x0.2.2.2.2.2.2.2.2.2.2.2.2.1), .val (.str x0.2.2.2.2.2.2.2.2.2.2.2.2.2.1), .val (.int .i64 x0.2.2.2.2.2.2.2.2.2.2.2.2.2.2.1), .val (.int .i64 x0.2.2.2.2.2.2.2.2.2.2.2.2.2.2.2.1), .val (.sl (.cons .str .nil) x0.2.2.2.2.2.2.2.2.2.2.2.2.2.2.2.2.1), .val (.int .i64 x0.2.2.2.2.2.2.2.2.2.2.2.2.2.2.2.2.2.1), .val (.sl (.cons (.int .i64) .nil) x0.2.2.2.2.2.2.2.2.2.2.2.2.2.2.2.2.2.2.1), .val (.int .i64 x0.2.2.2.2.2.2.2.2.2.2.2.2.2.2.2.2.2.2.2.1), .val (.sl (.cons (.int .i64) .nil) x0.2.2.2.2.2.2.2.2.2.2.2.2.2.2.2.2.2.2.2.2)]), (1, .v true [.val (.sl V.eSigned x1.1), .val (.bool x1.2.1), .val (.str x1.2.2.1), .val (.int .i64 x1.2.2.2.1), .val (.int .i64 x1.2.2.2.2.1), .val (.sl (.cons .str .nil) x1.2.2.2.2.2.1), .val (.int .i64 x1.2.2.2.2.2.2.1), .val (.sl (.cons (.int .i64) .nil) x1.2.2.2.2.2.2.2.1), .val (.int .i64 x1.2.2.2.2.2.2.2.2.1), .val (.str x1.2.2.2.2.2.2.2.2.2.1), .val (.int .i64 x1.2.2.2.2.2.2.2.2.2.2.1), .val (.int .i64 x1.2.2.2.2.2.2.2.2.2.2.2.1), .val (.sl (.cons .str .nil) x1.2.2.2.2.2.2.2.2.2.2.2.2.1), .val (.str x1.2.2.2.2.2.2.2.2.2.2.2.2.2.1), .val (.int .i64 x1.2.2.2.2.2.2.2.2.2.2.2.2.2.2.1), .val (.int .i64 x1.2.2.2.2.2.2.2.2.2.2.2.2.2.2.2.1), .val (.sl (.cons .str .nil) x1.2.2.2.2.2.2.2.2.2.2.2.2.2.2.2.2.1), .val (.int .i64 x1.2.2.2.2.2.2.2.2.2.2.2.2.2.2.2.2.2.1), .val (.sl (.cons (.int .i64) .nil) x1.2.2.2.2.2.2.2.2.2.2.2.2.2.2.2.2.2.2.1), .val (.int .i64 x1.2.2.2.2.2.2.2.2.2.2.2.2.2.2.2.2.2.2.2.1), .val (.sl (.cons (.int .i64) .nil) x1.2.2.2.2.2.2.2.2.2.2.2.2.2.2.2.2.2.2.2.2)])], []⟩
theorem laws_eqAnswer.v0 (x0 : TAnswer) (x1 : TAnswer) : V.evBody laws_eqAnswer.E laws_eqAnswer.con Tryz.f69 (V.fl16 x0 x1) = V.evC laws_eqAnswer.E Tryz.f69.ntmps (V.codeOf Tryz.f69) (laws_eqAnswer.kt x0 x1) (laws_eqAnswer.s x0 x1) := by kernel_rfl
theorem laws_eqAnswer.v (x0 : TAnswer) (x1 : TAnswer) : V.evC laws_eqAnswer.E Tryz.f69.ntmps (V.codeOf Tryz.f69) (laws_eqAnswer.kt x0 x1) (laws_eqAnswer.s x0 x1) = laws_eqAnswer x0 x1 := by kernel_rfl
theorem laws_eqAnswer.eq (x0 : TAnswer) (x1 : TAnswer) : V.evBody laws_eqAnswer.E laws_eqAnswer.con Tryz.f69 (V.fl16 x0 x1) = laws_eqAnswer x0 x1 := (laws_eqAnswer.v0 x0 x1).trans (laws_eqAnswer.v x0 x1)
theorem laws_eqAnswer.ok : V.Valid Tryz.prog 69 laws_eqAnswer.con :=
  V.fo (V.tab_cons laws_eqSignedS.ok (V.tab_cons laws_eqEntry.ok (V.tab_cons laws_eqProof.ok (V.tab_cons laws_eqGap.ok V.tab_nil)))) Tryz.func69 (by kernel_rfl) (fun x y h => (show V.evBody laws_eqAnswer.E laws_eqAnswer.con Tryz.f69 x = _ from laws_eqAnswer.eq (V.p16_0 x) (V.p16_1 x)).trans (V.cfl (by kernel_rfl) h))
noncomputable abbrev laws_FnExactCheckAnswer.con : V.Con := ⟨V.A13, (.cons .bool .nil), fun (x : V.D13) => laws_FnExactCheckAnswer (V.p13_0 x) (V.p13_1 x) (V.p13_2 x) (V.p13_3 x), [], [(false, 1), (false, 1), (true, 21), (false, 1)], [(false, 1)], [false], []⟩
noncomputable abbrev laws_FnExactCheckAnswer.E : V.Env := V.mkE V.tys [(65, laws_szAnswer.con), (66, spec_CheckAnswer.con), (67, laws_toAnswer.con), (68, impl_CheckAnswer.con), (69, laws_eqAnswer.con)] [] [(12, 3)] [] [] []
noncomputable abbrev laws_FnExactCheckAnswer.kt (x0 : Int) (x1 : ByteArray) (x2 : TAnswer) (x3 : Int) : V.Kt Bool := V.ktOf laws_FnExactCheckAnswer.E laws_FnExactCheckAnswer.con Tryz.f11 (V.fl13 x0 x1 x2 x3)
noncomputable abbrev laws_FnExactCheckAnswer.s (x0 : Int) (x1 : ByteArray) (x2 : TAnswer) (x3 : Int) : V.St := ⟨[(0, .v false [.val (.int .i64 x0)]), (1, .v false [.val (.str x1)]), (2, .v true [.val (.sl V.eSigned x2.1), .val (.bool x2.2.1), .val (.str x2.2.2.1), .val (.int .i64 x2.2.2.2.1), .val (.int .i64 x2.2.2.2.2.1), .val (.sl (.cons .str .nil) x2.2.2.2.2.2.1), .val (.int .i64 x2.2.2.2.2.2.2.1), .val (.sl (.cons (.int .i64) .nil) x2.2.2.2.2.2.2.2.1), .val (.int .i64 x2.2.2.2.2.2.2.2.2.1), .val (.str x2.2.2.2.2.2.2.2.2.2.1), .val (.int .i64 x2.2.2.2.2.2.2.2.2.2.2.1), .val (.int .i64 x2.2.2.2.2.2.2.2.2.2.2.2.1), .val (.sl (.cons .str .nil) x2.2.2.2.2.2.2.2.2.2.2.2.2.1), .val (.str x2.2.2.2.2.2.2.2.2.2.2.2.2.2.1), .val (.int .i64 x2.2.2.2.2.2.2.2.2.2.2.2.2.2.2.1), .val (.int .i64 x2.2.2.2.2.2.2.2.2.2.2.2.2.2.2.2.1), .val (.sl (.cons .str .nil) x2.2.2.2.2.2.2.2.2.2.2.2.2.2.2.2.2.1), .val (.int .i64 x2.2.2.2.2.2.2.2.2.2.2.2.2.2.2.2.2.2.1), .val (.sl (.cons (.int .i64) .nil) x2.2.2.2.2.2.2.2.2.2.2.2.2.2.2.2.2.2.2.1), .val (.int .i64 x2.2.2.2.2.2.2.2.2.2.2.2.2.2.2.2.2.2.2.2.1), .val (.sl (.cons (.int .i64) .nil) x2.2.2.2.2.2.2.2.2.2.2.2.2.2.2.2.2.2.2.2.2)]), (3, .v false [.val (.int .i64 x3)])], []⟩
theorem laws_FnExactCheckAnswer.v0 (x0 : Int) (x1 : ByteArray) (x2 : TAnswer) (x3 : Int) : V.evBody laws_FnExactCheckAnswer.E laws_FnExactCheckAnswer.con Tryz.f11 (V.fl13 x0 x1 x2 x3) = V.evC laws_FnExactCheckAnswer.E Tryz.f11.ntmps (V.codeOf Tryz.f11) (laws_FnExactCheckAnswer.kt x0 x1 x2 x3) (laws_FnExactCheckAnswer.s x0 x1 x2 x3) := by kernel_rfl
theorem laws_FnExactCheckAnswer.v (x0 : Int) (x1 : ByteArray) (x2 : TAnswer) (x3 : Int) : V.evC laws_FnExactCheckAnswer.E Tryz.f11.ntmps (V.codeOf Tryz.f11) (laws_FnExactCheckAnswer.kt x0 x1 x2 x3) (laws_FnExactCheckAnswer.s x0 x1 x2 x3) = laws_FnExactCheckAnswer x0 x1 x2 x3 := by kernel_rfl
theorem laws_FnExactCheckAnswer.eq (x0 : Int) (x1 : ByteArray) (x2 : TAnswer) (x3 : Int) : V.evBody laws_FnExactCheckAnswer.E laws_FnExactCheckAnswer.con Tryz.f11 (V.fl13 x0 x1 x2 x3) = laws_FnExactCheckAnswer x0 x1 x2 x3 := (laws_FnExactCheckAnswer.v0 x0 x1 x2 x3).trans (laws_FnExactCheckAnswer.v x0 x1 x2 x3)
theorem laws_FnExactCheckAnswer.ok : V.Valid Tryz.prog 11 laws_FnExactCheckAnswer.con :=
  V.fo (V.tab_cons laws_szAnswer.ok (V.tab_cons spec_CheckAnswer.ok (V.tab_cons laws_toAnswer.ok (V.tab_cons impl_CheckAnswer.ok (V.tab_cons laws_eqAnswer.ok V.tab_nil))))) Tryz.func11 (by kernel_rfl) (fun x y h => (show V.evBody laws_FnExactCheckAnswer.E laws_FnExactCheckAnswer.con Tryz.f11 x = _ from laws_FnExactCheckAnswer.eq (V.p13_0 x) (V.p13_1 x) (V.p13_2 x) (V.p13_3 x)).trans (V.cfl (by kernel_rfl) h))
end Go.Proofs.YtpioofmdambjoaaGreat
