/- That the functions compute it, part 1. -/
import Derived.Test.YtpiabcaiccnciaaGreatFnChainsWalk0
namespace Go.Proofs.YtpiabcaiccnciaaGreat
set_option linter.unusedVariables false
set_option maxRecDepth 100000
noncomputable abbrev impl_FirstWrong.con : V.Con := ⟨(.cons (.sl V.eSigned) .nil), (.cons (.int .i64) .nil), fun (x : List TSigned) => impl_FirstWrong x, [], [(false, 1)], [(false, 1)], [false], []⟩
noncomputable abbrev impl_FirstWrong.E : V.Env := V.mkE V.tys [(35, impl_IsFirst.con), (36, impl_MayFollow.con)] [(4, [0, 5, 6, 7], [])] [(4, 18)] [] [] []
noncomputable abbrev impl_FirstWrong.kt (x0 : List TSigned) : V.Kt Int := V.ktOf impl_FirstWrong.E impl_FirstWrong.con Tryz.f10 ((x0) : List TSigned)
noncomputable abbrev impl_FirstWrong.s4 (x0 : List TSigned) (v4_2 : Int) (v4_3 : Int) : V.St := ⟨[(0, .v false [.val (.sl V.eSigned x0)]), (5, .v false [.val (.sl V.eSigned x0)]), (6, .v false [.val (.int .i64 v4_2)]), (7, .v false [.val (.int .i64 v4_3)])], []⟩
theorem impl_FirstWrong.r4 (x0 : List TSigned) (R : V.St → Option Int) (v4_2 : Int) (v4_3 : Int) : V.loopF impl_FirstWrong.E Tryz.f10.ntmps [1, 0, 1, 0] [] (V.codeOf Tryz.f10) (impl_FirstWrong.kt x0) R (impl_FirstWrong.s4 x0 v4_2 v4_3) = impl_FirstWrong.g4 x0 (fun v4_2 v4_3 => R (impl_FirstWrong.s4 x0 v4_2 v4_3)) v4_2 v4_3 := by kernel_rfl
theorem impl_FirstWrong.e4 (x0 : List TSigned) : ∀ (n : Nat) (v4_2 : Int) (v4_3 : Int), V.loopN (V.loopF impl_FirstWrong.E Tryz.f10.ntmps [1, 0, 1, 0] [] (V.codeOf Tryz.f10) (impl_FirstWrong.kt x0)) n (impl_FirstWrong.s4 x0 v4_2 v4_3) = impl_FirstWrong.l4 x0 n v4_2 v4_3 := by
  intro n
  induction n with
  | zero => intros; rw [V.loopN_z]; rfl
  | succ n ih =>
    intro v4_2 v4_3
    rw [V.loopN_s, impl_FirstWrong.r4]
    simp only [ih]
    first | exact (impl_FirstWrong.u4 ..).symm | rfl
theorem impl_FirstWrong.v (x0 : List TSigned) : V.evBody impl_FirstWrong.E impl_FirstWrong.con Tryz.f10 ((x0) : List TSigned) = impl_FirstWrong.b x0 (fun v4_2 v4_3 => V.loopN (V.loopF impl_FirstWrong.E Tryz.f10.ntmps [1, 0, 1, 0] [] (V.codeOf Tryz.f10) (impl_FirstWrong.kt x0)) V.KK (impl_FirstWrong.s4 x0 v4_2 v4_3)) := by kernel_rfl
theorem impl_FirstWrong.eq (x0 : List TSigned) : V.evBody impl_FirstWrong.E impl_FirstWrong.con Tryz.f10 ((x0) : List TSigned) = impl_FirstWrong x0 := by
  rw [impl_FirstWrong.v]
  simp only [impl_FirstWrong.e4]
  rfl
theorem impl_FirstWrong.ok : V.Valid Tryz.prog 10 impl_FirstWrong.con :=
  V.fo (V.tab_cons impl_IsFirst.ok (V.tab_cons impl_MayFollow.ok V.tab_nil)) Tryz.func10 (by kernel_rfl) (fun x y h => (show V.evBody impl_FirstWrong.E impl_FirstWrong.con Tryz.f10 x = _ from impl_FirstWrong.eq x).trans (V.cfl (by kernel_rfl) h))
noncomputable abbrev impl_IsChain.con : V.Con := ⟨(.cons (.sl V.eSigned) .nil), (.cons .bool .nil), fun (x : List TSigned) => impl_IsChain x, [], [(false, 1)], [(false, 1)], [false], []⟩
noncomputable abbrev impl_IsChain.E : V.Env := V.mkE V.tys [(10, impl_FirstWrong.con), (33, impl_InRange.con)] [] [] [] [] []
theorem impl_IsChain.eq (x0 : List TSigned) : V.evBody impl_IsChain.E impl_IsChain.con Tryz.f8 ((x0) : List TSigned) = impl_IsChain x0 := by kernel_rfl
theorem impl_IsChain.ok : V.Valid Tryz.prog 8 impl_IsChain.con :=
  V.fo (V.tab_cons impl_FirstWrong.ok (V.tab_cons impl_InRange.ok V.tab_nil)) Tryz.func8 (by kernel_rfl) (fun x y h => (show V.evBody impl_IsChain.E impl_IsChain.con Tryz.f8 x = _ from impl_IsChain.eq x).trans (V.cfl (by kernel_rfl) h))
noncomputable abbrev impl_last.con : V.Con := ⟨(.cons (.sl V.eSigned) .nil), V.eHead, fun (x : List TSigned) => impl_last x, [], [(false, 1)], [(true, 16)], [false, false, false, false, false, false, false, false, false, false, false, false, false, false, false, false], []⟩
noncomputable abbrev impl_last.E : V.Env := V.mkE V.tys [] [] [] [] [] []
theorem impl_last.eq (x0 : List TSigned) : V.evBody impl_last.E impl_last.con Tryz.f27 ((x0) : List TSigned) = impl_last x0 := by kernel_rfl
theorem impl_last.ok : V.Valid Tryz.prog 27 impl_last.con :=
  V.fo V.tab_nil Tryz.func27 (by kernel_rfl) (fun x y h => (show V.evBody impl_last.E impl_last.con Tryz.f27 x = _ from impl_last.eq x).trans (V.cfl (by kernel_rfl) h))
noncomputable abbrev impl_Extend.con : V.Con := ⟨V.A6, (.cons (.sl V.eSigned) (.cons (.int .i64) .nil)), fun (x : V.D6) => impl_Extend (V.p6_0 x) (V.p6_1 x), [], [(false, 1), (true, 17)], [(false, 1), (false, 1)], [true, false], []⟩
noncomputable abbrev impl_Extend.E : V.Env := V.mkE V.tys [(8, impl_IsChain.con), (25, impl_copyChain.con), (26, impl_NextCode.con), (27, impl_last.con), (28, impl_copySigned.con)] [(7, [0, 3, 6, 17], [])] [(4, 3)] [] [] []
noncomputable abbrev impl_Extend.kt (x0 : List TSigned) (x1 : TSigned) : V.Kt (List TSigned × Int) := V.ktOf impl_Extend.E impl_Extend.con Tryz.f6 (V.fl6 x0 x1)
noncomputable abbrev impl_Extend.s7 (x0 : List TSigned) (x1 : TSigned) (y1 : List TSigned) (v7_1 : Bool) : V.St := ⟨[(0, .v false [.val (.sl V.eSigned x0)]), (3, .v false [.ptr 64000 0]), (6, .v false [.ref 64000044800384]), (17, .v false [.val (.bool v7_1)])], [(64000, .box (V.lsSigned x1)), (64000044800384, .row V.eSigned true y1)]⟩
theorem impl_Extend.r7 (x0 : List TSigned) (x1 : TSigned) (y1 : List TSigned) (v7_1 : Bool) : V.joinF impl_Extend.E Tryz.f6.ntmps [1, 1, 0] [] (V.codeOf Tryz.f6) (impl_Extend.kt x0 x1) (impl_Extend.s7 x0 x1 y1 v7_1) = impl_Extend.g7 x0 x1 y1 v7_1 := by kernel_rfl
theorem impl_Extend.e7 (x0 : List TSigned) (x1 : TSigned) (y1 : List TSigned) (v7_1 : Bool) : V.jn (V.joinF impl_Extend.E Tryz.f6.ntmps [1, 1, 0] [] (V.codeOf Tryz.f6) (impl_Extend.kt x0 x1)) (impl_Extend.s7 x0 x1 y1 v7_1) = impl_Extend.l7 x0 x1 y1 v7_1 := by
  rw [V.jn_eq, impl_Extend.r7]
  rfl
noncomputable abbrev impl_Extend.s (x0 : List TSigned) (x1 : TSigned) : V.St := ⟨[(0, .v false [.val (.sl V.eSigned x0)]), (1, .v true (V.lsSigned x1))], []⟩
theorem impl_Extend.v0 (x0 : List TSigned) (x1 : TSigned) : V.evBody impl_Extend.E impl_Extend.con Tryz.f6 (V.fl6 x0 x1) = V.evC impl_Extend.E Tryz.f6.ntmps (V.codeOf Tryz.f6) (impl_Extend.kt x0 x1) (impl_Extend.s x0 x1) := by kernel_rfl
theorem impl_Extend.v (x0 : List TSigned) (x1 : TSigned) : V.evC impl_Extend.E Tryz.f6.ntmps (V.codeOf Tryz.f6) (impl_Extend.kt x0 x1) (impl_Extend.s x0 x1) = impl_Extend.b x0 x1 (fun y1 v7_1 => V.jn (V.joinF impl_Extend.E Tryz.f6.ntmps [1, 1, 0] [] (V.codeOf Tryz.f6) (impl_Extend.kt x0 x1)) (impl_Extend.s7 x0 x1 y1 v7_1)) := by kernel_rfl
theorem impl_Extend.eq (x0 : List TSigned) (x1 : TSigned) : V.evBody impl_Extend.E impl_Extend.con Tryz.f6 (V.fl6 x0 x1) = impl_Extend x0 x1 := by
  rw [impl_Extend.v0, impl_Extend.v]
  simp only [impl_Extend.e7]
  rfl
theorem impl_Extend.ok : V.Valid Tryz.prog 6 impl_Extend.con :=
  V.fo (V.tab_cons impl_IsChain.ok (V.tab_cons impl_copyChain.ok (V.tab_cons impl_NextCode.ok (V.tab_cons impl_last.ok (V.tab_cons impl_copySigned.ok V.tab_nil))))) Tryz.func6 (by kernel_rfl) (fun x y h => (show V.evBody impl_Extend.E impl_Extend.con Tryz.f6 x = _ from impl_Extend.eq (V.p6_0 x) (V.p6_1 x)).trans (V.cfl (by kernel_rfl) h))
noncomputable abbrev impl_EqualHeads.con : V.Con := ⟨V.A4, (.cons .bool .nil), fun (x : V.D4) => impl_EqualHeads (V.p4_0 x) (V.p4_1 x), [], [(true, 16), (true, 16)], [(false, 1)], [false], []⟩
noncomputable abbrev impl_EqualHeads.E : V.Env := V.mkE V.tys [(19, impl_EqualKeys.con), (43, slices_Equal_int.con), (44, impl_HeadInts.con)] [] [(1, 23)] [] [] []
noncomputable abbrev impl_EqualHeads.kt (x0 : THead) (x1 : THead) : V.Kt Bool := V.ktOf impl_EqualHeads.E impl_EqualHeads.con Tryz.f18 (V.fl4 x0 x1)
noncomputable abbrev impl_EqualHeads.s (x0 : THead) (x1 : THead) : V.St := ⟨[(0, .v true (V.lsHead x0)), (1, .v true (V.lsHead x1))], []⟩
theorem impl_EqualHeads.v0 (x0 : THead) (x1 : THead) : V.evBody impl_EqualHeads.E impl_EqualHeads.con Tryz.f18 (V.fl4 x0 x1) = V.evC impl_EqualHeads.E Tryz.f18.ntmps (V.codeOf Tryz.f18) (impl_EqualHeads.kt x0 x1) (impl_EqualHeads.s x0 x1) := by kernel_rfl
theorem impl_EqualHeads.v (x0 : THead) (x1 : THead) : V.evC impl_EqualHeads.E Tryz.f18.ntmps (V.codeOf Tryz.f18) (impl_EqualHeads.kt x0 x1) (impl_EqualHeads.s x0 x1) = impl_EqualHeads x0 x1 := by kernel_rfl
theorem impl_EqualHeads.eq (x0 : THead) (x1 : THead) : V.evBody impl_EqualHeads.E impl_EqualHeads.con Tryz.f18 (V.fl4 x0 x1) = impl_EqualHeads x0 x1 := (impl_EqualHeads.v0 x0 x1).trans (impl_EqualHeads.v x0 x1)
theorem impl_EqualHeads.ok : V.Valid Tryz.prog 18 impl_EqualHeads.con :=
  V.fo (V.tab_cons impl_EqualKeys.ok (V.tab_cons slices_Equal_int.ok (V.tab_cons impl_HeadInts.ok V.tab_nil))) Tryz.func18 (by kernel_rfl) (fun x y h => (show V.evBody impl_EqualHeads.E impl_EqualHeads.con Tryz.f18 x = _ from impl_EqualHeads.eq (V.p4_0 x) (V.p4_1 x)).trans (V.cfl (by kernel_rfl) h))
noncomputable abbrev impl_IsPrefix.con : V.Con := ⟨(.cons (.sl V.eSigned) (.cons (.sl V.eSigned) .nil)), (.cons .bool .nil), fun (x : List TSigned × List TSigned) => impl_IsPrefix x.1 x.2, [], [(false, 1), (false, 1)], [(false, 1)], [false], []⟩
noncomputable abbrev impl_IsPrefix.E : V.Env := V.mkE V.tys [(18, impl_EqualHeads.con)] [(8, [1, 12, 13, 14], [])] [(6, 7)] [] [] []
noncomputable abbrev impl_IsPrefix.kt (x0 : List TSigned) (x1 : List TSigned) : V.Kt Bool := V.ktOf impl_IsPrefix.E impl_IsPrefix.con Tryz.f12 ((x0, x1) : List TSigned × List TSigned)
noncomputable abbrev impl_IsPrefix.s8 (x0 : List TSigned) (x1 : List TSigned) (v8_2 : Int) (v8_3 : Int) : V.St := ⟨[(1, .v false [.val (.sl V.eSigned x1)]), (12, .v false [.val (.sl V.eSigned x0)]), (13, .v false [.val (.int .i64 v8_2)]), (14, .v false [.val (.int .i64 v8_3)])], []⟩
theorem impl_IsPrefix.r8 (x0 : List TSigned) (x1 : List TSigned) (R : V.St → Option Bool) (v8_2 : Int) (v8_3 : Int) : V.loopF impl_IsPrefix.E Tryz.f12.ntmps [1, 1, 0, 1, 0] [] (V.codeOf Tryz.f12) (impl_IsPrefix.kt x0 x1) R (impl_IsPrefix.s8 x0 x1 v8_2 v8_3) = impl_IsPrefix.g8 x0 x1 (fun v8_2 v8_3 => R (impl_IsPrefix.s8 x0 x1 v8_2 v8_3)) v8_2 v8_3 := by kernel_rfl
theorem impl_IsPrefix.e8 (x0 : List TSigned) (x1 : List TSigned) : ∀ (n : Nat) (v8_2 : Int) (v8_3 : Int), V.loopN (V.loopF impl_IsPrefix.E Tryz.f12.ntmps [1, 1, 0, 1, 0] [] (V.codeOf Tryz.f12) (impl_IsPrefix.kt x0 x1)) n (impl_IsPrefix.s8 x0 x1 v8_2 v8_3) = impl_IsPrefix.l8 x0 x1 n v8_2 v8_3 := by
  intro n
  induction n with
  | zero => intros; rw [V.loopN_z]; rfl
  | succ n ih =>
    intro v8_2 v8_3
    rw [V.loopN_s, impl_IsPrefix.r8]
    simp only [ih]
    first | exact (impl_IsPrefix.u8 ..).symm | rfl
theorem impl_IsPrefix.v (x0 : List TSigned) (x1 : List TSigned) : V.evBody impl_IsPrefix.E impl_IsPrefix.con Tryz.f12 ((x0, x1) : List TSigned × List TSigned) = impl_IsPrefix.b x0 x1 (fun v8_2 v8_3 => V.loopN (V.loopF impl_IsPrefix.E Tryz.f12.ntmps [1, 1, 0, 1, 0] [] (V.codeOf Tryz.f12) (impl_IsPrefix.kt x0 x1)) V.KK (impl_IsPrefix.s8 x0 x1 v8_2 v8_3)) := by kernel_rfl
theorem impl_IsPrefix.eq (x0 : List TSigned) (x1 : List TSigned) : V.evBody impl_IsPrefix.E impl_IsPrefix.con Tryz.f12 ((x0, x1) : List TSigned × List TSigned) = impl_IsPrefix x0 x1 := by
  rw [impl_IsPrefix.v]
  simp only [impl_IsPrefix.e8]
  rfl
theorem impl_IsPrefix.ok : V.Valid Tryz.prog 12 impl_IsPrefix.con :=
  V.fo (V.tab_cons impl_EqualHeads.ok V.tab_nil) Tryz.func12 (by kernel_rfl) (fun x y h => (show V.evBody impl_IsPrefix.E impl_IsPrefix.con Tryz.f12 x = _ from impl_IsPrefix.eq x.1 x.2).trans (V.cfl (by kernel_rfl) h))
noncomputable abbrev impl_LastHead.con : V.Con := ⟨(.cons (.sl V.eSigned) .nil), V.eRHeadBool, fun (x : List TSigned) => impl_LastHead x, [], [(false, 1)], [(true, 16), (false, 1)], [false, false, false, false, false, false, false, false, true, false, true, false, false, true, false, false, false], []⟩
noncomputable abbrev impl_LastHead.E : V.Env := V.mkE V.tys [(8, impl_IsChain.con), (27, impl_last.con), (39, impl_copyHead.con)] [] [] [] [] []
theorem impl_LastHead.eq (x0 : List TSigned) : V.evBody impl_LastHead.E impl_LastHead.con Tryz.f13 ((x0) : List TSigned) = impl_LastHead x0 := by kernel_rfl
theorem impl_LastHead.ok : V.Valid Tryz.prog 13 impl_LastHead.con :=
  V.fo (V.tab_cons impl_IsChain.ok (V.tab_cons impl_last.ok (V.tab_cons impl_copyHead.ok V.tab_nil))) Tryz.func13 (by kernel_rfl) (fun x y h => (show V.evBody impl_LastHead.E impl_LastHead.con Tryz.f13 x = _ from impl_LastHead.eq x).trans (V.cfl (by kernel_rfl) h))
noncomputable abbrev impl_OwnersAt.con : V.Con := ⟨(.cons (.sl V.eSigned) (.cons (.int .i64) .nil)), (.cons (.sl (.cons (.int .i64) .nil)) (.cons (.int .i64) (.cons .bool .nil))), fun (x : List TSigned × Int) => impl_OwnersAt x.1 x.2, [], [(false, 1), (false, 1)], [(true, 2), (false, 1)], [true, false, false], []⟩
noncomputable abbrev impl_OwnersAt.E : V.Env := V.mkE V.tys [(8, impl_IsChain.con), (33, impl_InRange.con), (40, impl_copyKeys.con)] [(5, [0, 1, 4, 16], [])] [] [] [] []
noncomputable abbrev impl_OwnersAt.kt (x0 : List TSigned) (x1 : Int) : V.Kt TRKeysBool := V.ktOf impl_OwnersAt.E impl_OwnersAt.con Tryz.f14 ((x0, x1) : List TSigned × Int)
noncomputable abbrev impl_OwnersAt.s5 (x0 : List TSigned) (x1 : Int) (v5_2 : Bool) : V.St := ⟨[(0, .v false [.val (.sl V.eSigned x0)]), (1, .v false [.val (.int .i64 x1)]), (4, .v false [.ptr 64000 0]), (16, .v false [.val (.bool v5_2)])], [(64000, .box [.nil0, .val (.int .i64 (0 : Int))])]⟩
theorem impl_OwnersAt.r5 (x0 : List TSigned) (x1 : Int) (v5_2 : Bool) : V.joinF impl_OwnersAt.E Tryz.f14.ntmps [1, 0] [] (V.codeOf Tryz.f14) (impl_OwnersAt.kt x0 x1) (impl_OwnersAt.s5 x0 x1 v5_2) = impl_OwnersAt.g5 x0 x1 v5_2 := by kernel_rfl
theorem impl_OwnersAt.e5 (x0 : List TSigned) (x1 : Int) (v5_2 : Bool) : V.jn (V.joinF impl_OwnersAt.E Tryz.f14.ntmps [1, 0] [] (V.codeOf Tryz.f14) (impl_OwnersAt.kt x0 x1)) (impl_OwnersAt.s5 x0 x1 v5_2) = impl_OwnersAt.l5 x0 x1 v5_2 := by
  rw [V.jn_eq, impl_OwnersAt.r5]
  rfl
theorem impl_OwnersAt.v (x0 : List TSigned) (x1 : Int) : V.evBody impl_OwnersAt.E impl_OwnersAt.con Tryz.f14 ((x0, x1) : List TSigned × Int) = impl_OwnersAt.b x0 x1 (fun v5_2 => V.jn (V.joinF impl_OwnersAt.E Tryz.f14.ntmps [1, 0] [] (V.codeOf Tryz.f14) (impl_OwnersAt.kt x0 x1)) (impl_OwnersAt.s5 x0 x1 v5_2)) := by kernel_rfl
theorem impl_OwnersAt.eq (x0 : List TSigned) (x1 : Int) : V.evBody impl_OwnersAt.E impl_OwnersAt.con Tryz.f14 ((x0, x1) : List TSigned × Int) = impl_OwnersAt x0 x1 := by
  rw [impl_OwnersAt.v]
  simp only [impl_OwnersAt.e5]
  rfl
theorem impl_OwnersAt.ok : V.Valid Tryz.prog 14 impl_OwnersAt.con :=
  V.fo (V.tab_cons impl_IsChain.ok (V.tab_cons impl_InRange.ok (V.tab_cons impl_copyKeys.ok V.tab_nil))) Tryz.func14 (by kernel_rfl) (fun x y h => (show V.evBody impl_OwnersAt.E impl_OwnersAt.con Tryz.f14 x = _ from impl_OwnersAt.eq x.1 x.2).trans (V.cfl (by kernel_rfl) h))
noncomputable abbrev impl_HeadAt.con : V.Con := ⟨(.cons (.sl V.eSigned) (.cons (.int .i64) .nil)), V.eRHeadBool, fun (x : List TSigned × Int) => impl_HeadAt x.1 x.2, [], [(false, 1), (false, 1)], [(true, 16), (false, 1)], [false, false, false, false, false, false, false, false, true, false, true, false, false, true, false, false, false], []⟩
noncomputable abbrev impl_HeadAt.E : V.Env := V.mkE V.tys [(8, impl_IsChain.con), (39, impl_copyHead.con)] [(8, [0, 1, 4, 6], [])] [] [] [] []
noncomputable abbrev impl_HeadAt.kt (x0 : List TSigned) (x1 : Int) : V.Kt TRHeadBool := V.ktOf impl_HeadAt.E impl_HeadAt.con Tryz.f15 ((x0, x1) : List TSigned × Int)
noncomputable abbrev impl_HeadAt.s8 (x0 : List TSigned) (x1 : Int) (v8_2 : Int) : V.St := ⟨[(0, .v false [.val (.sl V.eSigned x0)]), (1, .v false [.val (.int .i64 x1)]), (4, .v false [.ptr 64000 0]), (6, .v false [.val (.int .i64 v8_2)])], [(64000, .box [.val (.int .i64 (0 : Int)), .val (.int .i64 (0 : Int)), .val (.int .i64 (0 : Int)), .val (.int .i64 (0 : Int)), .val (.int .i64 (0 : Int)), .val (.int .i64 (0 : Int)), .val (.int .i64 (0 : Int)), .val (.int .i64 (0 : Int)), .nil0, .val (.int .i64 (0 : Int)), .nil0, .val (.int .i64 (0 : Int)), .val (.int .i64 (0 : Int)), .nil0, .val (.int .i64 (0 : Int)), .val (.bool false)])]⟩
theorem impl_HeadAt.r8 (x0 : List TSigned) (x1 : Int) (R : V.St → Option TRHeadBool) (v8_2 : Int) : V.loopF impl_HeadAt.E Tryz.f15.ntmps [1, 1, 0, 1, 0] [] (V.codeOf Tryz.f15) (impl_HeadAt.kt x0 x1) R (impl_HeadAt.s8 x0 x1 v8_2) = impl_HeadAt.g8 x0 x1 (fun v8_2 => R (impl_HeadAt.s8 x0 x1 v8_2)) v8_2 := by kernel_rfl
theorem impl_HeadAt.e8 (x0 : List TSigned) (x1 : Int) : ∀ (n : Nat) (v8_2 : Int), V.loopN (V.loopF impl_HeadAt.E Tryz.f15.ntmps [1, 1, 0, 1, 0] [] (V.codeOf Tryz.f15) (impl_HeadAt.kt x0 x1)) n (impl_HeadAt.s8 x0 x1 v8_2) = impl_HeadAt.l8 x0 x1 n v8_2 := by
  intro n
  induction n with
  | zero => intros; rw [V.loopN_z]; rfl
  | succ n ih =>
    intro v8_2
    rw [V.loopN_s, impl_HeadAt.r8]
    simp only [ih]
    first | exact (impl_HeadAt.u8 ..).symm | rfl
theorem impl_HeadAt.v (x0 : List TSigned) (x1 : Int) : V.evBody impl_HeadAt.E impl_HeadAt.con Tryz.f15 ((x0, x1) : List TSigned × Int) = impl_HeadAt.b x0 x1 (fun v8_2 => V.loopN (V.loopF impl_HeadAt.E Tryz.f15.ntmps [1, 1, 0, 1, 0] [] (V.codeOf Tryz.f15) (impl_HeadAt.kt x0 x1)) V.KK (impl_HeadAt.s8 x0 x1 v8_2)) := by kernel_rfl
theorem impl_HeadAt.eq (x0 : List TSigned) (x1 : Int) : V.evBody impl_HeadAt.E impl_HeadAt.con Tryz.f15 ((x0, x1) : List TSigned × Int) = impl_HeadAt x0 x1 := by
  rw [impl_HeadAt.v]
  simp only [impl_HeadAt.e8]
  rfl
theorem impl_HeadAt.ok : V.Valid Tryz.prog 15 impl_HeadAt.con :=
  V.fo (V.tab_cons impl_IsChain.ok (V.tab_cons impl_copyHead.ok V.tab_nil)) Tryz.func15 (by kernel_rfl) (fun x y h => (show V.evBody impl_HeadAt.E impl_HeadAt.con Tryz.f15 x = _ from impl_HeadAt.eq x.1 x.2).trans (V.cfl (by kernel_rfl) h))
noncomputable abbrev spec_DrawHeadAt.con : V.Con := ⟨(.cons (.sl (.cons (.int .u8) .nil)) .nil), (.cons (.sl V.eSigned) (.cons (.int .i64) .nil)), fun (x : List Int) => spec_DrawHeadAt x, [], [(false, 1)], [(false, 1), (false, 1)], [true, false], []⟩
noncomputable abbrev spec_DrawHeadAt.E : V.Env := V.mkE V.tys [(20, spec_l1New.con), (21, spec_l16Any.con), (41, spec_l1Below.con)] [] [] [] [] []
theorem spec_DrawHeadAt.eq (x0 : List Int) : V.evBody spec_DrawHeadAt.E spec_DrawHeadAt.con Tryz.f16 ((x0) : List Int) = spec_DrawHeadAt x0 := by kernel_rfl
theorem spec_DrawHeadAt.ok : V.Valid Tryz.prog 16 spec_DrawHeadAt.con :=
  V.fo (V.tab_cons spec_l1New.ok (V.tab_cons spec_l16Any.ok (V.tab_cons spec_l1Below.ok V.tab_nil))) Tryz.func16 (by kernel_rfl) (fun x y h => (show V.evBody spec_DrawHeadAt.E spec_DrawHeadAt.con Tryz.f16 x = _ from spec_DrawHeadAt.eq x).trans (V.cfl (by kernel_rfl) h))
noncomputable abbrev spec_HeadAt.con : V.Con := ⟨(.cons (.sl V.eSigned) (.cons (.int .i64) .nil)), V.eRHeadBool, fun (x : List TSigned × Int) => spec_HeadAt x.1 x.2, [], [(false, 1), (false, 1)], [(true, 16), (false, 1)], [false, false, false, false, false, false, false, false, true, false, true, false, false, true, false, false, false], []⟩
noncomputable abbrev spec_HeadAt.E : V.Env := V.mkE V.tys [(9, spec_IsChain.con), (42, spec_l13Copy.con)] [(8, [0, 1, 4, 6], [])] [] [] [] []
noncomputable abbrev spec_HeadAt.kt (x0 : List TSigned) (x1 : Int) : V.Kt TRHeadBool := V.ktOf spec_HeadAt.E spec_HeadAt.con Tryz.f17 ((x0, x1) : List TSigned × Int)
noncomputable abbrev spec_HeadAt.s8 (x0 : List TSigned) (x1 : Int) (v8_2 : Int) : V.St := ⟨[(0, .v false [.val (.sl V.eSigned x0)]), (1, .v false [.val (.int .i64 x1)]), (4, .v false [.ptr 64000 0]), (6, .v false [.val (.int .i64 v8_2)])], [(64000, .box [.val (.int .i64 (0 : Int)), .val (.int .i64 (0 : Int)), .val (.int .i64 (0 : Int)), .val (.int .i64 (0 : Int)), .val (.int .i64 (0 : Int)), .val (.int .i64 (0 : Int)), .val (.int .i64 (0 : Int)), .val (.int .i64 (0 : Int)), .nil0, .val (.int .i64 (0 : Int)), .nil0, .val (.int .i64 (0 : Int)), .val (.int .i64 (0 : Int)), .nil0, .val (.int .i64 (0 : Int)), .val (.bool false)])]⟩
theorem spec_HeadAt.r8 (x0 : List TSigned) (x1 : Int) (R : V.St → Option TRHeadBool) (v8_2 : Int) : V.loopF spec_HeadAt.E Tryz.f17.ntmps [1, 1, 0, 1, 0] [] (V.codeOf Tryz.f17) (spec_HeadAt.kt x0 x1) R (spec_HeadAt.s8 x0 x1 v8_2) = spec_HeadAt.g8 x0 x1 (fun v8_2 => R (spec_HeadAt.s8 x0 x1 v8_2)) v8_2 := by kernel_rfl
theorem spec_HeadAt.e8 (x0 : List TSigned) (x1 : Int) : ∀ (n : Nat) (v8_2 : Int), V.loopN (V.loopF spec_HeadAt.E Tryz.f17.ntmps [1, 1, 0, 1, 0] [] (V.codeOf Tryz.f17) (spec_HeadAt.kt x0 x1)) n (spec_HeadAt.s8 x0 x1 v8_2) = spec_HeadAt.l8 x0 x1 n v8_2 := by
  intro n
  induction n with
  | zero => intros; rw [V.loopN_z]; rfl
  | succ n ih =>
    intro v8_2
    rw [V.loopN_s, spec_HeadAt.r8]
    simp only [ih]
    first | exact (spec_HeadAt.u8 ..).symm | rfl
theorem spec_HeadAt.v (x0 : List TSigned) (x1 : Int) : V.evBody spec_HeadAt.E spec_HeadAt.con Tryz.f17 ((x0, x1) : List TSigned × Int) = spec_HeadAt.b x0 x1 (fun v8_2 => V.loopN (V.loopF spec_HeadAt.E Tryz.f17.ntmps [1, 1, 0, 1, 0] [] (V.codeOf Tryz.f17) (spec_HeadAt.kt x0 x1)) V.KK (spec_HeadAt.s8 x0 x1 v8_2)) := by kernel_rfl
theorem spec_HeadAt.eq (x0 : List TSigned) (x1 : Int) : V.evBody spec_HeadAt.E spec_HeadAt.con Tryz.f17 ((x0, x1) : List TSigned × Int) = spec_HeadAt x0 x1 := by
  rw [spec_HeadAt.v]
  simp only [spec_HeadAt.e8]
  rfl
theorem spec_HeadAt.ok : V.Valid Tryz.prog 17 spec_HeadAt.con :=
  V.fo (V.tab_cons spec_IsChain.ok (V.tab_cons spec_l13Copy.ok V.tab_nil)) Tryz.func17 (by kernel_rfl) (fun x y h => (show V.evBody spec_HeadAt.E spec_HeadAt.con Tryz.f17 x = _ from spec_HeadAt.eq x.1 x.2).trans (V.cfl (by kernel_rfl) h))
noncomputable abbrev laws_FnChains.con : V.Con := ⟨(.cons (.sl (.cons (.int .u8) .nil)) .nil), (.cons .bool .nil), fun (x : List Int) => laws_FnChains x, [], [(false, 1)], [(false, 1)], [false], []⟩
noncomputable abbrev laws_FnChains.E : V.Env := V.mkE V.tys [(4, laws_big.con), (5, spec_DrawExtend.con), (6, impl_Extend.con), (7, spec_Extend.con), (8, impl_IsChain.con), (9, spec_IsChain.con), (10, impl_FirstWrong.con), (11, spec_FirstWrong.con), (12, impl_IsPrefix.con), (13, impl_LastHead.con), (14, impl_OwnersAt.con), (15, impl_HeadAt.con), (16, spec_DrawHeadAt.con), (17, spec_HeadAt.con), (18, impl_EqualHeads.con), (19, impl_EqualKeys.con)] [(17, [0, 3, 4, 5, 6], [])] [] [] [] []
noncomputable abbrev laws_FnChains.kt (x0 : List Int) : V.Kt Bool := V.ktOf laws_FnChains.E laws_FnChains.con Tryz.f3 ((x0) : List Int)
noncomputable abbrev laws_FnChains.s17 (x0 : List Int) (y2 : TRListSigned) (y3 : List TSigned × Int) : V.St := ⟨[(0, .v false [.val (.sl (.cons (.int .u8) .nil) x0)]), (3, .v false [.ref 64000108800192]), (4, .v false [.ptr 256320 0]), (5, .v false [.ref 64000108800320]), (6, .v false [.val (.int .i64 y3.2)])], [(64000108800192, .row V.eSigned true y2.1), (256320, .box [.val (.int .i64 y2.2.1), .val (.int .i64 y2.2.2.1), .val (.int .i64 y2.2.2.2.1), .val (.int .i64 y2.2.2.2.2.1), .val (.int .i64 y2.2.2.2.2.2.1), .val (.int .i64 y2.2.2.2.2.2.2.1), .val (.int .i64 y2.2.2.2.2.2.2.2.1), .val (.int .i64 y2.2.2.2.2.2.2.2.2.1), .ref 64000000000016404488, .val (.int .i64 y2.2.2.2.2.2.2.2.2.2.2.1), .ref 64000000000016404490, .val (.int .i64 y2.2.2.2.2.2.2.2.2.2.2.2.2.1), .val (.int .i64 y2.2.2.2.2.2.2.2.2.2.2.2.2.2.1), .ref 64000000000016404493, .val (.int .i64 y2.2.2.2.2.2.2.2.2.2.2.2.2.2.2.2.1), .val (.bool y2.2.2.2.2.2.2.2.2.2.2.2.2.2.2.2.2.1), .ref 64000000000016404496]), (64000000000016404488, .row (.cons (.int .i64) .nil) true y2.2.2.2.2.2.2.2.2.2.1), (64000000000016404490, .row (.cons (.int .i64) .nil) true y2.2.2.2.2.2.2.2.2.2.2.2.1), (64000000000016404493, .row (.cons (.int .i64) .nil) true y2.2.2.2.2.2.2.2.2.2.2.2.2.2.2.1), (64000000000016404496, .row (.cons (.int .i64) (.cons (.int .i64) .nil)) true y2.2.2.2.2.2.2.2.2.2.2.2.2.2.2.2.2.2), (64000108800320, .row V.eSigned true y3.1)]⟩
theorem laws_FnChains.r17 (x0 : List Int) (y2 : TRListSigned) (y3 : List TSigned × Int) : V.joinF laws_FnChains.E Tryz.f3.ntmps [1, 1, 1, 1, 1] [] (V.codeOf Tryz.f3) (laws_FnChains.kt x0) (laws_FnChains.s17 x0 y2 y3) = laws_FnChains.g17 x0 y2 y3 := by kernel_rfl
theorem laws_FnChains.e17 (x0 : List Int) (y2 : TRListSigned) (y3 : List TSigned × Int) : V.jn (V.joinF laws_FnChains.E Tryz.f3.ntmps [1, 1, 1, 1, 1] [] (V.codeOf Tryz.f3) (laws_FnChains.kt x0)) (laws_FnChains.s17 x0 y2 y3) = laws_FnChains.l17 x0 y2 y3 := by
  rw [V.jn_eq, laws_FnChains.r17]
  rfl
theorem laws_FnChains.v (x0 : List Int) : V.evBody laws_FnChains.E laws_FnChains.con Tryz.f3 ((x0) : List Int) = laws_FnChains.b x0 (fun y2 y3 => V.jn (V.joinF laws_FnChains.E Tryz.f3.ntmps [1, 1, 1, 1, 1] [] (V.codeOf Tryz.f3) (laws_FnChains.kt x0)) (laws_FnChains.s17 x0 y2 y3)) := by kernel_rfl
theorem laws_FnChains.eq (x0 : List Int) : V.evBody laws_FnChains.E laws_FnChains.con Tryz.f3 ((x0) : List Int) = laws_FnChains x0 := by
  rw [laws_FnChains.v]
  simp only [laws_FnChains.e17]
  rfl
theorem laws_FnChains.ok : V.Valid Tryz.prog 3 laws_FnChains.con :=
  V.fo (V.tab_cons laws_big.ok (V.tab_cons spec_DrawExtend.ok (V.tab_cons impl_Extend.ok (V.tab_cons spec_Extend.ok (V.tab_cons impl_IsChain.ok (V.tab_cons spec_IsChain.ok (V.tab_cons impl_FirstWrong.ok (V.tab_cons spec_FirstWrong.ok (V.tab_cons impl_IsPrefix.ok (V.tab_cons impl_LastHead.ok (V.tab_cons impl_OwnersAt.ok (V.tab_cons impl_HeadAt.ok (V.tab_cons spec_DrawHeadAt.ok (V.tab_cons spec_HeadAt.ok (V.tab_cons impl_EqualHeads.ok (V.tab_cons impl_EqualKeys.ok V.tab_nil)))))))))))))))) Tryz.func3 (by kernel_rfl) (fun x y h => (show V.evBody laws_FnChains.E laws_FnChains.con Tryz.f3 x = _ from laws_FnChains.eq x).trans (V.cfl (by kernel_rfl) h))
end Go.Proofs.YtpiabcaiccnciaaGreat
