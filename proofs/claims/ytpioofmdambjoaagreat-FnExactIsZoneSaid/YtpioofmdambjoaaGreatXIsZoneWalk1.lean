/- That the functions compute it, part 1. -/
import Derived.Test.YtpioofmdambjoaaGreatXIsZoneWalk0
namespace Go.Proofs.YtpioofmdambjoaaGreat
set_option linter.unusedVariables false
set_option maxRecDepth 100000
noncomputable abbrev slices_IndexFunc_string__IsPath_1.con : V.Con := ⟨(.cons (.sl (.cons .str .nil)) (.cons (.fn 296 false .nil .nil) .nil)), (.cons (.int .i64) .nil), fun (x : List ByteArray × (Unit) × (Unit)) => slices_IndexFunc_string__IsPath_1 x.1 x.2, [], [(false, 1), (false, 1)], [(false, 1)], [false], []⟩
noncomputable abbrev slices_IndexFunc_string__IsPath_1.E : V.Env := V.mkE V.tys [(296, impl_IsPath_1.con)] [(4, [0, 1, 7, 8], [])] [] [] [] []
noncomputable abbrev slices_IndexFunc_string__IsPath_1.kt (x0 : List ByteArray) (x1 : (Unit) × (Unit)) : V.Kt Int := V.ktOf slices_IndexFunc_string__IsPath_1.E slices_IndexFunc_string__IsPath_1.con Tryz.f312 ((x0, x1) : List ByteArray × (Unit) × (Unit))
noncomputable abbrev slices_IndexFunc_string__IsPath_1.s4 (x0 : List ByteArray) (v4_1 : Int) (v4_2 : Int) : V.St := ⟨[(0, .v false [.val (.sl (.cons .str .nil) x0)]), (1, .v false [.val (.fn 296 false .nil .nil () ())]), (7, .v false [.val (.int .i64 v4_1)]), (8, .v false [.val (.int .i64 v4_2)])], []⟩
theorem slices_IndexFunc_string__IsPath_1.r4 (x0 : List ByteArray) (x1 : (Unit) × (Unit)) (R : V.St → Option Int) (v4_1 : Int) (v4_2 : Int) : V.loopF slices_IndexFunc_string__IsPath_1.E Tryz.f312.ntmps [1, 0, 1, 0] [] (V.codeOf Tryz.f312) (slices_IndexFunc_string__IsPath_1.kt x0 x1) R (slices_IndexFunc_string__IsPath_1.s4 x0 v4_1 v4_2) = slices_IndexFunc_string__IsPath_1.g4 x0 (fun v4_1 v4_2 => R (slices_IndexFunc_string__IsPath_1.s4 x0 v4_1 v4_2)) v4_1 v4_2 := by kernel_rfl
theorem slices_IndexFunc_string__IsPath_1.e4 (x0 : List ByteArray) (x1 : (Unit) × (Unit)) : ∀ (n : Nat) (v4_1 : Int) (v4_2 : Int), V.loopN (V.loopF slices_IndexFunc_string__IsPath_1.E Tryz.f312.ntmps [1, 0, 1, 0] [] (V.codeOf Tryz.f312) (slices_IndexFunc_string__IsPath_1.kt x0 x1)) n (slices_IndexFunc_string__IsPath_1.s4 x0 v4_1 v4_2) = slices_IndexFunc_string__IsPath_1.l4 x0 n v4_1 v4_2 := by
  intro n
  induction n with
  | zero => intros; rw [V.loopN_z]; rfl
  | succ n ih =>
    intro v4_1 v4_2
    rw [V.loopN_s, slices_IndexFunc_string__IsPath_1.r4]
    simp only [ih]
    first | exact (slices_IndexFunc_string__IsPath_1.u4 ..).symm | rfl
theorem slices_IndexFunc_string__IsPath_1.v (x0 : List ByteArray) (x1 : (Unit) × (Unit)) : V.evBody slices_IndexFunc_string__IsPath_1.E slices_IndexFunc_string__IsPath_1.con Tryz.f312 ((x0, x1) : List ByteArray × (Unit) × (Unit)) = slices_IndexFunc_string__IsPath_1.b x0 x1 (fun v4_1 v4_2 => V.loopN (V.loopF slices_IndexFunc_string__IsPath_1.E Tryz.f312.ntmps [1, 0, 1, 0] [] (V.codeOf Tryz.f312) (slices_IndexFunc_string__IsPath_1.kt x0 x1)) V.KK (slices_IndexFunc_string__IsPath_1.s4 x0 v4_1 v4_2)) := by kernel_rfl
theorem slices_IndexFunc_string__IsPath_1.eq (x0 : List ByteArray) (x1 : (Unit) × (Unit)) : V.evBody slices_IndexFunc_string__IsPath_1.E slices_IndexFunc_string__IsPath_1.con Tryz.f312 ((x0, x1) : List ByteArray × (Unit) × (Unit)) = slices_IndexFunc_string__IsPath_1 x0 x1 := by
  rw [slices_IndexFunc_string__IsPath_1.v]
  simp only [slices_IndexFunc_string__IsPath_1.e4]
  rfl
theorem slices_IndexFunc_string__IsPath_1.cf (x : slices_IndexFunc_string__IsPath_1.con.A.den) : slices_IndexFunc_string__IsPath_1.con.f x = slices_IndexFunc_string__IsPath_1 x.1 x.2 := by kernel_rfl
theorem slices_IndexFunc_string__IsPath_1.ok : V.Valid Tryz.prog 312 slices_IndexFunc_string__IsPath_1.con :=
  V.body_ok (V.env_ok V.mixed V.tysOk (V.tab_cons impl_IsPath_1.ok V.tab_nil)) Tryz.func312 (by kernel_rfl) (by kernel_rfl) (by kernel_rfl) (fun x y h => (show V.evBody slices_IndexFunc_string__IsPath_1.E slices_IndexFunc_string__IsPath_1.con Tryz.f312 x = _ from slices_IndexFunc_string__IsPath_1.eq x.1 x.2).trans ((slices_IndexFunc_string__IsPath_1.cf x).symm.trans h))
noncomputable abbrev slices_ContainsFunc_string__IsPath_1.con : V.Con := ⟨(.cons (.sl (.cons .str .nil)) (.cons (.fn 296 false .nil .nil) .nil)), (.cons .bool .nil), fun (x : List ByteArray × (Unit) × (Unit)) => slices_ContainsFunc_string__IsPath_1 x.1 x.2, [], [(false, 1), (false, 1)], [(false, 1)], [false], []⟩
noncomputable abbrev slices_ContainsFunc_string__IsPath_1.E : V.Env := V.mkE V.tys [(312, slices_IndexFunc_string__IsPath_1.con)] [] [] [] [] []
noncomputable abbrev slices_ContainsFunc_string__IsPath_1.kt (x0 : List ByteArray) (x1 : (Unit) × (Unit)) : V.Kt Bool := V.ktOf slices_ContainsFunc_string__IsPath_1.E slices_ContainsFunc_string__IsPath_1.con Tryz.f295 ((x0, x1) : List ByteArray × (Unit) × (Unit))
theorem slices_ContainsFunc_string__IsPath_1.eq (x0 : List ByteArray) (x1 : (Unit) × (Unit)) : V.evBody slices_ContainsFunc_string__IsPath_1.E slices_ContainsFunc_string__IsPath_1.con Tryz.f295 ((x0, x1) : List ByteArray × (Unit) × (Unit)) = slices_ContainsFunc_string__IsPath_1 x0 x1 := by kernel_rfl
theorem slices_ContainsFunc_string__IsPath_1.cf (x : slices_ContainsFunc_string__IsPath_1.con.A.den) : slices_ContainsFunc_string__IsPath_1.con.f x = slices_ContainsFunc_string__IsPath_1 x.1 x.2 := by kernel_rfl
theorem slices_ContainsFunc_string__IsPath_1.ok : V.Valid Tryz.prog 295 slices_ContainsFunc_string__IsPath_1.con :=
  V.body_ok (V.env_ok V.mixed V.tysOk (V.tab_cons slices_IndexFunc_string__IsPath_1.ok V.tab_nil)) Tryz.func295 (by kernel_rfl) (by kernel_rfl) (by kernel_rfl) (fun x y h => (show V.evBody slices_ContainsFunc_string__IsPath_1.E slices_ContainsFunc_string__IsPath_1.con Tryz.f295 x = _ from slices_ContainsFunc_string__IsPath_1.eq x.1 x.2).trans ((slices_ContainsFunc_string__IsPath_1.cf x).symm.trans h))
noncomputable abbrev impl_IsPath.con : V.Con := ⟨(.cons (.sl (.cons .str .nil)) .nil), (.cons .bool .nil), fun (x : List ByteArray) => impl_IsPath x, [], [(false, 1)], [(false, 1)], [false], []⟩
noncomputable abbrev impl_IsPath.E : V.Env := V.mkE V.tys [(151, impl_InRange.con), (295, slices_ContainsFunc_string__IsPath_1.con)] [] [] [] [] []
noncomputable abbrev impl_IsPath.kt (x0 : List ByteArray) : V.Kt Bool := V.ktOf impl_IsPath.E impl_IsPath.con Tryz.f253 ((x0) : List ByteArray)
theorem impl_IsPath.eq (x0 : List ByteArray) : V.evBody impl_IsPath.E impl_IsPath.con Tryz.f253 ((x0) : List ByteArray) = impl_IsPath x0 := by kernel_rfl
theorem impl_IsPath.cf (x : impl_IsPath.con.A.den) : impl_IsPath.con.f x = impl_IsPath x := by kernel_rfl
theorem impl_IsPath.ok : V.Valid Tryz.prog 253 impl_IsPath.con :=
  V.body_ok (V.env_ok V.mixed V.tysOk (V.tab_cons impl_InRange.ok (V.tab_cons slices_ContainsFunc_string__IsPath_1.ok V.tab_nil))) Tryz.func253 (by kernel_rfl) (by kernel_rfl) (by kernel_rfl) (fun x y h => (show V.evBody impl_IsPath.E impl_IsPath.con Tryz.f253 x = _ from impl_IsPath.eq x).trans ((impl_IsPath.cf x).symm.trans h))
noncomputable abbrev impl_IsEntry.con : V.Con := ⟨V.eEntry, (.cons .bool .nil), fun (x : ByteArray × Int × Int × List ByteArray) => impl_IsEntry x, [], [(true, 4)], [(false, 1)], [false], []⟩
noncomputable abbrev impl_IsEntry.E : V.Env := V.mkE V.tys [(151, impl_InRange.con), (217, impl_isDigest.con), (252, impl_IsLabel.con), (253, impl_IsPath.con)] [] [] [] [] []
noncomputable abbrev impl_IsEntry.kt (x0 : TEntry) : V.Kt Bool := V.ktOf impl_IsEntry.E impl_IsEntry.con Tryz.f192 ((x0.1, x0.2.1, x0.2.2.1, x0.2.2.2) : ByteArray × Int × Int × List ByteArray)
theorem impl_IsEntry.eq (x0 : TEntry) : V.evBody impl_IsEntry.E impl_IsEntry.con Tryz.f192 ((x0.1, x0.2.1, x0.2.2.1, x0.2.2.2) : ByteArray × Int × Int × List ByteArray) = impl_IsEntry x0 := by kernel_rfl
theorem impl_IsEntry.cf (x : impl_IsEntry.con.A.den) : impl_IsEntry.con.f x = impl_IsEntry x := by kernel_rfl
theorem impl_IsEntry.ok : V.Valid Tryz.prog 192 impl_IsEntry.con :=
  V.body_ok (V.env_ok V.mixed V.tysOk (V.tab_cons impl_InRange.ok (V.tab_cons impl_isDigest.ok (V.tab_cons impl_IsLabel.ok (V.tab_cons impl_IsPath.ok V.tab_nil))))) Tryz.func192 (by kernel_rfl) (by kernel_rfl) (by kernel_rfl) (fun x y h => (show V.evBody impl_IsEntry.E impl_IsEntry.con Tryz.f192 x = _ from impl_IsEntry.eq x).trans ((impl_IsEntry.cf x).symm.trans h))
noncomputable abbrev internal_bytealg_CompareString.con : V.Con := ⟨.cons .str (.cons .str .nil), .cons (.int .i64) .nil, fun (x : ByteArray × ByteArray) => internal_bytealg_CompareString x.1 x.2, [], [(false, 1), (false, 1)], [(false, 1)], [false], []⟩
theorem internal_bytealg_CompareString.ok : V.Valid Tryz.prog 297 internal_bytealg_CompareString.con :=
  V.cmp_valid (ρ := ⟨fun n => bif Nat.beq n 213 then 297 else 313, fun t => bif Nat.beq t 3 then 3 else 9, fun x => x⟩) { mixed := V.mixed, f213 := by kernel_rfl, f265 := by kernel_rfl, t3 := by kernel_rfl, a3 := fun w => rfl, z3 := fun w => rfl, v3 := fun w => rfl, t9 := by kernel_rfl, a9 := fun w => rfl, z9 := fun w => rfl, v9 := fun w => rfl }
noncomputable abbrev strings_Compare.con : V.Con := ⟨(.cons .str (.cons .str .nil)), (.cons (.int .i64) .nil), fun (x : ByteArray × ByteArray) => strings_Compare x.1 x.2, [], [(false, 1), (false, 1)], [(false, 1)], [false], []⟩
noncomputable abbrev strings_Compare.E : V.Env := V.mkE V.tys [(297, internal_bytealg_CompareString.con)] [] [] [] [] []
noncomputable abbrev strings_Compare.kt (x0 : ByteArray) (x1 : ByteArray) : V.Kt Int := V.ktOf strings_Compare.E strings_Compare.con Tryz.f254 ((x0, x1) : ByteArray × ByteArray)
theorem strings_Compare.eq (x0 : ByteArray) (x1 : ByteArray) : V.evBody strings_Compare.E strings_Compare.con Tryz.f254 ((x0, x1) : ByteArray × ByteArray) = strings_Compare x0 x1 := by kernel_rfl
theorem strings_Compare.cf (x : strings_Compare.con.A.den) : strings_Compare.con.f x = strings_Compare x.1 x.2 := by kernel_rfl
theorem strings_Compare.ok : V.Valid Tryz.prog 254 strings_Compare.con :=
  V.body_ok (V.env_ok V.mixed V.tysOk (V.tab_cons internal_bytealg_CompareString.ok V.tab_nil)) Tryz.func254 (by kernel_rfl) (by kernel_rfl) (by kernel_rfl) (fun x y h => (show V.evBody strings_Compare.E strings_Compare.con Tryz.f254 x = _ from strings_Compare.eq x.1 x.2).trans ((strings_Compare.cf x).symm.trans h))
noncomputable abbrev impl_CompareLabels.con : V.Con := ⟨(.cons .str (.cons .str .nil)), (.cons (.int .i64) .nil), fun (x : ByteArray × ByteArray) => impl_CompareLabels x.1 x.2, [], [(false, 1), (false, 1)], [(false, 1)], [false], []⟩
noncomputable abbrev impl_CompareLabels.E : V.Env := V.mkE V.tys [(254, strings_Compare.con)] [] [] [] [] []
noncomputable abbrev impl_CompareLabels.kt (x0 : ByteArray) (x1 : ByteArray) : V.Kt Int := V.ktOf impl_CompareLabels.E impl_CompareLabels.con Tryz.f193 ((x0, x1) : ByteArray × ByteArray)
theorem impl_CompareLabels.eq (x0 : ByteArray) (x1 : ByteArray) : V.evBody impl_CompareLabels.E impl_CompareLabels.con Tryz.f193 ((x0, x1) : ByteArray × ByteArray) = impl_CompareLabels x0 x1 := by kernel_rfl
theorem impl_CompareLabels.cf (x : impl_CompareLabels.con.A.den) : impl_CompareLabels.con.f x = impl_CompareLabels x.1 x.2 := by kernel_rfl
theorem impl_CompareLabels.ok : V.Valid Tryz.prog 193 impl_CompareLabels.con :=
  V.body_ok (V.env_ok V.mixed V.tysOk (V.tab_cons strings_Compare.ok V.tab_nil)) Tryz.func193 (by kernel_rfl) (by kernel_rfl) (by kernel_rfl) (fun x y h => (show V.evBody impl_CompareLabels.E impl_CompareLabels.con Tryz.f193 x = _ from impl_CompareLabels.eq x.1 x.2).trans ((impl_CompareLabels.cf x).symm.trans h))
noncomputable abbrev impl_AreEntries.con : V.Con := ⟨(.cons (.sl V.eEntry) .nil), (.cons .bool .nil), fun (x : List TEntry) => impl_AreEntries x, [], [(false, 1)], [(false, 1)], [false], []⟩
noncomputable abbrev impl_AreEntries.E : V.Env := V.mkE V.tys [(192, impl_IsEntry.con), (193, impl_CompareLabels.con)] [(4, [0, 5, 6, 7], [])] [(4, 15)] [] [] []
noncomputable abbrev impl_AreEntries.kt (x0 : List TEntry) : V.Kt Bool := V.ktOf impl_AreEntries.E impl_AreEntries.con Tryz.f91 ((x0) : List TEntry)
noncomputable abbrev impl_AreEntries.s4 (x0 : List TEntry) (v4_2 : Int) (v4_3 : Int) : V.St := ⟨[(0, .v false [.val (.sl V.eEntry x0)]), (5, .v false [.val (.sl V.eEntry x0)]), (6, .v false [.val (.int .i64 v4_2)]), (7, .v false [.val (.int .i64 v4_3)])], []⟩
theorem impl_AreEntries.r4 (x0 : List TEntry) (R : V.St → Option Bool) (v4_2 : Int) (v4_3 : Int) : V.loopF impl_AreEntries.E Tryz.f91.ntmps [1, 0, 1, 0] [] (V.codeOf Tryz.f91) (impl_AreEntries.kt x0) R (impl_AreEntries.s4 x0 v4_2 v4_3) = impl_AreEntries.g4 x0 (fun v4_2 v4_3 => R (impl_AreEntries.s4 x0 v4_2 v4_3)) v4_2 v4_3 := by kernel_rfl
theorem impl_AreEntries.e4 (x0 : List TEntry) : ∀ (n : Nat) (v4_2 : Int) (v4_3 : Int), V.loopN (V.loopF impl_AreEntries.E Tryz.f91.ntmps [1, 0, 1, 0] [] (V.codeOf Tryz.f91) (impl_AreEntries.kt x0)) n (impl_AreEntries.s4 x0 v4_2 v4_3) = impl_AreEntries.l4 x0 n v4_2 v4_3 := by
  intro n
  induction n with
  | zero => intros; rw [V.loopN_z]; rfl
  | succ n ih =>
    intro v4_2 v4_3
    rw [V.loopN_s, impl_AreEntries.r4]
    simp only [ih]
    first | exact (impl_AreEntries.u4 ..).symm | rfl
theorem impl_AreEntries.v (x0 : List TEntry) : V.evBody impl_AreEntries.E impl_AreEntries.con Tryz.f91 ((x0) : List TEntry) = impl_AreEntries.b x0 (fun v4_2 v4_3 => V.loopN (V.loopF impl_AreEntries.E Tryz.f91.ntmps [1, 0, 1, 0] [] (V.codeOf Tryz.f91) (impl_AreEntries.kt x0)) V.KK (impl_AreEntries.s4 x0 v4_2 v4_3)) := by kernel_rfl
theorem impl_AreEntries.eq (x0 : List TEntry) : V.evBody impl_AreEntries.E impl_AreEntries.con Tryz.f91 ((x0) : List TEntry) = impl_AreEntries x0 := by
  rw [impl_AreEntries.v]
  simp only [impl_AreEntries.e4]
  rfl
theorem impl_AreEntries.cf (x : impl_AreEntries.con.A.den) : impl_AreEntries.con.f x = impl_AreEntries x := by kernel_rfl
theorem impl_AreEntries.ok : V.Valid Tryz.prog 91 impl_AreEntries.con :=
  V.body_ok (V.env_ok V.mixed V.tysOk (V.tab_cons impl_IsEntry.ok (V.tab_cons impl_CompareLabels.ok V.tab_nil))) Tryz.func91 (by kernel_rfl) (by kernel_rfl) (by kernel_rfl) (fun x y h => (show V.evBody impl_AreEntries.E impl_AreEntries.con Tryz.f91 x = _ from impl_AreEntries.eq x).trans ((impl_AreEntries.cf x).symm.trans h))
noncomputable abbrev impl_BytesToInts.con : V.Con := ⟨(.cons (.sl (.cons (.int .u8) .nil)) .nil), (.cons (.sl (.cons (.int .i64) .nil)) .nil), fun (x : List Int) => impl_BytesToInts x, [], [(false, 1)], [(false, 1)], [true], []⟩
noncomputable abbrev impl_BytesToInts.E : V.Env := V.mkE V.tys [] [(6, [3, 9, 10, 11], [])] [] [] [] []
noncomputable abbrev impl_BytesToInts.kt (x0 : List Int) : V.Kt (List Int) := V.ktOf impl_BytesToInts.E impl_BytesToInts.con Tryz.f318 ((x0) : List Int)
noncomputable abbrev impl_BytesToInts.s6 (x0 : List Int) (v6_1 : Int) (v6_2 : Int) (v6_3 : List Int) : V.St := ⟨[(3, .v false [.ref 64000038400192]), (9, .v false [.val (.sl (.cons (.int .u8) .nil) x0)]), (10, .v false [.val (.int .i64 v6_1)]), (11, .v false [.val (.int .i64 v6_2)])], [(64000038400192, .row (.cons (.int .i64) .nil) true v6_3)]⟩
theorem impl_BytesToInts.r6 (x0 : List Int) (R : V.St → Option (List Int)) (v6_1 : Int) (v6_2 : Int) (v6_3 : List Int) : V.loopF impl_BytesToInts.E Tryz.f318.ntmps [1, 1, 0, 1, 0] [] (V.codeOf Tryz.f318) (impl_BytesToInts.kt x0) R (impl_BytesToInts.s6 x0 v6_1 v6_2 v6_3) = impl_BytesToInts.g6 x0 (fun v6_1 v6_2 v6_3 => R (impl_BytesToInts.s6 x0 v6_1 v6_2 v6_3)) v6_1 v6_2 v6_3 := by kernel_rfl
theorem impl_BytesToInts.e6 (x0 : List Int) : ∀ (n : Nat) (v6_1 : Int) (v6_2 : Int) (v6_3 : List Int), V.loopN (V.loopF impl_BytesToInts.E Tryz.f318.ntmps [1, 1, 0, 1, 0] [] (V.codeOf Tryz.f318) (impl_BytesToInts.kt x0)) n (impl_BytesToInts.s6 x0 v6_1 v6_2 v6_3) = impl_BytesToInts.l6 x0 n v6_1 v6_2 v6_3 := by
  intro n
  induction n with
  | zero => intros; rw [V.loopN_z]; rfl
  | succ n ih =>
    intro v6_1 v6_2 v6_3
    rw [V.loopN_s, impl_BytesToInts.r6]
    simp only [ih]
    first | exact (impl_BytesToInts.u6 ..).symm | rfl
theorem impl_BytesToInts.v (x0 : List Int) : V.evBody impl_BytesToInts.E impl_BytesToInts.con Tryz.f318 ((x0) : List Int) = impl_BytesToInts.b x0 (fun v6_1 v6_2 v6_3 => V.loopN (V.loopF impl_BytesToInts.E Tryz.f318.ntmps [1, 1, 0, 1, 0] [] (V.codeOf Tryz.f318) (impl_BytesToInts.kt x0)) V.KK (impl_BytesToInts.s6 x0 v6_1 v6_2 v6_3)) := by kernel_rfl
theorem impl_BytesToInts.eq (x0 : List Int) : V.evBody impl_BytesToInts.E impl_BytesToInts.con Tryz.f318 ((x0) : List Int) = impl_BytesToInts x0 := by
  rw [impl_BytesToInts.v]
  simp only [impl_BytesToInts.e6]
  rfl
theorem impl_BytesToInts.cf (x : impl_BytesToInts.con.A.den) : impl_BytesToInts.con.f x = impl_BytesToInts x := by kernel_rfl
theorem impl_BytesToInts.ok : V.Valid Tryz.prog 318 impl_BytesToInts.con :=
  V.body_ok (V.env_ok V.mixed V.tysOk V.tab_nil) Tryz.func318 (by kernel_rfl) (by kernel_rfl) (by kernel_rfl) (fun x y h => (show V.evBody impl_BytesToInts.E impl_BytesToInts.con Tryz.f318 x = _ from impl_BytesToInts.eq x).trans ((impl_BytesToInts.cf x).symm.trans h))
noncomputable abbrev impl_LabelInts.con : V.Con := ⟨(.cons .str .nil), (.cons (.sl (.cons (.int .i64) .nil)) .nil), fun (x : ByteArray) => impl_LabelInts x, [], [(false, 1)], [(false, 1)], [true], []⟩
noncomputable abbrev impl_LabelInts.E : V.Env := V.mkE V.tys [(318, impl_BytesToInts.con)] [] [] [] [] []
noncomputable abbrev impl_LabelInts.kt (x0 : ByteArray) : V.Kt (List Int) := V.ktOf impl_LabelInts.E impl_LabelInts.con Tryz.f314 ((x0) : ByteArray)
theorem impl_LabelInts.eq (x0 : ByteArray) : V.evBody impl_LabelInts.E impl_LabelInts.con Tryz.f314 ((x0) : ByteArray) = impl_LabelInts x0 := by kernel_rfl
theorem impl_LabelInts.cf (x : impl_LabelInts.con.A.den) : impl_LabelInts.con.f x = impl_LabelInts x := by kernel_rfl
theorem impl_LabelInts.ok : V.Valid Tryz.prog 314 impl_LabelInts.con :=
  V.body_ok (V.env_ok V.mixed V.tysOk (V.tab_cons impl_BytesToInts.ok V.tab_nil)) Tryz.func314 (by kernel_rfl) (by kernel_rfl) (by kernel_rfl) (fun x y h => (show V.evBody impl_LabelInts.E impl_LabelInts.con Tryz.f314 x = _ from impl_LabelInts.eq x).trans ((impl_LabelInts.cf x).symm.trans h))
noncomputable abbrev impl_EntryInts.con : V.Con := ⟨V.eEntry, (.cons (.sl (.cons (.int .i64) .nil)) .nil), fun (x : ByteArray × Int × Int × List ByteArray) => impl_EntryInts x, [], [(true, 4)], [(false, 1)], [true], []⟩
noncomputable abbrev impl_EntryInts.E : V.Env := V.mkE V.tys [(314, impl_LabelInts.con)] [(6, [3, 19, 20, 21], [])] [(1, 11)] [] [] []
noncomputable abbrev impl_EntryInts.kt (x0 : TEntry) : V.Kt (List Int) := V.ktOf impl_EntryInts.E impl_EntryInts.con Tryz.f301 ((x0.1, x0.2.1, x0.2.2.1, x0.2.2.2) : ByteArray × Int × Int × List ByteArray)
noncomputable abbrev impl_EntryInts.s6 (x0 : TEntry) (v6_1 : Int) (v6_2 : Int) (v6_3 : List Int) : V.St := ⟨[(3, .v false [.ref 64000038400192]), (19, .v false [.val (.sl (.cons .str .nil) x0.2.2.2)]), (20, .v false [.val (.int .i64 v6_1)]), (21, .v false [.val (.int .i64 v6_2)])], [(64000038400192, .row (.cons (.int .i64) .nil) true v6_3)]⟩
theorem impl_EntryInts.r6 (x0 : TEntry) (R : V.St → Option (List Int)) (v6_1 : Int) (v6_2 : Int) (v6_3 : List Int) : V.loopF impl_EntryInts.E Tryz.f301.ntmps [1, 1, 0, 1, 0] [] (V.codeOf Tryz.f301) (impl_EntryInts.kt x0) R (impl_EntryInts.s6 x0 v6_1 v6_2 v6_3) = impl_EntryInts.g6 x0 (fun v6_1 v6_2 v6_3 => R (impl_EntryInts.s6 x0 v6_1 v6_2 v6_3)) v6_1 v6_2 v6_3 := by kernel_rfl
theorem impl_EntryInts.e6 (x0 : TEntry) : ∀ (n : Nat) (v6_1 : Int) (v6_2 : Int) (v6_3 : List Int), V.loopN (V.loopF impl_EntryInts.E Tryz.f301.ntmps [1, 1, 0, 1, 0] [] (V.codeOf Tryz.f301) (impl_EntryInts.kt x0)) n (impl_EntryInts.s6 x0 v6_1 v6_2 v6_3) = impl_EntryInts.l6 x0 n v6_1 v6_2 v6_3 := by
  intro n
  induction n with
  | zero => intros; rw [V.loopN_z]; rfl
  | succ n ih =>
    intro v6_1 v6_2 v6_3
    rw [V.loopN_s, impl_EntryInts.r6]
    simp only [ih]
    first | exact (impl_EntryInts.u6 ..).symm | rfl
theorem impl_EntryInts.v (x0 : TEntry) : V.evBody impl_EntryInts.E impl_EntryInts.con Tryz.f301 ((x0.1, x0.2.1, x0.2.2.1, x0.2.2.2) : ByteArray × Int × Int × List ByteArray) = impl_EntryInts.b x0 (fun v6_1 v6_2 v6_3 => V.loopN (V.loopF impl_EntryInts.E Tryz.f301.ntmps [1, 1, 0, 1, 0] [] (V.codeOf Tryz.f301) (impl_EntryInts.kt x0)) V.KK (impl_EntryInts.s6 x0 v6_1 v6_2 v6_3)) := by kernel_rfl
theorem impl_EntryInts.eq (x0 : TEntry) : V.evBody impl_EntryInts.E impl_EntryInts.con Tryz.f301 ((x0.1, x0.2.1, x0.2.2.1, x0.2.2.2) : ByteArray × Int × Int × List ByteArray) = impl_EntryInts x0 := by
  rw [impl_EntryInts.v]
  simp only [impl_EntryInts.e6]
  rfl
theorem impl_EntryInts.cf (x : impl_EntryInts.con.A.den) : impl_EntryInts.con.f x = impl_EntryInts x := by kernel_rfl
theorem impl_EntryInts.ok : V.Valid Tryz.prog 301 impl_EntryInts.con :=
  V.body_ok (V.env_ok V.mixed V.tysOk (V.tab_cons impl_LabelInts.ok V.tab_nil)) Tryz.func301 (by kernel_rfl) (by kernel_rfl) (by kernel_rfl) (fun x y h => (show V.evBody impl_EntryInts.E impl_EntryInts.con Tryz.f301 x = _ from impl_EntryInts.eq x).trans ((impl_EntryInts.cf x).symm.trans h))
noncomputable abbrev impl_LeafOf.con : V.Con := ⟨V.eEntry, (.cons (.int .i64) .nil), fun (x : ByteArray × Int × Int × List ByteArray) => impl_LeafOf x, [], [(true, 4)], [(false, 1)], [false], []⟩
noncomputable abbrev impl_LeafOf.E : V.Env := V.mkE V.tys [(260, impl_Hash.con), (301, impl_EntryInts.con)] [] [] [] [] []
noncomputable abbrev impl_LeafOf.kt (x0 : TEntry) : V.Kt Int := V.ktOf impl_LeafOf.E impl_LeafOf.con Tryz.f263 ((x0.1, x0.2.1, x0.2.2.1, x0.2.2.2) : ByteArray × Int × Int × List ByteArray)
theorem impl_LeafOf.eq (x0 : TEntry) : V.evBody impl_LeafOf.E impl_LeafOf.con Tryz.f263 ((x0.1, x0.2.1, x0.2.2.1, x0.2.2.2) : ByteArray × Int × Int × List ByteArray) = impl_LeafOf x0 := by kernel_rfl
theorem impl_LeafOf.cf (x : impl_LeafOf.con.A.den) : impl_LeafOf.con.f x = impl_LeafOf x := by kernel_rfl
theorem impl_LeafOf.ok : V.Valid Tryz.prog 263 impl_LeafOf.con :=
  V.body_ok (V.env_ok V.mixed V.tysOk (V.tab_cons impl_Hash.ok (V.tab_cons impl_EntryInts.ok V.tab_nil))) Tryz.func263 (by kernel_rfl) (by kernel_rfl) (by kernel_rfl) (fun x y h => (show V.evBody impl_LeafOf.E impl_LeafOf.con Tryz.f263 x = _ from impl_LeafOf.eq x).trans ((impl_LeafOf.cf x).symm.trans h))
noncomputable abbrev impl_LeavesOf.con : V.Con := ⟨(.cons (.sl V.eEntry) .nil), (.cons (.sl (.cons (.int .i64) .nil)) .nil), fun (x : List TEntry) => impl_LeavesOf x, [], [(false, 1)], [(false, 1)], [true], []⟩
noncomputable abbrev impl_LeavesOf.E : V.Env := V.mkE V.tys [(263, impl_LeafOf.con)] [(6, [3, 7, 8, 9], [(64000038400192, (.cons (.int .i64) .nil), true)])] [] [] [] []
noncomputable abbrev impl_LeavesOf.kt (x0 : List TEntry) : V.Kt (List Int) := V.ktOf impl_LeavesOf.E impl_LeavesOf.con Tryz.f200 ((x0) : List TEntry)
noncomputable abbrev impl_LeavesOf.s6 (x0 : List TEntry) (v6_1 : Int) (v6_2 : Int) (v6_3 : List Int) : V.St := ⟨[(3, .v false [.ref 64000038400192]), (7, .v false [.val (.sl V.eEntry x0)]), (8, .v false [.val (.int .i64 v6_1)]), (9, .v false [.val (.int .i64 v6_2)])], [(64000038400192, .row (.cons (.int .i64) .nil) true v6_3)]⟩
theorem impl_LeavesOf.r6 (x0 : List TEntry) (R : V.St → Option (List Int)) (v6_1 : Int) (v6_2 : Int) (v6_3 : List Int) : V.loopF impl_LeavesOf.E Tryz.f200.ntmps [1, 1, 0, 1, 0] [] (V.codeOf Tryz.f200) (impl_LeavesOf.kt x0) R (impl_LeavesOf.s6 x0 v6_1 v6_2 v6_3) = impl_LeavesOf.g6 x0 (fun v6_1 v6_2 v6_3 => R (impl_LeavesOf.s6 x0 v6_1 v6_2 v6_3)) v6_1 v6_2 v6_3 := by kernel_rfl
theorem impl_LeavesOf.e6 (x0 : List TEntry) : ∀ (n : Nat) (v6_1 : Int) (v6_2 : Int) (v6_3 : List Int), V.loopN (V.loopF impl_LeavesOf.E Tryz.f200.ntmps [1, 1, 0, 1, 0] [] (V.codeOf Tryz.f200) (impl_LeavesOf.kt x0)) n (impl_LeavesOf.s6 x0 v6_1 v6_2 v6_3) = impl_LeavesOf.l6 x0 n v6_1 v6_2 v6_3 := by
  intro n
  induction n with
  | zero => intros; rw [V.loopN_z]; rfl
  | succ n ih =>
    intro v6_1 v6_2 v6_3
    rw [V.loopN_s, impl_LeavesOf.r6]
    simp only [ih]
    first | exact (impl_LeavesOf.u6 ..).symm | rfl
theorem impl_LeavesOf.v (x0 : List TEntry) : V.evBody impl_LeavesOf.E impl_LeavesOf.con Tryz.f200 ((x0) : List TEntry) = impl_LeavesOf.b x0 (fun v6_1 v6_2 v6_3 => V.loopN (V.loopF impl_LeavesOf.E Tryz.f200.ntmps [1, 1, 0, 1, 0] [] (V.codeOf Tryz.f200) (impl_LeavesOf.kt x0)) V.KK (impl_LeavesOf.s6 x0 v6_1 v6_2 v6_3)) := by kernel_rfl
theorem impl_LeavesOf.eq (x0 : List TEntry) : V.evBody impl_LeavesOf.E impl_LeavesOf.con Tryz.f200 ((x0) : List TEntry) = impl_LeavesOf x0 := by
  rw [impl_LeavesOf.v]
  simp only [impl_LeavesOf.e6]
  rfl
theorem impl_LeavesOf.cf (x : impl_LeavesOf.con.A.den) : impl_LeavesOf.con.f x = impl_LeavesOf x := by kernel_rfl
theorem impl_LeavesOf.ok : V.Valid Tryz.prog 200 impl_LeavesOf.con :=
  V.body_ok (V.env_ok V.mixed V.tysOk (V.tab_cons impl_LeafOf.ok V.tab_nil)) Tryz.func200 (by kernel_rfl) (by kernel_rfl) (by kernel_rfl) (fun x y h => (show V.evBody impl_LeavesOf.E impl_LeavesOf.con Tryz.f200 x = _ from impl_LeavesOf.eq x).trans ((impl_LeavesOf.cf x).symm.trans h))
noncomputable abbrev impl_hash.con : V.Con := ⟨(.cons (.sl (.cons (.int .i64) .nil)) .nil), (.cons (.int .i64) .nil), fun (x : List Int) => impl_hash x, [], [(false, 1)], [(false, 1)], [false], []⟩
noncomputable abbrev impl_hash.E : V.Env := V.mkE V.tys [(260, impl_Hash.con)] [] [] [] [] []
noncomputable abbrev impl_hash.kt (x0 : List Int) : V.Kt Int := V.ktOf impl_hash.E impl_hash.con Tryz.f261 ((x0) : List Int)
theorem impl_hash.eq (x0 : List Int) : V.evBody impl_hash.E impl_hash.con Tryz.f261 ((x0) : List Int) = impl_hash x0 := by kernel_rfl
theorem impl_hash.cf (x : impl_hash.con.A.den) : impl_hash.con.f x = impl_hash x := by kernel_rfl
theorem impl_hash.ok : V.Valid Tryz.prog 261 impl_hash.con :=
  V.body_ok (V.env_ok V.mixed V.tysOk (V.tab_cons impl_Hash.ok V.tab_nil)) Tryz.func261 (by kernel_rfl) (by kernel_rfl) (by kernel_rfl) (fun x y h => (show V.evBody impl_hash.E impl_hash.con Tryz.f261 x = _ from impl_hash.eq x).trans ((impl_hash.cf x).symm.trans h))
noncomputable abbrev impl_NodeOf.con : V.Con := ⟨(.cons (.int .i64) (.cons (.int .i64) .nil)), (.cons (.int .i64) .nil), fun (x : Int × Int) => impl_NodeOf x.1 x.2, [], [(false, 1), (false, 1)], [(false, 1)], [false], []⟩
noncomputable abbrev impl_NodeOf.E : V.Env := V.mkE V.tys [(261, impl_hash.con)] [] [] [] [] []
noncomputable abbrev impl_NodeOf.kt (x0 : Int) (x1 : Int) : V.Kt Int := V.ktOf impl_NodeOf.E impl_NodeOf.con Tryz.f300 ((x0, x1) : Int × Int)
theorem impl_NodeOf.eq (x0 : Int) (x1 : Int) : V.evBody impl_NodeOf.E impl_NodeOf.con Tryz.f300 ((x0, x1) : Int × Int) = impl_NodeOf x0 x1 := by kernel_rfl
theorem impl_NodeOf.cf (x : impl_NodeOf.con.A.den) : impl_NodeOf.con.f x = impl_NodeOf x.1 x.2 := by kernel_rfl
theorem impl_NodeOf.ok : V.Valid Tryz.prog 300 impl_NodeOf.con :=
  V.body_ok (V.env_ok V.mixed V.tysOk (V.tab_cons impl_hash.ok V.tab_nil)) Tryz.func300 (by kernel_rfl) (by kernel_rfl) (by kernel_rfl) (fun x y h => (show V.evBody impl_NodeOf.E impl_NodeOf.con Tryz.f300 x = _ from impl_NodeOf.eq x.1 x.2).trans ((impl_NodeOf.cf x).symm.trans h))
noncomputable abbrev impl_above.con : V.Con := ⟨(.cons (.sl (.cons (.int .i64) .nil)) .nil), (.cons (.sl (.cons (.int .i64) .nil)) .nil), fun (x : List Int) => impl_above x, [], [(false, 1)], [(false, 1)], [true], []⟩
noncomputable abbrev impl_above.E : V.Env := V.mkE V.tys [(300, impl_NodeOf.con)] [(6, [0, 3, 4], [(64000038400192, (.cons (.int .i64) .nil), true)])] [(6, 12)] [] [] []
noncomputable abbrev impl_above.kt (x0 : List Int) : V.Kt (List Int) := V.ktOf impl_above.E impl_above.con Tryz.f262 ((x0) : List Int)
noncomputable abbrev impl_above.s6 (x0 : List Int) (v6_1 : Int) (v6_2 : List Int) : V.St := ⟨[(0, .v false [.val (.sl (.cons (.int .i64) .nil) x0)]), (3, .v false [.ref 64000038400192]), (4, .v false [.val (.int .i64 v6_1)])], [(64000038400192, .row (.cons (.int .i64) .nil) true v6_2)]⟩
theorem impl_above.r6 (x0 : List Int) (R : V.St → Option (List Int)) (v6_1 : Int) (v6_2 : List Int) : V.loopF impl_above.E Tryz.f262.ntmps [1, 1, 0, 1, 0] [] (V.codeOf Tryz.f262) (impl_above.kt x0) R (impl_above.s6 x0 v6_1 v6_2) = impl_above.g6 x0 (fun v6_1 v6_2 => R (impl_above.s6 x0 v6_1 v6_2)) v6_1 v6_2 := by kernel_rfl
theorem impl_above.e6 (x0 : List Int) : ∀ (n : Nat) (v6_1 : Int) (v6_2 : List Int), V.loopN (V.loopF impl_above.E Tryz.f262.ntmps [1, 1, 0, 1, 0] [] (V.codeOf Tryz.f262) (impl_above.kt x0)) n (impl_above.s6 x0 v6_1 v6_2) = impl_above.l6 x0 n v6_1 v6_2 := by
  intro n
  induction n with
  | zero => intros; rw [V.loopN_z]; rfl
  | succ n ih =>
    intro v6_1 v6_2
    rw [V.loopN_s, impl_above.r6]
    simp only [ih]
    first | exact (impl_above.u6 ..).symm | rfl
theorem impl_above.v (x0 : List Int) : V.evBody impl_above.E impl_above.con Tryz.f262 ((x0) : List Int) = impl_above.b x0 (fun v6_1 v6_2 => V.loopN (V.loopF impl_above.E Tryz.f262.ntmps [1, 1, 0, 1, 0] [] (V.codeOf Tryz.f262) (impl_above.kt x0)) V.KK (impl_above.s6 x0 v6_1 v6_2)) := by kernel_rfl
theorem impl_above.eq (x0 : List Int) : V.evBody impl_above.E impl_above.con Tryz.f262 ((x0) : List Int) = impl_above x0 := by
  rw [impl_above.v]
  simp only [impl_above.e6]
  rfl
theorem impl_above.cf (x : impl_above.con.A.den) : impl_above.con.f x = impl_above x := by kernel_rfl
theorem impl_above.ok : V.Valid Tryz.prog 262 impl_above.con :=
  V.body_ok (V.env_ok V.mixed V.tysOk (V.tab_cons impl_NodeOf.ok V.tab_nil)) Tryz.func262 (by kernel_rfl) (by kernel_rfl) (by kernel_rfl) (fun x y h => (show V.evBody impl_above.E impl_above.con Tryz.f262 x = _ from impl_above.eq x).trans ((impl_above.cf x).symm.trans h))
noncomputable abbrev impl_TopOf.con : V.Con := ⟨(.cons (.sl (.cons (.int .i64) .nil)) .nil), (.cons (.int .i64) .nil), fun (x : List Int) => impl_TopOf x, [], [(false, 1)], [(false, 1)], [false], []⟩
noncomputable abbrev impl_TopOf.E : V.Env := V.mkE V.tys [(261, impl_hash.con), (262, impl_above.con)] [(6, [0], [(0, (.cons (.int .i64) .nil), false)])] [] [] [] []
noncomputable abbrev impl_TopOf.kt (x0 : List Int) : V.Kt Int := V.ktOf impl_TopOf.E impl_TopOf.con Tryz.f199 ((x0) : List Int)
noncomputable abbrev impl_TopOf.s6 (v6_0 : List Int) : V.St := ⟨[(0, .v false [.val (.sl (.cons (.int .i64) .nil) v6_0)])], []⟩
theorem impl_TopOf.r6 (x0 : List Int) (R : V.St → Option Int) (v6_0 : List Int) : V.loopF impl_TopOf.E Tryz.f199.ntmps [1, 1, 0, 0] [] (V.codeOf Tryz.f199) (impl_TopOf.kt x0) R (impl_TopOf.s6 v6_0) = impl_TopOf.g6 (fun v6_0 => R (impl_TopOf.s6 v6_0)) v6_0 := by kernel_rfl
theorem impl_TopOf.e6 (x0 : List Int) : ∀ (n : Nat) (v6_0 : List Int), V.loopN (V.loopF impl_TopOf.E Tryz.f199.ntmps [1, 1, 0, 0] [] (V.codeOf Tryz.f199) (impl_TopOf.kt x0)) n (impl_TopOf.s6 v6_0) = impl_TopOf.l6 n v6_0 := by
  intro n
  induction n with
  | zero => intros; rw [V.loopN_z]; rfl
  | succ n ih =>
    intro v6_0
    rw [V.loopN_s, impl_TopOf.r6]
    simp only [ih]
    first | exact (impl_TopOf.u6 ..).symm | rfl
theorem impl_TopOf.v (x0 : List Int) : V.evBody impl_TopOf.E impl_TopOf.con Tryz.f199 ((x0) : List Int) = impl_TopOf.b x0 (fun v6_0 => V.loopN (V.loopF impl_TopOf.E Tryz.f199.ntmps [1, 1, 0, 0] [] (V.codeOf Tryz.f199) (impl_TopOf.kt x0)) V.KK (impl_TopOf.s6 v6_0)) := by kernel_rfl
theorem impl_TopOf.eq (x0 : List Int) : V.evBody impl_TopOf.E impl_TopOf.con Tryz.f199 ((x0) : List Int) = impl_TopOf x0 := by
  rw [impl_TopOf.v]
  simp only [impl_TopOf.e6]
  rfl
theorem impl_TopOf.cf (x : impl_TopOf.con.A.den) : impl_TopOf.con.f x = impl_TopOf x := by kernel_rfl
theorem impl_TopOf.ok : V.Valid Tryz.prog 199 impl_TopOf.con :=
  V.body_ok (V.env_ok V.mixed V.tysOk (V.tab_cons impl_hash.ok (V.tab_cons impl_above.ok V.tab_nil))) Tryz.func199 (by kernel_rfl) (by kernel_rfl) (by kernel_rfl) (fun x y h => (show V.evBody impl_TopOf.E impl_TopOf.con Tryz.f199 x = _ from impl_TopOf.eq x).trans ((impl_TopOf.cf x).symm.trans h))
noncomputable abbrev impl_rootFrom.con : V.Con := ⟨(.cons (.int .i64) (.cons (.int .i64) .nil)), (.cons (.int .i64) .nil), fun (x : Int × Int) => impl_rootFrom x.1 x.2, [], [(false, 1), (false, 1)], [(false, 1)], [false], []⟩
noncomputable abbrev impl_rootFrom.E : V.Env := V.mkE V.tys [(261, impl_hash.con)] [] [] [] [] []
noncomputable abbrev impl_rootFrom.kt (x0 : Int) (x1 : Int) : V.Kt Int := V.ktOf impl_rootFrom.E impl_rootFrom.con Tryz.f198 ((x0, x1) : Int × Int)
theorem impl_rootFrom.eq (x0 : Int) (x1 : Int) : V.evBody impl_rootFrom.E impl_rootFrom.con Tryz.f198 ((x0, x1) : Int × Int) = impl_rootFrom x0 x1 := by kernel_rfl
theorem impl_rootFrom.cf (x : impl_rootFrom.con.A.den) : impl_rootFrom.con.f x = impl_rootFrom x.1 x.2 := by kernel_rfl
theorem impl_rootFrom.ok : V.Valid Tryz.prog 198 impl_rootFrom.con :=
  V.body_ok (V.env_ok V.mixed V.tysOk (V.tab_cons impl_hash.ok V.tab_nil)) Tryz.func198 (by kernel_rfl) (by kernel_rfl) (by kernel_rfl) (fun x y h => (show V.evBody impl_rootFrom.E impl_rootFrom.con Tryz.f198 x = _ from impl_rootFrom.eq x.1 x.2).trans ((impl_rootFrom.cf x).symm.trans h))
noncomputable abbrev impl_RootOf.con : V.Con := ⟨(.cons (.sl V.eEntry) .nil), (.cons (.int .i64) .nil), fun (x : List TEntry) => impl_RootOf x, [], [(false, 1)], [(false, 1)], [false], []⟩
noncomputable abbrev impl_RootOf.E : V.Env := V.mkE V.tys [(198, impl_rootFrom.con), (199, impl_TopOf.con), (200, impl_LeavesOf.con)] [] [] [] [] []
noncomputable abbrev impl_RootOf.kt (x0 : List TEntry) : V.Kt Int := V.ktOf impl_RootOf.E impl_RootOf.con Tryz.f94 ((x0) : List TEntry)
theorem impl_RootOf.eq (x0 : List TEntry) : V.evBody impl_RootOf.E impl_RootOf.con Tryz.f94 ((x0) : List TEntry) = impl_RootOf x0 := by kernel_rfl
theorem impl_RootOf.cf (x : impl_RootOf.con.A.den) : impl_RootOf.con.f x = impl_RootOf x := by kernel_rfl
theorem impl_RootOf.ok : V.Valid Tryz.prog 94 impl_RootOf.con :=
  V.body_ok (V.env_ok V.mixed V.tysOk (V.tab_cons impl_rootFrom.ok (V.tab_cons impl_TopOf.ok (V.tab_cons impl_LeavesOf.ok V.tab_nil)))) Tryz.func94 (by kernel_rfl) (by kernel_rfl) (by kernel_rfl) (fun x y h => (show V.evBody impl_RootOf.E impl_RootOf.con Tryz.f94 x = _ from impl_RootOf.eq x).trans ((impl_RootOf.cf x).symm.trans h))
noncomputable abbrev impl_CheckAll.con : V.Con := ⟨(.cons (.int .i64) (.cons (.sl V.eEntry) .nil)), (.cons .bool .nil), fun (x : Int × List TEntry) => impl_CheckAll x.1 x.2, [], [(false, 1), (false, 1)], [(false, 1)], [false], []⟩
noncomputable abbrev impl_CheckAll.E : V.Env := V.mkE V.tys [(91, impl_AreEntries.con), (94, impl_RootOf.con)] [] [] [] [] []
noncomputable abbrev impl_CheckAll.kt (x0 : Int) (x1 : List TEntry) : V.Kt Bool := V.ktOf impl_CheckAll.E impl_CheckAll.con Tryz.f136 ((x0, x1) : Int × List TEntry)
theorem impl_CheckAll.eq (x0 : Int) (x1 : List TEntry) : V.evBody impl_CheckAll.E impl_CheckAll.con Tryz.f136 ((x0, x1) : Int × List TEntry) = impl_CheckAll x0 x1 := by kernel_rfl
theorem impl_CheckAll.cf (x : impl_CheckAll.con.A.den) : impl_CheckAll.con.f x = impl_CheckAll x.1 x.2 := by kernel_rfl
theorem impl_CheckAll.ok : V.Valid Tryz.prog 136 impl_CheckAll.con :=
  V.body_ok (V.env_ok V.mixed V.tysOk (V.tab_cons impl_AreEntries.ok (V.tab_cons impl_RootOf.ok V.tab_nil))) Tryz.func136 (by kernel_rfl) (by kernel_rfl) (by kernel_rfl) (fun x y h => (show V.evBody impl_CheckAll.E impl_CheckAll.con Tryz.f136 x = _ from impl_CheckAll.eq x.1 x.2).trans ((impl_CheckAll.cf x).symm.trans h))
noncomputable abbrev impl_IsZone.con : V.Con := ⟨(.cons (.sl V.eSigned) (.cons (.sl V.eEntry) .nil)), (.cons .bool .nil), fun (x : List TSigned × List TEntry) => impl_IsZone x, [], [(true, 2)], [(false, 1)], [false], []⟩
noncomputable abbrev impl_IsZone.E : V.Env := V.mkE V.tys [(104, impl_IsChain.con), (130, impl_last.con), (136, impl_CheckAll.con)] [] [] [] [] []
noncomputable abbrev impl_IsZone.kt (x0 : TZone) : V.Kt Bool := V.ktOf impl_IsZone.E impl_IsZone.con Tryz.f46 ((x0.1, x0.2) : List TSigned × List TEntry)
theorem impl_IsZone.eq (x0 : TZone) : V.evBody impl_IsZone.E impl_IsZone.con Tryz.f46 ((x0.1, x0.2) : List TSigned × List TEntry) = impl_IsZone x0 := by kernel_rfl
theorem impl_IsZone.cf (x : impl_IsZone.con.A.den) : impl_IsZone.con.f x = impl_IsZone x := by kernel_rfl
theorem impl_IsZone.ok : V.Valid Tryz.prog 46 impl_IsZone.con :=
  V.body_ok (V.env_ok V.mixed V.tysOk (V.tab_cons impl_IsChain.ok (V.tab_cons impl_last.ok (V.tab_cons impl_CheckAll.ok V.tab_nil)))) Tryz.func46 (by kernel_rfl) (by kernel_rfl) (by kernel_rfl) (fun x y h => (show V.evBody impl_IsZone.E impl_IsZone.con Tryz.f46 x = _ from impl_IsZone.eq x).trans ((impl_IsZone.cf x).symm.trans h))
noncomputable abbrev laws_eqIntS.con : V.Con := ⟨(.cons (.sl (.cons (.int .i64) .nil)) (.cons (.sl (.cons (.int .i64) .nil)) .nil)), (.cons .bool .nil), fun (x : List Int × List Int) => laws_eqIntS x.1 x.2, [], [(false, 1), (false, 1)], [(false, 1)], [false], []⟩
noncomputable abbrev laws_eqIntS.E : V.Env := V.mkE V.tys [] [(8, [0, 1, 5], [])] [(6, 8)] [] [] []
noncomputable abbrev laws_eqIntS.kt (x0 : List Int) (x1 : List Int) : V.Kt Bool := V.ktOf laws_eqIntS.E laws_eqIntS.con Tryz.f79 ((x0, x1) : List Int × List Int)
noncomputable abbrev laws_eqIntS.s8 (x0 : List Int) (x1 : List Int) (v8_2 : Int) : V.St := ⟨[(0, .v false [.val (.sl (.cons (.int .i64) .nil) x0)]), (1, .v false [.val (.sl (.cons (.int .i64) .nil) x1)]), (5, .v false [.val (.int .i64 v8_2)])], []⟩
theorem laws_eqIntS.r8 (x0 : List Int) (x1 : List Int) (R : V.St → Option Bool) (v8_2 : Int) : V.loopF laws_eqIntS.E Tryz.f79.ntmps [1, 1, 0, 1, 0] [] (V.codeOf Tryz.f79) (laws_eqIntS.kt x0 x1) R (laws_eqIntS.s8 x0 x1 v8_2) = laws_eqIntS.g8 x0 x1 (fun v8_2 => R (laws_eqIntS.s8 x0 x1 v8_2)) v8_2 := by kernel_rfl
theorem laws_eqIntS.e8 (x0 : List Int) (x1 : List Int) : ∀ (n : Nat) (v8_2 : Int), V.loopN (V.loopF laws_eqIntS.E Tryz.f79.ntmps [1, 1, 0, 1, 0] [] (V.codeOf Tryz.f79) (laws_eqIntS.kt x0 x1)) n (laws_eqIntS.s8 x0 x1 v8_2) = laws_eqIntS.l8 x0 x1 n v8_2 := by
  intro n
  induction n with
  | zero => intros; rw [V.loopN_z]; rfl
  | succ n ih =>
    intro v8_2
    rw [V.loopN_s, laws_eqIntS.r8]
    simp only [ih]
    first | exact (laws_eqIntS.u8 ..).symm | rfl
theorem laws_eqIntS.v (x0 : List Int) (x1 : List Int) : V.evBody laws_eqIntS.E laws_eqIntS.con Tryz.f79 ((x0, x1) : List Int × List Int) = laws_eqIntS.b x0 x1 (fun v8_2 => V.loopN (V.loopF laws_eqIntS.E Tryz.f79.ntmps [1, 1, 0, 1, 0] [] (V.codeOf Tryz.f79) (laws_eqIntS.kt x0 x1)) V.KK (laws_eqIntS.s8 x0 x1 v8_2)) := by kernel_rfl
theorem laws_eqIntS.eq (x0 : List Int) (x1 : List Int) : V.evBody laws_eqIntS.E laws_eqIntS.con Tryz.f79 ((x0, x1) : List Int × List Int) = laws_eqIntS x0 x1 := by
  rw [laws_eqIntS.v]
  simp only [laws_eqIntS.e8]
  rfl
theorem laws_eqIntS.cf (x : laws_eqIntS.con.A.den) : laws_eqIntS.con.f x = laws_eqIntS x.1 x.2 := by kernel_rfl
theorem laws_eqIntS.ok : V.Valid Tryz.prog 79 laws_eqIntS.con :=
  V.body_ok (V.env_ok V.mixed V.tysOk V.tab_nil) Tryz.func79 (by kernel_rfl) (by kernel_rfl) (by kernel_rfl) (fun x y h => (show V.evBody laws_eqIntS.E laws_eqIntS.con Tryz.f79 x = _ from laws_eqIntS.eq x.1 x.2).trans ((laws_eqIntS.cf x).symm.trans h))
noncomputable abbrev laws_eqKeys.con : V.Con := ⟨(.cons (.sl (.cons (.int .i64) .nil)) (.cons (.int .i64) (.cons (.sl (.cons (.int .i64) .nil)) (.cons (.int .i64) .nil)))), (.cons .bool .nil), fun (x : List Int × Int × List Int × Int) => laws_eqKeys (x.1, x.2.1) x.2.2, [], [(true, 2), (true, 2)], [(false, 1)], [false], []⟩
noncomputable abbrev laws_eqKeys.E : V.Env := V.mkE V.tys [(79, laws_eqIntS.con)] [] [] [] [] []
noncomputable abbrev laws_eqKeys.kt (x0 : TKeys) (x1 : TKeys) : V.Kt Bool := V.ktOf laws_eqKeys.E laws_eqKeys.con Tryz.f54 ((x0.1, x0.2, x1.1, x1.2) : List Int × Int × List Int × Int)
theorem laws_eqKeys.eq (x0 : TKeys) (x1 : TKeys) : V.evBody laws_eqKeys.E laws_eqKeys.con Tryz.f54 ((x0.1, x0.2, x1.1, x1.2) : List Int × Int × List Int × Int) = laws_eqKeys x0 x1 := by kernel_rfl
theorem laws_eqKeys.cf (x : laws_eqKeys.con.A.den) : laws_eqKeys.con.f x = laws_eqKeys (x.1, x.2.1) x.2.2 := by kernel_rfl
theorem laws_eqKeys.ok : V.Valid Tryz.prog 54 laws_eqKeys.con :=
  V.body_ok (V.env_ok V.mixed V.tysOk (V.tab_cons laws_eqIntS.ok V.tab_nil)) Tryz.func54 (by kernel_rfl) (by kernel_rfl) (by kernel_rfl) (fun x y h => (show V.evBody laws_eqKeys.E laws_eqKeys.con Tryz.f54 x = _ from laws_eqKeys.eq (x.1, x.2.1) x.2.2).trans ((laws_eqKeys.cf x).symm.trans h))
noncomputable abbrev laws_eqHead.con : V.Con := ⟨V.A4, (.cons .bool .nil), fun (x : V.D4) => laws_eqHead (V.p4_0 x) (V.p4_1 x), [], [(true, 16), (true, 16)], [(false, 1)], [false], []⟩
noncomputable abbrev laws_eqHead.E : V.Env := V.mkE V.tys [(54, laws_eqKeys.con)] [] [] [] [] []
noncomputable abbrev laws_eqHead.kt (x0 : THead) (x1 : THead) : V.Kt Bool := V.ktOf laws_eqHead.E laws_eqHead.con Tryz.f21 (V.fl4 x0 x1)
noncomputable abbrev laws_eqHead.s (x0 : THead) (x1 : THead) : V.St := ⟨[(0, .v true [.val (.int .i64 x0.1), .val (.int .i64 x0.2.1), .val (.int .i64 x0.2.2.1), .val (.int .i64 x0.2.2.2.1), .val (.int .i64 x0.2.2.2.2.1), .val (.int .i64 x0.2.2.2.2.2.1), .val (.int .i64 x0.2.2.2.2.2.2.1), .val (.int .i64 x0.2.2.2.2.2.2.2.1), .val (.sl (.cons (.int .i64) .nil) x0.2.2.2.2.2.2.2.2.1), .val (.int .i64 x0.2.2.2.2.2.2.2.2.2.1), .val (.sl (.cons (.int .i64) .nil) x0.2.2.2.2.2.2.2.2.2.2.1), .val (.int .i64 x0.2.2.2.2.2.2.2.2.2.2.2.1), .val (.int .i64 x0.2.2.2.2.2.2.2.2.2.2.2.2.1), .val (.sl (.cons (.int .i64) .nil) x0.2.2.2.2.2.2.2.2.2.2.2.2.2.1), .val (.int .i64 x0.2.2.2.2.2.2.2.2.2.2.2.2.2.2.1), .val (.bool x0.2.2.2.2.2.2.2.2.2.2.2.2.2.2.2)]), (1, .v true [.val (.int .i64 x1.1), .val (.int .i64 x1.2.1), .val (.int .i64 x1.2.2.1), .val (.int .i64 x1.2.2.2.1), .val (.int .i64 x1.2.2.2.2.1), .val (.int .i64 x1.2.2.2.2.2.1), .val (.int .i64 x1.2.2.2.2.2.2.1), .val (.int .i64 x1.2.2.2.2.2.2.2.1), .val (.sl (.cons (.int .i64) .nil) x1.2.2.2.2.2.2.2.2.1), .val (.int .i64 x1.2.2.2.2.2.2.2.2.2.1), .val (.sl (.cons (.int .i64) .nil) x1.2.2.2.2.2.2.2.2.2.2.1), .val (.int .i64 x1.2.2.2.2.2.2.2.2.2.2.2.1), .val (.int .i64 x1.2.2.2.2.2.2.2.2.2.2.2.2.1), .val (.sl (.cons (.int .i64) .nil) x1.2.2.2.2.2.2.2.2.2.2.2.2.2.1), .val (.int .i64 x1.2.2.2.2.2.2.2.2.2.2.2.2.2.2.1), .val (.bool x1.2.2.2.2.2.2.2.2.2.2.2.2.2.2.2)])], []⟩
theorem laws_eqHead.v0 (x0 : THead) (x1 : THead) : V.evBody laws_eqHead.E laws_eqHead.con Tryz.f21 (V.fl4 x0 x1) = V.evC laws_eqHead.E Tryz.f21.ntmps (V.codeOf Tryz.f21) (laws_eqHead.kt x0 x1) (laws_eqHead.s x0 x1) := by kernel_rfl
theorem laws_eqHead.v (x0 : THead) (x1 : THead) : V.evC laws_eqHead.E Tryz.f21.ntmps (V.codeOf Tryz.f21) (laws_eqHead.kt x0 x1) (laws_eqHead.s x0 x1) = laws_eqHead x0 x1 := by kernel_rfl
theorem laws_eqHead.eq (x0 : THead) (x1 : THead) : V.evBody laws_eqHead.E laws_eqHead.con Tryz.f21 (V.fl4 x0 x1) = laws_eqHead x0 x1 := (laws_eqHead.v0 x0 x1).trans (laws_eqHead.v x0 x1)
theorem laws_eqHead.cf (x : laws_eqHead.con.A.den) : laws_eqHead.con.f x = laws_eqHead (V.p4_0 x) (V.p4_1 x) := by kernel_rfl
theorem laws_eqHead.ok : V.Valid Tryz.prog 21 laws_eqHead.con :=
  V.body_ok (V.env_ok V.mixed V.tysOk (V.tab_cons laws_eqKeys.ok V.tab_nil)) Tryz.func21 (by kernel_rfl) (by kernel_rfl) (by kernel_rfl) (fun x y h => (show V.evBody laws_eqHead.E laws_eqHead.con Tryz.f21 x = _ from laws_eqHead.eq (V.p4_0 x) (V.p4_1 x)).trans ((laws_eqHead.cf x).symm.trans h))
noncomputable abbrev laws_eqSig.con : V.Con := ⟨(.cons (.int .i64) (.cons (.int .i64) (.cons (.int .i64) (.cons (.int .i64) .nil)))), (.cons .bool .nil), fun (x : Int × Int × Int × Int) => laws_eqSig (x.1, x.2.1) x.2.2, [], [(true, 2), (true, 2)], [(false, 1)], [false], []⟩
noncomputable abbrev laws_eqSig.E : V.Env := V.mkE V.tys [] [] [] [] [] []
noncomputable abbrev laws_eqSig.kt (x0 : TSig) (x1 : TSig) : V.Kt Bool := V.ktOf laws_eqSig.E laws_eqSig.con Tryz.f40 ((x0.1, x0.2, x1.1, x1.2) : Int × Int × Int × Int)
theorem laws_eqSig.eq (x0 : TSig) (x1 : TSig) : V.evBody laws_eqSig.E laws_eqSig.con Tryz.f40 ((x0.1, x0.2, x1.1, x1.2) : Int × Int × Int × Int) = laws_eqSig x0 x1 := by kernel_rfl
theorem laws_eqSig.cf (x : laws_eqSig.con.A.den) : laws_eqSig.con.f x = laws_eqSig (x.1, x.2.1) x.2.2 := by kernel_rfl
theorem laws_eqSig.ok : V.Valid Tryz.prog 40 laws_eqSig.con :=
  V.body_ok (V.env_ok V.mixed V.tysOk V.tab_nil) Tryz.func40 (by kernel_rfl) (by kernel_rfl) (by kernel_rfl) (fun x y h => (show V.evBody laws_eqSig.E laws_eqSig.con Tryz.f40 x = _ from laws_eqSig.eq (x.1, x.2.1) x.2.2).trans ((laws_eqSig.cf x).symm.trans h))
noncomputable abbrev laws_eqSigS.con : V.Con := ⟨(.cons (.sl (.cons (.int .i64) (.cons (.int .i64) .nil))) (.cons (.sl (.cons (.int .i64) (.cons (.int .i64) .nil))) .nil)), (.cons .bool .nil), fun (x : List TSig × List TSig) => laws_eqSigS x.1 x.2, [], [(false, 1), (false, 1)], [(false, 1)], [false], []⟩
noncomputable abbrev laws_eqSigS.E : V.Env := V.mkE V.tys [(40, laws_eqSig.con)] [(8, [0, 1, 5], [])] [(6, 8)] [] [] []
noncomputable abbrev laws_eqSigS.kt (x0 : List TSig) (x1 : List TSig) : V.Kt Bool := V.ktOf laws_eqSigS.E laws_eqSigS.con Tryz.f212 ((x0, x1) : List TSig × List TSig)
noncomputable abbrev laws_eqSigS.s8 (x0 : List TSig) (x1 : List TSig) (v8_2 : Int) : V.St := ⟨[(0, .v false [.val (.sl (.cons (.int .i64) (.cons (.int .i64) .nil)) x0)]), (1, .v false [.val (.sl (.cons (.int .i64) (.cons (.int .i64) .nil)) x1)]), (5, .v false [.val (.int .i64 v8_2)])], []⟩
theorem laws_eqSigS.r8 (x0 : List TSig) (x1 : List TSig) (R : V.St → Option Bool) (v8_2 : Int) : V.loopF laws_eqSigS.E Tryz.f212.ntmps [1, 1, 0, 1, 0] [] (V.codeOf Tryz.f212) (laws_eqSigS.kt x0 x1) R (laws_eqSigS.s8 x0 x1 v8_2) = laws_eqSigS.g8 x0 x1 (fun v8_2 => R (laws_eqSigS.s8 x0 x1 v8_2)) v8_2 := by kernel_rfl
theorem laws_eqSigS.e8 (x0 : List TSig) (x1 : List TSig) : ∀ (n : Nat) (v8_2 : Int), V.loopN (V.loopF laws_eqSigS.E Tryz.f212.ntmps [1, 1, 0, 1, 0] [] (V.codeOf Tryz.f212) (laws_eqSigS.kt x0 x1)) n (laws_eqSigS.s8 x0 x1 v8_2) = laws_eqSigS.l8 x0 x1 n v8_2 := by
  intro n
  induction n with
  | zero => intros; rw [V.loopN_z]; rfl
  | succ n ih =>
    intro v8_2
    rw [V.loopN_s, laws_eqSigS.r8]
    simp only [ih]
    first | exact (laws_eqSigS.u8 ..).symm | rfl
theorem laws_eqSigS.v (x0 : List TSig) (x1 : List TSig) : V.evBody laws_eqSigS.E laws_eqSigS.con Tryz.f212 ((x0, x1) : List TSig × List TSig) = laws_eqSigS.b x0 x1 (fun v8_2 => V.loopN (V.loopF laws_eqSigS.E Tryz.f212.ntmps [1, 1, 0, 1, 0] [] (V.codeOf Tryz.f212) (laws_eqSigS.kt x0 x1)) V.KK (laws_eqSigS.s8 x0 x1 v8_2)) := by kernel_rfl
theorem laws_eqSigS.eq (x0 : List TSig) (x1 : List TSig) : V.evBody laws_eqSigS.E laws_eqSigS.con Tryz.f212 ((x0, x1) : List TSig × List TSig) = laws_eqSigS x0 x1 := by
  rw [laws_eqSigS.v]
  simp only [laws_eqSigS.e8]
  rfl
theorem laws_eqSigS.cf (x : laws_eqSigS.con.A.den) : laws_eqSigS.con.f x = laws_eqSigS x.1 x.2 := by kernel_rfl
theorem laws_eqSigS.ok : V.Valid Tryz.prog 212 laws_eqSigS.con :=
  V.body_ok (V.env_ok V.mixed V.tysOk (V.tab_cons laws_eqSig.ok V.tab_nil)) Tryz.func212 (by kernel_rfl) (by kernel_rfl) (by kernel_rfl) (fun x y h => (show V.evBody laws_eqSigS.E laws_eqSigS.con Tryz.f212 x = _ from laws_eqSigS.eq x.1 x.2).trans ((laws_eqSigS.cf x).symm.trans h))
noncomputable abbrev laws_eqSigned.con : V.Con := ⟨V.A7, (.cons .bool .nil), fun (x : V.D7) => laws_eqSigned (V.p7_0 x) (V.p7_1 x), [], [(true, 17), (true, 17)], [(false, 1)], [false], []⟩
noncomputable abbrev laws_eqSigned.E : V.Env := V.mkE V.tys [(21, laws_eqHead.con), (212, laws_eqSigS.con)] [] [] [] [] []
noncomputable abbrev laws_eqSigned.kt (x0 : TSigned) (x1 : TSigned) : V.Kt Bool := V.ktOf laws_eqSigned.E laws_eqSigned.con Tryz.f108 (V.fl7 x0 x1)
noncomputable abbrev laws_eqSigned.s (x0 : TSigned) (x1 : TSigned) : V.St := ⟨[(0, .v true [.val (.int .i64 x0.1), .val (.int .i64 x0.2.1), .val (.int .i64 x0.2.2.1), .val (.int .i64 x0.2.2.2.1), .val (.int .i64 x0.2.2.2.2.1), .val (.int .i64 x0.2.2.2.2.2.1), .val (.int .i64 x0.2.2.2.2.2.2.1), .val (.int .i64 x0.2.2.2.2.2.2.2.1), .val (.sl (.cons (.int .i64) .nil) x0.2.2.2.2.2.2.2.2.1), .val (.int .i64 x0.2.2.2.2.2.2.2.2.2.1), .val (.sl (.cons (.int .i64) .nil) x0.2.2.2.2.2.2.2.2.2.2.1), .val (.int .i64 x0.2.2.2.2.2.2.2.2.2.2.2.1), .val (.int .i64 x0.2.2.2.2.2.2.2.2.2.2.2.2.1), .val (.sl (.cons (.int .i64) .nil) x0.2.2.2.2.2.2.2.2.2.2.2.2.2.1), .val (.int .i64 x0.2.2.2.2.2.2.2.2.2.2.2.2.2.2.1), .val (.bool x0.2.2.2.2.2.2.2.2.2.2.2.2.2.2.2.1), .val (.sl (.cons (.int .i64) (.cons (.int .i64) .nil)) x0.2.2.2.2.2.2.2.2.2.2.2.2.2.2.2.2)]), (1, .v true [.val (.int .i64 x1.1), .val (.int .i64 x1.2.1), .val (.int .i64 x1.2.2.1), .val (.int .i64 x1.2.2.2.1), .val (.int .i64 x1.2.2.2.2.1), .val (.int .i64 x1.2.2.2.2.2.1), .val (.int .i64 x1.2.2.2.2.2.2.1), .val (.int .i64 x1.2.2.2.2.2.2.2.1), .val (.sl (.cons (.int .i64) .nil) x1.2.2.2.2.2.2.2.2.1), .val (.int .i64 x1.2.2.2.2.2.2.2.2.2.1), .val (.sl (.cons (.int .i64) .nil) x1.2.2.2.2.2.2.2.2.2.2.1), .val (.int .i64 x1.2.2.2.2.2.2.2.2.2.2.2.1), .val (.int .i64 x1.2.2.2.2.2.2.2.2.2.2.2.2.1), .val (.sl (.cons (.int .i64) .nil) x1.2.2.2.2.2.2.2.2.2.2.2.2.2.1), .val (.int .i64 x1.2.2.2.2.2.2.2.2.2.2.2.2.2.2.1), .val (.bool x1.2.2.2.2.2.2.2.2.2.2.2.2.2.2.2.1), .val (.sl (.cons (.int .i64) (.cons (.int .i64) .nil)) x1.2.2.2.2.2.2.2.2.2.2.2.2.2.2.2.2)])], []⟩
theorem laws_eqSigned.v0 (x0 : TSigned) (x1 : TSigned) : V.evBody laws_eqSigned.E laws_eqSigned.con Tryz.f108 (V.fl7 x0 x1) = V.evC laws_eqSigned.E Tryz.f108.ntmps (V.codeOf Tryz.f108) (laws_eqSigned.kt x0 x1) (laws_eqSigned.s x0 x1) := by kernel_rfl
theorem laws_eqSigned.v (x0 : TSigned) (x1 : TSigned) : V.evC laws_eqSigned.E Tryz.f108.ntmps (V.codeOf Tryz.f108) (laws_eqSigned.kt x0 x1) (laws_eqSigned.s x0 x1) = laws_eqSigned x0 x1 := by kernel_rfl
theorem laws_eqSigned.eq (x0 : TSigned) (x1 : TSigned) : V.evBody laws_eqSigned.E laws_eqSigned.con Tryz.f108 (V.fl7 x0 x1) = laws_eqSigned x0 x1 := (laws_eqSigned.v0 x0 x1).trans (laws_eqSigned.v x0 x1)
theorem laws_eqSigned.cf (x : laws_eqSigned.con.A.den) : laws_eqSigned.con.f x = laws_eqSigned (V.p7_0 x) (V.p7_1 x) := by kernel_rfl
theorem laws_eqSigned.ok : V.Valid Tryz.prog 108 laws_eqSigned.con :=
  V.body_ok (V.env_ok V.mixed V.tysOk (V.tab_cons laws_eqHead.ok (V.tab_cons laws_eqSigS.ok V.tab_nil))) Tryz.func108 (by kernel_rfl) (by kernel_rfl) (by kernel_rfl) (fun x y h => (show V.evBody laws_eqSigned.E laws_eqSigned.con Tryz.f108 x = _ from laws_eqSigned.eq (V.p7_0 x) (V.p7_1 x)).trans ((laws_eqSigned.cf x).symm.trans h))
noncomputable abbrev laws_eqSignedS.con : V.Con := ⟨(.cons (.sl V.eSigned) (.cons (.sl V.eSigned) .nil)), (.cons .bool .nil), fun (x : List TSigned × List TSigned) => laws_eqSignedS x.1 x.2, [], [(false, 1), (false, 1)], [(false, 1)], [false], []⟩
noncomputable abbrev laws_eqSignedS.E : V.Env := V.mkE V.tys [(108, laws_eqSigned.con)] [(8, [0, 1, 5], [])] [(6, 8)] [] [] []
noncomputable abbrev laws_eqSignedS.kt (x0 : List TSigned) (x1 : List TSigned) : V.Kt Bool := V.ktOf laws_eqSignedS.E laws_eqSignedS.con Tryz.f31 ((x0, x1) : List TSigned × List TSigned)
noncomputable abbrev laws_eqSignedS.s8 (x0 : List TSigned) (x1 : List TSigned) (v8_2 : Int) : V.St := ⟨[(0, .v false [.val (.sl V.eSigned x0)]), (1, .v false [.val (.sl V.eSigned x1)]), (5, .v false [.val (.int .i64 v8_2)])], []⟩
theorem laws_eqSignedS.r8 (x0 : List TSigned) (x1 : List TSigned) (R : V.St → Option Bool) (v8_2 : Int) : V.loopF laws_eqSignedS.E Tryz.f31.ntmps [1, 1, 0, 1, 0] [] (V.codeOf Tryz.f31) (laws_eqSignedS.kt x0 x1) R (laws_eqSignedS.s8 x0 x1 v8_2) = laws_eqSignedS.g8 x0 x1 (fun v8_2 => R (laws_eqSignedS.s8 x0 x1 v8_2)) v8_2 := by kernel_rfl
theorem laws_eqSignedS.e8 (x0 : List TSigned) (x1 : List TSigned) : ∀ (n : Nat) (v8_2 : Int), V.loopN (V.loopF laws_eqSignedS.E Tryz.f31.ntmps [1, 1, 0, 1, 0] [] (V.codeOf Tryz.f31) (laws_eqSignedS.kt x0 x1)) n (laws_eqSignedS.s8 x0 x1 v8_2) = laws_eqSignedS.l8 x0 x1 n v8_2 := by
  intro n
  induction n with
  | zero => intros; rw [V.loopN_z]; rfl
  | succ n ih =>
    intro v8_2
    rw [V.loopN_s, laws_eqSignedS.r8]
    simp only [ih]
    first | exact (laws_eqSignedS.u8 ..).symm | rfl
theorem laws_eqSignedS.v (x0 : List TSigned) (x1 : List TSigned) : V.evBody laws_eqSignedS.E laws_eqSignedS.con Tryz.f31 ((x0, x1) : List TSigned × List TSigned) = laws_eqSignedS.b x0 x1 (fun v8_2 => V.loopN (V.loopF laws_eqSignedS.E Tryz.f31.ntmps [1, 1, 0, 1, 0] [] (V.codeOf Tryz.f31) (laws_eqSignedS.kt x0 x1)) V.KK (laws_eqSignedS.s8 x0 x1 v8_2)) := by kernel_rfl
theorem laws_eqSignedS.eq (x0 : List TSigned) (x1 : List TSigned) : V.evBody laws_eqSignedS.E laws_eqSignedS.con Tryz.f31 ((x0, x1) : List TSigned × List TSigned) = laws_eqSignedS x0 x1 := by
  rw [laws_eqSignedS.v]
  simp only [laws_eqSignedS.e8]
  rfl
theorem laws_eqSignedS.cf (x : laws_eqSignedS.con.A.den) : laws_eqSignedS.con.f x = laws_eqSignedS x.1 x.2 := by kernel_rfl
theorem laws_eqSignedS.ok : V.Valid Tryz.prog 31 laws_eqSignedS.con :=
  V.body_ok (V.env_ok V.mixed V.tysOk (V.tab_cons laws_eqSigned.ok V.tab_nil)) Tryz.func31 (by kernel_rfl) (by kernel_rfl) (by kernel_rfl) (fun x y h => (show V.evBody laws_eqSignedS.E laws_eqSignedS.con Tryz.f31 x = _ from laws_eqSignedS.eq x.1 x.2).trans ((laws_eqSignedS.cf x).symm.trans h))
noncomputable abbrev laws_eqStringS.con : V.Con := ⟨(.cons (.sl (.cons .str .nil)) (.cons (.sl (.cons .str .nil)) .nil)), (.cons .bool .nil), fun (x : List ByteArray × List ByteArray) => laws_eqStringS x.1 x.2, [], [(false, 1), (false, 1)], [(false, 1)], [false], []⟩
noncomputable abbrev laws_eqStringS.E : V.Env := V.mkE V.tys [] [(8, [0, 1, 5], [])] [(6, 8)] [] [] []
noncomputable abbrev laws_eqStringS.kt (x0 : List ByteArray) (x1 : List ByteArray) : V.Kt Bool := V.ktOf laws_eqStringS.E laws_eqStringS.con Tryz.f168 ((x0, x1) : List ByteArray × List ByteArray)
noncomputable abbrev laws_eqStringS.s8 (x0 : List ByteArray) (x1 : List ByteArray) (v8_2 : Int) : V.St := ⟨[(0, .v false [.val (.sl (.cons .str .nil) x0)]), (1, .v false [.val (.sl (.cons .str .nil) x1)]), (5, .v false [.val (.int .i64 v8_2)])], []⟩
theorem laws_eqStringS.r8 (x0 : List ByteArray) (x1 : List ByteArray) (R : V.St → Option Bool) (v8_2 : Int) : V.loopF laws_eqStringS.E Tryz.f168.ntmps [1, 1, 0, 1, 0] [] (V.codeOf Tryz.f168) (laws_eqStringS.kt x0 x1) R (laws_eqStringS.s8 x0 x1 v8_2) = laws_eqStringS.g8 x0 x1 (fun v8_2 => R (laws_eqStringS.s8 x0 x1 v8_2)) v8_2 := by kernel_rfl
theorem laws_eqStringS.e8 (x0 : List ByteArray) (x1 : List ByteArray) : ∀ (n : Nat) (v8_2 : Int), V.loopN (V.loopF laws_eqStringS.E Tryz.f168.ntmps [1, 1, 0, 1, 0] [] (V.codeOf Tryz.f168) (laws_eqStringS.kt x0 x1)) n (laws_eqStringS.s8 x0 x1 v8_2) = laws_eqStringS.l8 x0 x1 n v8_2 := by
  intro n
  induction n with
  | zero => intros; rw [V.loopN_z]; rfl
  | succ n ih =>
    intro v8_2
    rw [V.loopN_s, laws_eqStringS.r8]
    simp only [ih]
    first | exact (laws_eqStringS.u8 ..).symm | rfl
theorem laws_eqStringS.v (x0 : List ByteArray) (x1 : List ByteArray) : V.evBody laws_eqStringS.E laws_eqStringS.con Tryz.f168 ((x0, x1) : List ByteArray × List ByteArray) = laws_eqStringS.b x0 x1 (fun v8_2 => V.loopN (V.loopF laws_eqStringS.E Tryz.f168.ntmps [1, 1, 0, 1, 0] [] (V.codeOf Tryz.f168) (laws_eqStringS.kt x0 x1)) V.KK (laws_eqStringS.s8 x0 x1 v8_2)) := by kernel_rfl
theorem laws_eqStringS.eq (x0 : List ByteArray) (x1 : List ByteArray) : V.evBody laws_eqStringS.E laws_eqStringS.con Tryz.f168 ((x0, x1) : List ByteArray × List ByteArray) = laws_eqStringS x0 x1 := by
  rw [laws_eqStringS.v]
  simp only [laws_eqStringS.e8]
  rfl
theorem laws_eqStringS.cf (x : laws_eqStringS.con.A.den) : laws_eqStringS.con.f x = laws_eqStringS x.1 x.2 := by kernel_rfl
theorem laws_eqStringS.ok : V.Valid Tryz.prog 168 laws_eqStringS.con :=
  V.body_ok (V.env_ok V.mixed V.tysOk V.tab_nil) Tryz.func168 (by kernel_rfl) (by kernel_rfl) (by kernel_rfl) (fun x y h => (show V.evBody laws_eqStringS.E laws_eqStringS.con Tryz.f168 x = _ from laws_eqStringS.eq x.1 x.2).trans ((laws_eqStringS.cf x).symm.trans h))
noncomputable abbrev laws_eqEntry.con : V.Con := ⟨(.cons .str (.cons (.int .i64) (.cons (.int .i64) (.cons (.sl (.cons .str .nil)) (.cons .str (.cons (.int .i64) (.cons (.int .i64) (.cons (.sl (.cons .str .nil)) .nil)))))))), (.cons .bool .nil), fun (x : ByteArray × Int × Int × List ByteArray × ByteArray × Int × Int × List ByteArray) => laws_eqEntry (x.1, x.2.1, x.2.2.1, x.2.2.2.1) x.2.2.2.2, [], [(true, 4), (true, 4)], [(false, 1)], [false], []⟩
noncomputable abbrev laws_eqEntry.E : V.Env := V.mkE V.tys [(168, laws_eqStringS.con)] [] [] [] [] []
noncomputable abbrev laws_eqEntry.kt (x0 : TEntry) (x1 : TEntry) : V.Kt Bool := V.ktOf laws_eqEntry.E laws_eqEntry.con Tryz.f72 ((x0.1, x0.2.1, x0.2.2.1, x0.2.2.2, x1.1, x1.2.1, x1.2.2.1, x1.2.2.2) : ByteArray × Int × Int × List ByteArray × ByteArray × Int × Int × List ByteArray)
theorem laws_eqEntry.eq (x0 : TEntry) (x1 : TEntry) : V.evBody laws_eqEntry.E laws_eqEntry.con Tryz.f72 ((x0.1, x0.2.1, x0.2.2.1, x0.2.2.2, x1.1, x1.2.1, x1.2.2.1, x1.2.2.2) : ByteArray × Int × Int × List ByteArray × ByteArray × Int × Int × List ByteArray) = laws_eqEntry x0 x1 := by kernel_rfl
theorem laws_eqEntry.cf (x : laws_eqEntry.con.A.den) : laws_eqEntry.con.f x = laws_eqEntry (x.1, x.2.1, x.2.2.1, x.2.2.2.1) x.2.2.2.2 := by kernel_rfl
theorem laws_eqEntry.ok : V.Valid Tryz.prog 72 laws_eqEntry.con :=
  V.body_ok (V.env_ok V.mixed V.tysOk (V.tab_cons laws_eqStringS.ok V.tab_nil)) Tryz.func72 (by kernel_rfl) (by kernel_rfl) (by kernel_rfl) (fun x y h => (show V.evBody laws_eqEntry.E laws_eqEntry.con Tryz.f72 x = _ from laws_eqEntry.eq (x.1, x.2.1, x.2.2.1, x.2.2.2.1) x.2.2.2.2).trans ((laws_eqEntry.cf x).symm.trans h))
noncomputable abbrev laws_eqEntryS.con : V.Con := ⟨(.cons (.sl V.eEntry) (.cons (.sl V.eEntry) .nil)), (.cons .bool .nil), fun (x : List TEntry × List TEntry) => laws_eqEntryS x.1 x.2, [], [(false, 1), (false, 1)], [(false, 1)], [false], []⟩
noncomputable abbrev laws_eqEntryS.E : V.Env := V.mkE V.tys [(72, laws_eqEntry.con)] [(8, [0, 1, 5], [])] [(6, 8)] [] [] []
noncomputable abbrev laws_eqEntryS.kt (x0 : List TEntry) (x1 : List TEntry) : V.Kt Bool := V.ktOf laws_eqEntryS.E laws_eqEntryS.con Tryz.f22 ((x0, x1) : List TEntry × List TEntry)
noncomputable abbrev laws_eqEntryS.s8 (x0 : List TEntry) (x1 : List TEntry) (v8_2 : Int) : V.St := ⟨[(0, .v false [.val (.sl V.eEntry x0)]), (1, .v false [.val (.sl V.eEntry x1)]), (5, .v false [.val (.int .i64 v8_2)])], []⟩
theorem laws_eqEntryS.r8 (x0 : List TEntry) (x1 : List TEntry) (R : V.St → Option Bool) (v8_2 : Int) : V.loopF laws_eqEntryS.E Tryz.f22.ntmps [1, 1, 0, 1, 0] [] (V.codeOf Tryz.f22) (laws_eqEntryS.kt x0 x1) R (laws_eqEntryS.s8 x0 x1 v8_2) = laws_eqEntryS.g8 x0 x1 (fun v8_2 => R (laws_eqEntryS.s8 x0 x1 v8_2)) v8_2 := by kernel_rfl
theorem laws_eqEntryS.e8 (x0 : List TEntry) (x1 : List TEntry) : ∀ (n : Nat) (v8_2 : Int), V.loopN (V.loopF laws_eqEntryS.E Tryz.f22.ntmps [1, 1, 0, 1, 0] [] (V.codeOf Tryz.f22) (laws_eqEntryS.kt x0 x1)) n (laws_eqEntryS.s8 x0 x1 v8_2) = laws_eqEntryS.l8 x0 x1 n v8_2 := by
  intro n
  induction n with
  | zero => intros; rw [V.loopN_z]; rfl
  | succ n ih =>
    intro v8_2
    rw [V.loopN_s, laws_eqEntryS.r8]
    simp only [ih]
    first | exact (laws_eqEntryS.u8 ..).symm | rfl
theorem laws_eqEntryS.v (x0 : List TEntry) (x1 : List TEntry) : V.evBody laws_eqEntryS.E laws_eqEntryS.con Tryz.f22 ((x0, x1) : List TEntry × List TEntry) = laws_eqEntryS.b x0 x1 (fun v8_2 => V.loopN (V.loopF laws_eqEntryS.E Tryz.f22.ntmps [1, 1, 0, 1, 0] [] (V.codeOf Tryz.f22) (laws_eqEntryS.kt x0 x1)) V.KK (laws_eqEntryS.s8 x0 x1 v8_2)) := by kernel_rfl
theorem laws_eqEntryS.eq (x0 : List TEntry) (x1 : List TEntry) : V.evBody laws_eqEntryS.E laws_eqEntryS.con Tryz.f22 ((x0, x1) : List TEntry × List TEntry) = laws_eqEntryS x0 x1 := by
  rw [laws_eqEntryS.v]
  simp only [laws_eqEntryS.e8]
  rfl
theorem laws_eqEntryS.cf (x : laws_eqEntryS.con.A.den) : laws_eqEntryS.con.f x = laws_eqEntryS x.1 x.2 := by kernel_rfl
theorem laws_eqEntryS.ok : V.Valid Tryz.prog 22 laws_eqEntryS.con :=
  V.body_ok (V.env_ok V.mixed V.tysOk (V.tab_cons laws_eqEntry.ok V.tab_nil)) Tryz.func22 (by kernel_rfl) (by kernel_rfl) (by kernel_rfl) (fun x y h => (show V.evBody laws_eqEntryS.E laws_eqEntryS.con Tryz.f22 x = _ from laws_eqEntryS.eq x.1 x.2).trans ((laws_eqEntryS.cf x).symm.trans h))
noncomputable abbrev laws_eqZone.con : V.Con := ⟨(.cons (.sl V.eSigned) (.cons (.sl V.eEntry) (.cons (.sl V.eSigned) (.cons (.sl V.eEntry) .nil)))), (.cons .bool .nil), fun (x : List TSigned × List TEntry × List TSigned × List TEntry) => laws_eqZone (x.1, x.2.1) x.2.2, [], [(true, 2), (true, 2)], [(false, 1)], [false], []⟩
noncomputable abbrev laws_eqZone.E : V.Env := V.mkE V.tys [(22, laws_eqEntryS.con), (31, laws_eqSignedS.con)] [] [] [] [] []
noncomputable abbrev laws_eqZone.kt (x0 : TZone) (x1 : TZone) : V.Kt Bool := V.ktOf laws_eqZone.E laws_eqZone.con Tryz.f47 ((x0.1, x0.2, x1.1, x1.2) : List TSigned × List TEntry × List TSigned × List TEntry)
theorem laws_eqZone.eq (x0 : TZone) (x1 : TZone) : V.evBody laws_eqZone.E laws_eqZone.con Tryz.f47 ((x0.1, x0.2, x1.1, x1.2) : List TSigned × List TEntry × List TSigned × List TEntry) = laws_eqZone x0 x1 := by kernel_rfl
theorem laws_eqZone.cf (x : laws_eqZone.con.A.den) : laws_eqZone.con.f x = laws_eqZone (x.1, x.2.1) x.2.2 := by kernel_rfl
theorem laws_eqZone.ok : V.Valid Tryz.prog 47 laws_eqZone.con :=
  V.body_ok (V.env_ok V.mixed V.tysOk (V.tab_cons laws_eqEntryS.ok (V.tab_cons laws_eqSignedS.ok V.tab_nil))) Tryz.func47 (by kernel_rfl) (by kernel_rfl) (by kernel_rfl) (fun x y h => (show V.evBody laws_eqZone.E laws_eqZone.con Tryz.f47 x = _ from laws_eqZone.eq (x.1, x.2.1) x.2.2).trans ((laws_eqZone.cf x).symm.trans h))
noncomputable abbrev laws_FnExactIsZone.con : V.Con := ⟨(.cons (.sl V.eSigned) (.cons (.sl V.eEntry) .nil)), (.cons .bool .nil), fun (x : List TSigned × List TEntry) => laws_FnExactIsZone x, [], [(true, 2)], [(false, 1)], [false], []⟩
noncomputable abbrev laws_FnExactIsZone.E : V.Env := V.mkE V.tys [(43, laws_szZone.con), (44, spec_IsZone.con), (45, laws_toZone.con), (46, impl_IsZone.con), (47, laws_eqZone.con)] [] [(10, 3)] [] [] []
noncomputable abbrev laws_FnExactIsZone.kt (x0 : TZone) : V.Kt Bool := V.ktOf laws_FnExactIsZone.E laws_FnExactIsZone.con Tryz.f6 ((x0.1, x0.2) : List TSigned × List TEntry)
theorem laws_FnExactIsZone.eq (x0 : TZone) : V.evBody laws_FnExactIsZone.E laws_FnExactIsZone.con Tryz.f6 ((x0.1, x0.2) : List TSigned × List TEntry) = laws_FnExactIsZone x0 := by kernel_rfl
theorem laws_FnExactIsZone.cf (x : laws_FnExactIsZone.con.A.den) : laws_FnExactIsZone.con.f x = laws_FnExactIsZone x := by kernel_rfl
theorem laws_FnExactIsZone.ok : V.Valid Tryz.prog 6 laws_FnExactIsZone.con :=
  V.body_ok (V.env_ok V.mixed V.tysOk (V.tab_cons laws_szZone.ok (V.tab_cons spec_IsZone.ok (V.tab_cons laws_toZone.ok (V.tab_cons impl_IsZone.ok (V.tab_cons laws_eqZone.ok V.tab_nil)))))) Tryz.func6 (by kernel_rfl) (by kernel_rfl) (by kernel_rfl) (fun x y h => (show V.evBody laws_FnExactIsZone.E laws_FnExactIsZone.con Tryz.f6 x = _ from laws_FnExactIsZone.eq x).trans ((laws_FnExactIsZone.cf x).symm.trans h))
end Go.Proofs.YtpioofmdambjoaaGreat
