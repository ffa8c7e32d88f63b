/- That the functions compute it, part 1. -/
import Derived.Test.YtpioofmdambjoaaGreatXServedZoneWalk0
namespace Go.Proofs.YtpioofmdambjoaaGreat
set_option linter.unusedVariables false
set_option maxRecDepth 100000
noncomputable abbrev impl_hash.con : V.Con := ⟨(.cons (.sl (.cons (.int .i64) .nil)) .nil), (.cons (.int .i64) .nil), fun (x : List Int) => impl_hash x, [], [(false, 1)], [(false, 1)], [false], []⟩
noncomputable abbrev impl_hash.E : V.Env := V.mkE V.tys [(260, impl_Hash.con)] [] [] [] [] []
theorem impl_hash.eq (x0 : List Int) : V.evBody impl_hash.E impl_hash.con Tryz.f261 ((x0) : List Int) = impl_hash x0 := by kernel_rfl
theorem impl_hash.ok : V.Valid Tryz.prog 261 impl_hash.con :=
  V.fo (V.tab_cons impl_Hash.ok V.tab_nil) Tryz.func261 (by kernel_rfl) (fun x y h => (show V.evBody impl_hash.E impl_hash.con Tryz.f261 x = _ from impl_hash.eq x).trans (V.cfl (by kernel_rfl) h))
noncomputable abbrev impl_NodeOf.con : V.Con := ⟨(.cons (.int .i64) (.cons (.int .i64) .nil)), (.cons (.int .i64) .nil), fun (x : Int × Int) => impl_NodeOf x.1 x.2, [], [(false, 1), (false, 1)], [(false, 1)], [false], []⟩
noncomputable abbrev impl_NodeOf.E : V.Env := V.mkE V.tys [(261, impl_hash.con)] [] [] [] [] []
theorem impl_NodeOf.eq (x0 : Int) (x1 : Int) : V.evBody impl_NodeOf.E impl_NodeOf.con Tryz.f300 ((x0, x1) : Int × Int) = impl_NodeOf x0 x1 := by kernel_rfl
theorem impl_NodeOf.ok : V.Valid Tryz.prog 300 impl_NodeOf.con :=
  V.fo (V.tab_cons impl_hash.ok V.tab_nil) Tryz.func300 (by kernel_rfl) (fun x y h => (show V.evBody impl_NodeOf.E impl_NodeOf.con Tryz.f300 x = _ from impl_NodeOf.eq x.1 x.2).trans (V.cfl (by kernel_rfl) h))
noncomputable abbrev impl_above.con : V.Con := ⟨(.cons (.sl (.cons (.int .i64) .nil)) .nil), (.cons (.sl (.cons (.int .i64) .nil)) .nil), fun (x : List Int) => impl_above x, [], [(false, 1)], [(false, 1)], [true], []⟩
noncomputable abbrev impl_above.E : V.Env := V.mkE V.tys [(300, impl_NodeOf.con)] [(6, [0, 3, 4], [(64000038400192, (.cons (.int .i64) .nil), true)])] [(6, 12)] [] [] []
noncomputable abbrev impl_above.kt (x0 : List Int) : V.Kt (List Int) := V.ktOf impl_above.E impl_above.con Tryz.f262 ((x0) : List Int)
noncomputable abbrev impl_above.s6 (x0 : List Int) (v6_1 : Int) (v6_2 : List Int) : V.St := ⟨[(0, .v false [.val (.sl (.cons (.int .i64) .nil) x0)]), (3, .v false [.ref 64000038400192]), (4, .v false [.val (.int .i64 v6_1)])], [(64000038400192, .row (.cons (.int .i64) .nil) true v6_2)]⟩
theorem impl_above.r6 (x0 : List Int) (R : V.St → Option (List Int)) (v6_1 : Int) (v6_2 : List Int) : V.loopF impl_above.E Tryz.f262.ntmps [1, 1, 0, 1, 0] [] (V.codeOf Tryz.f262) (impl_above.kt x0) R (impl_above.s6 x0 v6_1 v6_2) = impl_above.g6 x0 (fun v6_1 v6_2 => R (impl_above.s6 x0 v6_1 v6_2)) v6_1 v6_2 := by kernel_rfl
theorem impl_above.e6 (x0 : List Int) : ∀ (n : Nat) (v6_1 : Int) (v6_2 : List Int), V.loopN (V.loopF impl_above.E Tryz.f262.ntmps [1, 1, 0, 1, 0] [] (V.codeOf Tryz.f262) (impl_above.kt x0)) n (impl_above.s6 x0 v6_1 v6_2) = impl_above.l6 x0 n v6_1 v6_2 := by
  intro n
  induction n with
  | zero => intros; rw [V.loopN_z]; rfl
  | succ n ih =>
    intro v6_1 v6_2
    rw [V.loopN_s, impl_above.r6]
    simp only [ih]
    first | exact (impl_above.u6 ..).symm | rfl
theorem impl_above.v (x0 : List Int) : V.evBody impl_above.E impl_above.con Tryz.f262 ((x0) : List Int) = impl_above.b x0 (fun v6_1 v6_2 => V.loopN (V.loopF impl_above.E Tryz.f262.ntmps [1, 1, 0, 1, 0] [] (V.codeOf Tryz.f262) (impl_above.kt x0)) V.KK (impl_above.s6 x0 v6_1 v6_2)) := by kernel_rfl
theorem impl_above.eq (x0 : List Int) : V.evBody impl_above.E impl_above.con Tryz.f262 ((x0) : List Int) = impl_above x0 := by
  rw [impl_above.v]
  simp only [impl_above.e6]
  rfl
theorem impl_above.ok : V.Valid Tryz.prog 262 impl_above.con :=
  V.fo (V.tab_cons impl_NodeOf.ok V.tab_nil) Tryz.func262 (by kernel_rfl) (fun x y h => (show V.evBody impl_above.E impl_above.con Tryz.f262 x = _ from impl_above.eq x).trans (V.cfl (by kernel_rfl) h))
noncomputable abbrev impl_TopOf.con : V.Con := ⟨(.cons (.sl (.cons (.int .i64) .nil)) .nil), (.cons (.int .i64) .nil), fun (x : List Int) => impl_TopOf x, [], [(false, 1)], [(false, 1)], [false], []⟩
noncomputable abbrev impl_TopOf.E : V.Env := V.mkE V.tys [(261, impl_hash.con), (262, impl_above.con)] [(6, [0], [(0, (.cons (.int .i64) .nil), false)])] [] [] [] []
noncomputable abbrev impl_TopOf.kt (x0 : List Int) : V.Kt Int := V.ktOf impl_TopOf.E impl_TopOf.con Tryz.f199 ((x0) : List Int)
noncomputable abbrev impl_TopOf.s6 (v6_0 : List Int) : V.St := ⟨[(0, .v false [.val (.sl (.cons (.int .i64) .nil) v6_0)])], []⟩
theorem impl_TopOf.r6 (x0 : List Int) (R : V.St → Option Int) (v6_0 : List Int) : V.loopF impl_TopOf.E Tryz.f199.ntmps [1, 1, 0, 0] [] (V.codeOf Tryz.f199) (impl_TopOf.kt x0) R (impl_TopOf.s6 v6_0) = impl_TopOf.g6 (fun v6_0 => R (impl_TopOf.s6 v6_0)) v6_0 := by kernel_rfl
theorem impl_TopOf.e6 (x0 : List Int) : ∀ (n : Nat) (v6_0 : List Int), V.loopN (V.loopF impl_TopOf.E Tryz.f199.ntmps [1, 1, 0, 0] [] (V.codeOf Tryz.f199) (impl_TopOf.kt x0)) n (impl_TopOf.s6 v6_0) = impl_TopOf.l6 n v6_0 := by
  intro n
  induction n with
  | zero => intros; rw [V.loopN_z]; rfl
  | succ n ih =>
    intro v6_0
    rw [V.loopN_s, impl_TopOf.r6]
    simp only [ih]
    first | exact (impl_TopOf.u6 ..).symm | rfl
theorem impl_TopOf.v (x0 : List Int) : V.evBody impl_TopOf.E impl_TopOf.con Tryz.f199 ((x0) : List Int) = impl_TopOf.b x0 (fun v6_0 => V.loopN (V.loopF impl_TopOf.E Tryz.f199.ntmps [1, 1, 0, 0] [] (V.codeOf Tryz.f199) (impl_TopOf.kt x0)) V.KK (impl_TopOf.s6 v6_0)) := by kernel_rfl
theorem impl_TopOf.eq (x0 : List Int) : V.evBody impl_TopOf.E impl_TopOf.con Tryz.f199 ((x0) : List Int) = impl_TopOf x0 := by
  rw [impl_TopOf.v]
  simp only [impl_TopOf.e6]
  rfl
theorem impl_TopOf.ok : V.Valid Tryz.prog 199 impl_TopOf.con :=
  V.fo (V.tab_cons impl_hash.ok (V.tab_cons impl_above.ok V.tab_nil)) Tryz.func199 (by kernel_rfl) (fun x y h => (show V.evBody impl_TopOf.E impl_TopOf.con Tryz.f199 x = _ from impl_TopOf.eq x).trans (V.cfl (by kernel_rfl) h))
noncomputable abbrev impl_rootFrom.con : V.Con := ⟨(.cons (.int .i64) (.cons (.int .i64) .nil)), (.cons (.int .i64) .nil), fun (x : Int × Int) => impl_rootFrom x.1 x.2, [], [(false, 1), (false, 1)], [(false, 1)], [false], []⟩
noncomputable abbrev impl_rootFrom.E : V.Env := V.mkE V.tys [(261, impl_hash.con)] [] [] [] [] []
theorem impl_rootFrom.eq (x0 : Int) (x1 : Int) : V.evBody impl_rootFrom.E impl_rootFrom.con Tryz.f198 ((x0, x1) : Int × Int) = impl_rootFrom x0 x1 := by kernel_rfl
theorem impl_rootFrom.ok : V.Valid Tryz.prog 198 impl_rootFrom.con :=
  V.fo (V.tab_cons impl_hash.ok V.tab_nil) Tryz.func198 (by kernel_rfl) (fun x y h => (show V.evBody impl_rootFrom.E impl_rootFrom.con Tryz.f198 x = _ from impl_rootFrom.eq x.1 x.2).trans (V.cfl (by kernel_rfl) h))
noncomputable abbrev impl_RootOf.con : V.Con := ⟨(.cons (.sl V.eEntry) .nil), (.cons (.int .i64) .nil), fun (x : List TEntry) => impl_RootOf x, [], [(false, 1)], [(false, 1)], [false], []⟩
noncomputable abbrev impl_RootOf.E : V.Env := V.mkE V.tys [(198, impl_rootFrom.con), (199, impl_TopOf.con), (200, impl_LeavesOf.con)] [] [] [] [] []
theorem impl_RootOf.eq (x0 : List TEntry) : V.evBody impl_RootOf.E impl_RootOf.con Tryz.f94 ((x0) : List TEntry) = impl_RootOf x0 := by kernel_rfl
theorem impl_RootOf.ok : V.Valid Tryz.prog 94 impl_RootOf.con :=
  V.fo (V.tab_cons impl_rootFrom.ok (V.tab_cons impl_TopOf.ok (V.tab_cons impl_LeavesOf.ok V.tab_nil))) Tryz.func94 (by kernel_rfl) (fun x y h => (show V.evBody impl_RootOf.E impl_RootOf.con Tryz.f94 x = _ from impl_RootOf.eq x).trans (V.cfl (by kernel_rfl) h))
noncomputable abbrev impl_CheckAll.con : V.Con := ⟨(.cons (.int .i64) (.cons (.sl V.eEntry) .nil)), (.cons .bool .nil), fun (x : Int × List TEntry) => impl_CheckAll x.1 x.2, [], [(false, 1), (false, 1)], [(false, 1)], [false], []⟩
noncomputable abbrev impl_CheckAll.E : V.Env := V.mkE V.tys [(91, impl_AreEntries.con), (94, impl_RootOf.con)] [] [] [] [] []
theorem impl_CheckAll.eq (x0 : Int) (x1 : List TEntry) : V.evBody impl_CheckAll.E impl_CheckAll.con Tryz.f136 ((x0, x1) : Int × List TEntry) = impl_CheckAll x0 x1 := by kernel_rfl
theorem impl_CheckAll.ok : V.Valid Tryz.prog 136 impl_CheckAll.con :=
  V.fo (V.tab_cons impl_AreEntries.ok (V.tab_cons impl_RootOf.ok V.tab_nil)) Tryz.func136 (by kernel_rfl) (fun x y h => (show V.evBody impl_CheckAll.E impl_CheckAll.con Tryz.f136 x = _ from impl_CheckAll.eq x.1 x.2).trans (V.cfl (by kernel_rfl) h))
noncomputable abbrev impl_IsZone.con : V.Con := ⟨(.cons (.sl V.eSigned) (.cons (.sl V.eEntry) .nil)), (.cons .bool .nil), fun (x : List TSigned × List TEntry) => impl_IsZone x, [], [(true, 2)], [(false, 1)], [false], []⟩
noncomputable abbrev impl_IsZone.E : V.Env := V.mkE V.tys [(104, impl_IsChain.con), (130, impl_last.con), (136, impl_CheckAll.con)] [] [] [] [] []
theorem impl_IsZone.eq (x0 : TZone) : V.evBody impl_IsZone.E impl_IsZone.con Tryz.f46 ((x0.1, x0.2) : List TSigned × List TEntry) = impl_IsZone x0 := by kernel_rfl
theorem impl_IsZone.ok : V.Valid Tryz.prog 46 impl_IsZone.con :=
  V.fo (V.tab_cons impl_IsChain.ok (V.tab_cons impl_last.ok (V.tab_cons impl_CheckAll.ok V.tab_nil))) Tryz.func46 (by kernel_rfl) (fun x y h => (show V.evBody impl_IsZone.E impl_IsZone.con Tryz.f46 x = _ from impl_IsZone.eq x).trans (V.cfl (by kernel_rfl) h))
noncomputable abbrev impl_ZoneId.con : V.Con := ⟨(.cons (.sl V.eSigned) (.cons (.sl V.eEntry) .nil)), (.cons (.int .i64) .nil), fun (x : List TSigned × List TEntry) => impl_ZoneId x, [], [(true, 2)], [(false, 1)], [false], []⟩
noncomputable abbrev impl_ZoneId.E : V.Env := V.mkE V.tys [(46, impl_IsZone.con), (130, impl_last.con)] [] [] [] [] []
theorem impl_ZoneId.eq (x0 : TZone) : V.evBody impl_ZoneId.E impl_ZoneId.con Tryz.f49 ((x0.1, x0.2) : List TSigned × List TEntry) = impl_ZoneId x0 := by kernel_rfl
theorem impl_ZoneId.ok : V.Valid Tryz.prog 49 impl_ZoneId.con :=
  V.fo (V.tab_cons impl_IsZone.ok (V.tab_cons impl_last.ok V.tab_nil)) Tryz.func49 (by kernel_rfl) (fun x y h => (show V.evBody impl_ZoneId.E impl_ZoneId.con Tryz.f49 x = _ from impl_ZoneId.eq x).trans (V.cfl (by kernel_rfl) h))
noncomputable abbrev impl_ServedZone_1.con : V.Con := ⟨(.cons (.sl V.eSigned) (.cons (.sl V.eEntry) (.cons (.ptr (.cons (.int .i64) .nil)) .nil))), (.cons .bool .nil), fun (x : List TSigned × List TEntry × Int) => impl_ServedZone_1 (x.1, x.2.1) x.2.2, [], [(true, 2), (false, 1)], [(false, 1)], [false], []⟩
noncomputable abbrev impl_ServedZone_1.E : V.Env := V.mkE V.tys [(49, impl_ZoneId.con)] [] [(1, 3)] [] [] []
theorem impl_ServedZone_1.eq (x0 : TZone) (x1 : Int) : V.evBody impl_ServedZone_1.E impl_ServedZone_1.con Tryz.f154 ((x0.1, x0.2, x1) : List TSigned × List TEntry × Int) = impl_ServedZone_1 x0 x1 := by kernel_rfl
theorem impl_ServedZone_1.ok : V.Valid Tryz.prog 154 impl_ServedZone_1.con :=
  V.fo (V.tab_cons impl_ZoneId.ok V.tab_nil) Tryz.func154 (by kernel_rfl) (fun x y h => (show V.evBody impl_ServedZone_1.E impl_ServedZone_1.con Tryz.f154 x = _ from impl_ServedZone_1.eq (x.1, x.2.1) x.2.2).trans (V.cfl (by kernel_rfl) h))
noncomputable abbrev slices_IndexFunc_impl_Zone__ServedZone_1.con : V.Con := ⟨(.cons (.sl (.cons (.sl V.eSigned) (.cons (.sl V.eEntry) .nil))) (.cons (.fn 154 false .nil (.cons (.ptr (.cons (.int .i64) .nil)) .nil)) .nil)), (.cons (.int .i64) .nil), fun (x : List TZone × (Unit) × (Int)) => slices_IndexFunc_impl_Zone__ServedZone_1 x.1 x.2, [], [(false, 1), (false, 1)], [(false, 1)], [false], []⟩
noncomputable abbrev slices_IndexFunc_impl_Zone__ServedZone_1.E : V.Env := V.mkE V.tys [(154, impl_ServedZone_1.con)] [(4, [0, 1, 7, 8], [])] [] [] [] []
noncomputable abbrev slices_IndexFunc_impl_Zone__ServedZone_1.kt (x0 : List TZone) (x1 : (Unit) × (Int)) : V.Kt Int := V.ktOf slices_IndexFunc_impl_Zone__ServedZone_1.E slices_IndexFunc_impl_Zone__ServedZone_1.con Tryz.f153 ((x0, x1) : List TZone × (Unit) × (Int))
noncomputable abbrev slices_IndexFunc_impl_Zone__ServedZone_1.s4 (x0 : List TZone) (x1 : (Unit) × (Int)) (v4_2 : Int) (v4_3 : Int) : V.St := ⟨[(0, .v false [.val (.sl (.cons (.sl V.eSigned) (.cons (.sl V.eEntry) .nil)) x0)]), (1, .v false [.val (.fn 154 false .nil (.cons (.ptr (.cons (.int .i64) .nil)) .nil) () x1.2)]), (7, .v false [.val (.int .i64 v4_2)]), (8, .v false [.val (.int .i64 v4_3)])], []⟩
theorem slices_IndexFunc_impl_Zone__ServedZone_1.r4 (x0 : List TZone) (x1 : (Unit) × (Int)) (R : V.St → Option Int) (v4_2 : Int) (v4_3 : Int) : V.loopF slices_IndexFunc_impl_Zone__ServedZone_1.E Tryz.f153.ntmps [1, 0, 1, 0] [] (V.codeOf Tryz.f153) (slices_IndexFunc_impl_Zone__ServedZone_1.kt x0 x1) R (slices_IndexFunc_impl_Zone__ServedZone_1.s4 x0 x1 v4_2 v4_3) = slices_IndexFunc_impl_Zone__ServedZone_1.g4 x0 x1 (fun v4_2 v4_3 => R (slices_IndexFunc_impl_Zone__ServedZone_1.s4 x0 x1 v4_2 v4_3)) v4_2 v4_3 := by kernel_rfl
theorem slices_IndexFunc_impl_Zone__ServedZone_1.e4 (x0 : List TZone) (x1 : (Unit) × (Int)) : ∀ (n : Nat) (v4_2 : Int) (v4_3 : Int), V.loopN (V.loopF slices_IndexFunc_impl_Zone__ServedZone_1.E Tryz.f153.ntmps [1, 0, 1, 0] [] (V.codeOf Tryz.f153) (slices_IndexFunc_impl_Zone__ServedZone_1.kt x0 x1)) n (slices_IndexFunc_impl_Zone__ServedZone_1.s4 x0 x1 v4_2 v4_3) = slices_IndexFunc_impl_Zone__ServedZone_1.l4 x0 x1 n v4_2 v4_3 := by
  intro n
  induction n with
  | zero => intros; rw [V.loopN_z]; rfl
  | succ n ih =>
    intro v4_2 v4_3
    rw [V.loopN_s, slices_IndexFunc_impl_Zone__ServedZone_1.r4]
    simp only [ih]
    first | exact (slices_IndexFunc_impl_Zone__ServedZone_1.u4 ..).symm | rfl
theorem slices_IndexFunc_impl_Zone__ServedZone_1.v (x0 : List TZone) (x1 : (Unit) × (Int)) : V.evBody slices_IndexFunc_impl_Zone__ServedZone_1.E slices_IndexFunc_impl_Zone__ServedZone_1.con Tryz.f153 ((x0, x1) : List TZone × (Unit) × (Int)) = slices_IndexFunc_impl_Zone__ServedZone_1.b x0 x1 (fun v4_2 v4_3 => V.loopN (V.loopF slices_IndexFunc_impl_Zone__ServedZone_1.E Tryz.f153.ntmps [1, 0, 1, 0] [] (V.codeOf Tryz.f153) (slices_IndexFunc_impl_Zone__ServedZone_1.kt x0 x1)) V.KK (slices_IndexFunc_impl_Zone__ServedZone_1.s4 x0 x1 v4_2 v4_3)) := by kernel_rfl
theorem slices_IndexFunc_impl_Zone__ServedZone_1.eq (x0 : List TZone) (x1 : (Unit) × (Int)) : V.evBody slices_IndexFunc_impl_Zone__ServedZone_1.E slices_IndexFunc_impl_Zone__ServedZone_1.con Tryz.f153 ((x0, x1) : List TZone × (Unit) × (Int)) = slices_IndexFunc_impl_Zone__ServedZone_1 x0 x1 := by
  rw [slices_IndexFunc_impl_Zone__ServedZone_1.v]
  simp only [slices_IndexFunc_impl_Zone__ServedZone_1.e4]
  rfl
theorem slices_IndexFunc_impl_Zone__ServedZone_1.ok : V.Valid Tryz.prog 153 slices_IndexFunc_impl_Zone__ServedZone_1.con :=
  V.fo (V.tab_cons impl_ServedZone_1.ok V.tab_nil) Tryz.func153 (by kernel_rfl) (fun x y h => (show V.evBody slices_IndexFunc_impl_Zone__ServedZone_1.E slices_IndexFunc_impl_Zone__ServedZone_1.con Tryz.f153 x = _ from slices_IndexFunc_impl_Zone__ServedZone_1.eq x.1 x.2).trans (V.cfl (by kernel_rfl) h))
noncomputable abbrev impl_ServedZone.con : V.Con := ⟨(.cons (.sl (.cons (.sl V.eSigned) (.cons (.sl V.eEntry) .nil))) (.cons (.int .i64) (.cons (.int .i64) .nil))), (.cons (.int .i64) .nil), fun (x : List TZone × Int × Int) => impl_ServedZone (x.1, x.2.1) x.2.2, [], [(true, 2), (false, 1)], [(false, 1)], [false], []⟩
noncomputable abbrev impl_ServedZone.E : V.Env := V.mkE V.tys [(153, slices_IndexFunc_impl_Zone__ServedZone_1.con)] [] [] [] [] []
theorem impl_ServedZone.eq (x0 : TServer) (x1 : Int) : V.evBody impl_ServedZone.E impl_ServedZone.con Tryz.f64 ((x0.1, x0.2, x1) : List TZone × Int × Int) = impl_ServedZone x0 x1 := by kernel_rfl
theorem impl_ServedZone.ok : V.Valid Tryz.prog 64 impl_ServedZone.con :=
  V.fo (V.tab_cons slices_IndexFunc_impl_Zone__ServedZone_1.ok V.tab_nil) Tryz.func64 (by kernel_rfl) (fun x y h => (show V.evBody impl_ServedZone.E impl_ServedZone.con Tryz.f64 x = _ from impl_ServedZone.eq (x.1, x.2.1) x.2.2).trans (V.cfl (by kernel_rfl) h))
noncomputable abbrev laws_eqIntS.con : V.Con := ⟨(.cons (.sl (.cons (.int .i64) .nil)) (.cons (.sl (.cons (.int .i64) .nil)) .nil)), (.cons .bool .nil), fun (x : List Int × List Int) => laws_eqIntS x.1 x.2, [], [(false, 1), (false, 1)], [(false, 1)], [false], []⟩
noncomputable abbrev laws_eqIntS.E : V.Env := V.mkE V.tys [] [(8, [0, 1, 5], [])] [(6, 8)] [] [] []
noncomputable abbrev laws_eqIntS.kt (x0 : List Int) (x1 : List Int) : V.Kt Bool := V.ktOf laws_eqIntS.E laws_eqIntS.con Tryz.f79 ((x0, x1) : List Int × List Int)
noncomputable abbrev laws_eqIntS.s8 (x0 : List Int) (x1 : List Int) (v8_2 : Int) : V.St := ⟨[(0, .v false [.val (.sl (.cons (.int .i64) .nil) x0)]), (1, .v false [.val (.sl (.cons (.int .i64) .nil) x1)]), (5, .v false [.val (.int .i64 v8_2)])], []⟩
theorem laws_eqIntS.r8 (x0 : List Int) (x1 : List Int) (R : V.St → Option Bool) (v8_2 : Int) : V.loopF laws_eqIntS.E Tryz.f79.ntmps [1, 1, 0, 1, 0] [] (V.codeOf Tryz.f79) (laws_eqIntS.kt x0 x1) R (laws_eqIntS.s8 x0 x1 v8_2) = laws_eqIntS.g8 x0 x1 (fun v8_2 => R (laws_eqIntS.s8 x0 x1 v8_2)) v8_2 := by kernel_rfl
theorem laws_eqIntS.e8 (x0 : List Int) (x1 : List Int) : ∀ (n : Nat) (v8_2 : Int), V.loopN (V.loopF laws_eqIntS.E Tryz.f79.ntmps [1, 1, 0, 1, 0] [] (V.codeOf Tryz.f79) (laws_eqIntS.kt x0 x1)) n (laws_eqIntS.s8 x0 x1 v8_2) = laws_eqIntS.l8 x0 x1 n v8_2 := by
  intro n
  induction n with
  | zero => intros; rw [V.loopN_z]; rfl
  | succ n ih =>
    intro v8_2
    rw [V.loopN_s, laws_eqIntS.r8]
    simp only [ih]
    first | exact (laws_eqIntS.u8 ..).symm | rfl
theorem laws_eqIntS.v (x0 : List Int) (x1 : List Int) : V.evBody laws_eqIntS.E laws_eqIntS.con Tryz.f79 ((x0, x1) : List Int × List Int) = laws_eqIntS.b x0 x1 (fun v8_2 => V.loopN (V.loopF laws_eqIntS.E Tryz.f79.ntmps [1, 1, 0, 1, 0] [] (V.codeOf Tryz.f79) (laws_eqIntS.kt x0 x1)) V.KK (laws_eqIntS.s8 x0 x1 v8_2)) := by kernel_rfl
theorem laws_eqIntS.eq (x0 : List Int) (x1 : List Int) : V.evBody laws_eqIntS.E laws_eqIntS.con Tryz.f79 ((x0, x1) : List Int × List Int) = laws_eqIntS x0 x1 := by
  rw [laws_eqIntS.v]
  simp only [laws_eqIntS.e8]
  rfl
theorem laws_eqIntS.ok : V.Valid Tryz.prog 79 laws_eqIntS.con :=
  V.fo V.tab_nil Tryz.func79 (by kernel_rfl) (fun x y h => (show V.evBody laws_eqIntS.E laws_eqIntS.con Tryz.f79 x = _ from laws_eqIntS.eq x.1 x.2).trans (V.cfl (by kernel_rfl) h))
noncomputable abbrev laws_eqKeys.con : V.Con := ⟨(.cons (.sl (.cons (.int .i64) .nil)) (.cons (.int .i64) (.cons (.sl (.cons (.int .i64) .nil)) (.cons (.int .i64) .nil)))), (.cons .bool .nil), fun (x : List Int × Int × List Int × Int) => laws_eqKeys (x.1, x.2.1) x.2.2, [], [(true, 2), (true, 2)], [(false, 1)], [false], []⟩
noncomputable abbrev laws_eqKeys.E : V.Env := V.mkE V.tys [(79, laws_eqIntS.con)] [] [] [] [] []
theorem laws_eqKeys.eq (x0 : TKeys) (x1 : TKeys) : V.evBody laws_eqKeys.E laws_eqKeys.con Tryz.f54 ((x0.1, x0.2, x1.1, x1.2) : List Int × Int × List Int × Int) = laws_eqKeys x0 x1 := by kernel_rfl
theorem laws_eqKeys.ok : V.Valid Tryz.prog 54 laws_eqKeys.con :=
  V.fo (V.tab_cons laws_eqIntS.ok V.tab_nil) Tryz.func54 (by kernel_rfl) (fun x y h => (show V.evBody laws_eqKeys.E laws_eqKeys.con Tryz.f54 x = _ from laws_eqKeys.eq (x.1, x.2.1) x.2.2).trans (V.cfl (by kernel_rfl) h))
noncomputable abbrev laws_eqHead.con : V.Con := ⟨V.A4, (.cons .bool .nil), fun (x : V.D4) => laws_eqHead (V.p4_0 x) (V.p4_1 x), [], [(true, 16), (true, 16)], [(false, 1)], [false], []⟩
noncomputable abbrev laws_eqHead.E : V.Env := V.mkE V.tys [(54, laws_eqKeys.con)] [] [] [] [] []
noncomputable abbrev laws_eqHead.kt (x0 : THead) (x1 : THead) : V.Kt Bool := V.ktOf laws_eqHead.E laws_eqHead.con Tryz.f21 (V.fl4 x0 x1)
noncomputable abbrev laws_eqHead.s (x0 : THead) (x1 : THead) : V.St := ⟨[(0, .v true [.val (.int .i64 x0.1), .val (.int .i64 x0.2.1), .val (.int .i64 x0.2.2.1), .val (.int .i64 x0.2.2.2.1), .val (.int .i64 x0.2.2.2.2.1), .val (.int .i64 x0.2.2.2.2.2.1), .val (.int .i64 x0.2.2.2.2.2.2.1), .val (.int .i64 x0.2.2.2.2.2.2.2.1), .val (.sl (.cons (.int .i64) .nil) x0.2.2.2.2.2.2.2.2.1), .val (.int .i64 x0.2.2.2.2.2.2.2.2.2.1), .val (.sl (.cons (.int .i64) .nil) x0.2.2.2.2.2.2.2.2.2.2.1), .val (.int .i64 x0.2.2.2.2.2.2.2.2.2.2.2.1), .val (.int .i64 x0.2.2.2.2.2.2.2.2.2.2.2.2.1), .val (.sl (.cons (.int .i64) .nil) x0.2.2.2.2.2.2.2.2.2.2.2.2.2.1), .val (.int .i64 x0.2.2.2.2.2.2.2.2.2.2.2.2.2.2.1), .val (.bool x0.2.2.2.2.2.2.2.2.2.2.2.2.2.2.2)]), (1, .v true [.val (.int .i64 x1.1), .val (.int .i64 x1.2.1), .val (.int .i64 x1.2.2.1), .val (.int .i64 x1.2.2.2.1), .val (.int .i64 x1.2.2.2.2.1), .val (.int .i64 x1.2.2.2.2.2.1), .val (.int .i64 x1.2.2.2.2.2.2.1), .val (.int .i64 x1.2.2.2.2.2.2.2.1), .val (.sl (.cons (.int .i64) .nil) x1.2.2.2.2.2.2.2.2.1), .val (.int .i64 x1.2.2.2.2.2.2.2.2.2.1), .val (.sl (.cons (.int .i64) .nil) x1.2.2.2.2.2.2.2.2.2.2.1), .val (.int .i64 x1.2.2.2.2.2.2.2.2.2.2.2.1), .val (.int .i64 x1.2.2.2.2.2.2.2.2.2.2.2.2.1), .val (.sl (.cons (.int .i64) .nil) x1.2.2.2.2.2.2.2.2.2.2.2.2.2.1), .val (.int .i64 x1.2.2.2.2.2.2.2.2.2.2.2.2.2.2.1), .val (.bool x1.2.2.2.2.2.2.2.2.2.2.2.2.2.2.2)])], []⟩
theorem laws_eqHead.v0 (x0 : THead) (x1 : THead) : V.evBody laws_eqHead.E laws_eqHead.con Tryz.f21 (V.fl4 x0 x1) = V.evC laws_eqHead.E Tryz.f21.ntmps (V.codeOf Tryz.f21) (laws_eqHead.kt x0 x1) (laws_eqHead.s x0 x1) := by kernel_rfl
theorem laws_eqHead.v (x0 : THead) (x1 : THead) : V.evC laws_eqHead.E Tryz.f21.ntmps (V.codeOf Tryz.f21) (laws_eqHead.kt x0 x1) (laws_eqHead.s x0 x1) = laws_eqHead x0 x1 := by kernel_rfl
theorem laws_eqHead.eq (x0 : THead) (x1 : THead) : V.evBody laws_eqHead.E laws_eqHead.con Tryz.f21 (V.fl4 x0 x1) = laws_eqHead x0 x1 := (laws_eqHead.v0 x0 x1).trans (laws_eqHead.v x0 x1)
theorem laws_eqHead.ok : V.Valid Tryz.prog 21 laws_eqHead.con :=
  V.fo (V.tab_cons laws_eqKeys.ok V.tab_nil) Tryz.func21 (by kernel_rfl) (fun x y h => (show V.evBody laws_eqHead.E laws_eqHead.con Tryz.f21 x = _ from laws_eqHead.eq (V.p4_0 x) (V.p4_1 x)).trans (V.cfl (by kernel_rfl) h))
noncomputable abbrev laws_eqSig.con : V.Con := ⟨(.cons (.int .i64) (.cons (.int .i64) (.cons (.int .i64) (.cons (.int .i64) .nil)))), (.cons .bool .nil), fun (x : Int × Int × Int × Int) => laws_eqSig (x.1, x.2.1) x.2.2, [], [(true, 2), (true, 2)], [(false, 1)], [false], []⟩
noncomputable abbrev laws_eqSig.E : V.Env := V.mkE V.tys [] [] [] [] [] []
theorem laws_eqSig.eq (x0 : TSig) (x1 : TSig) : V.evBody laws_eqSig.E laws_eqSig.con Tryz.f40 ((x0.1, x0.2, x1.1, x1.2) : Int × Int × Int × Int) = laws_eqSig x0 x1 := by kernel_rfl
theorem laws_eqSig.ok : V.Valid Tryz.prog 40 laws_eqSig.con :=
  V.fo V.tab_nil Tryz.func40 (by kernel_rfl) (fun x y h => (show V.evBody laws_eqSig.E laws_eqSig.con Tryz.f40 x = _ from laws_eqSig.eq (x.1, x.2.1) x.2.2).trans (V.cfl (by kernel_rfl) h))
noncomputable abbrev laws_eqSigS.con : V.Con := ⟨(.cons (.sl (.cons (.int .i64) (.cons (.int .i64) .nil))) (.cons (.sl (.cons (.int .i64) (.cons (.int .i64) .nil))) .nil)), (.cons .bool .nil), fun (x : List TSig × List TSig) => laws_eqSigS x.1 x.2, [], [(false, 1), (false, 1)], [(false, 1)], [false], []⟩
noncomputable abbrev laws_eqSigS.E : V.Env := V.mkE V.tys [(40, laws_eqSig.con)] [(8, [0, 1, 5], [])] [(6, 8)] [] [] []
noncomputable abbrev laws_eqSigS.kt (x0 : List TSig) (x1 : List TSig) : V.Kt Bool := V.ktOf laws_eqSigS.E laws_eqSigS.con Tryz.f212 ((x0, x1) : List TSig × List TSig)
noncomputable abbrev laws_eqSigS.s8 (x0 : List TSig) (x1 : List TSig) (v8_2 : Int) : V.St := ⟨[(0, .v false [.val (.sl (.cons (.int .i64) (.cons (.int .i64) .nil)) x0)]), (1, .v false [.val (.sl (.cons (.int .i64) (.cons (.int .i64) .nil)) x1)]), (5, .v false [.val (.int .i64 v8_2)])], []⟩
theorem laws_eqSigS.r8 (x0 : List TSig) (x1 : List TSig) (R : V.St → Option Bool) (v8_2 : Int) : V.loopF laws_eqSigS.E Tryz.f212.ntmps [1, 1, 0, 1, 0] [] (V.codeOf Tryz.f212) (laws_eqSigS.kt x0 x1) R (laws_eqSigS.s8 x0 x1 v8_2) = laws_eqSigS.g8 x0 x1 (fun v8_2 => R (laws_eqSigS.s8 x0 x1 v8_2)) v8_2 := by kernel_rfl
theorem laws_eqSigS.e8 (x0 : List TSig) (x1 : List TSig) : ∀ (n : Nat) (v8_2 : Int), V.loopN (V.loopF laws_eqSigS.E Tryz.f212.ntmps [1, 1, 0, 1, 0] [] (V.codeOf Tryz.f212) (laws_eqSigS.kt x0 x1)) n (laws_eqSigS.s8 x0 x1 v8_2) = laws_eqSigS.l8 x0 x1 n v8_2 := by
  intro n
  induction n with
  | zero => intros; rw [V.loopN_z]; rfl
  | succ n ih =>
    intro v8_2
    rw [V.loopN_s, laws_eqSigS.r8]
    simp only [ih]
    first | exact (laws_eqSigS.u8 ..).symm | rfl
theorem laws_eqSigS.v (x0 : List TSig) (x1 : List TSig) : V.evBody laws_eqSigS.E laws_eqSigS.con Tryz.f212 ((x0, x1) : List TSig × List TSig) = laws_eqSigS.b x0 x1 (fun v8_2 => V.loopN (V.loopF laws_eqSigS.E Tryz.f212.ntmps [1, 1, 0, 1, 0] [] (V.codeOf Tryz.f212) (laws_eqSigS.kt x0 x1)) V.KK (laws_eqSigS.s8 x0 x1 v8_2)) := by kernel_rfl
theorem laws_eqSigS.eq (x0 : List TSig) (x1 : List TSig) : V.evBody laws_eqSigS.E laws_eqSigS.con Tryz.f212 ((x0, x1) : List TSig × List TSig) = laws_eqSigS x0 x1 := by
  rw [laws_eqSigS.v]
  simp only [laws_eqSigS.e8]
  rfl
theorem laws_eqSigS.ok : V.Valid Tryz.prog 212 laws_eqSigS.con :=
  V.fo (V.tab_cons laws_eqSig.ok V.tab_nil) Tryz.func212 (by kernel_rfl) (fun x y h => (show V.evBody laws_eqSigS.E laws_eqSigS.con Tryz.f212 x = _ from laws_eqSigS.eq x.1 x.2).trans (V.cfl (by kernel_rfl) h))
noncomputable abbrev laws_eqSigned.con : V.Con := ⟨V.A7, (.cons .bool .nil), fun (x : V.D7) => laws_eqSigned (V.p7_0 x) (V.p7_1 x), [], [(true, 17), (true, 17)], [(false, 1)], [false], []⟩
noncomputable abbrev laws_eqSigned.E : V.Env := V.mkE V.tys [(21, laws_eqHead.con), (212, laws_eqSigS.con)] [] [] [] [] []
noncomputable abbrev laws_eqSigned.kt (x0 : TSigned) (x1 : TSigned) : V.Kt Bool := V.ktOf laws_eqSigned.E laws_eqSigned.con Tryz.f108 (V.fl7 x0 x1)
noncomputable abbrev laws_eqSigned.s (x0 : TSigned) (x1 : TSigned) : V.St := ⟨[(0, .v true [.val (.int .i64 x0.1), .val (.int .i64 x0.2.1), .val (.int .i64 x0.2.2.1), .val (.int .i64 x0.2.2.2.1), .val (.int .i64 x0.2.2.2.2.1), .val (.int .i64 x0.2.2.2.2.2.1), .val (.int .i64 x0.2.2.2.2.2.2.1), .val (.int .i64 x0.2.2.2.2.2.2.2.1), .val (.sl (.cons (.int .i64) .nil) x0.2.2.2.2.2.2.2.2.1), .val (.int .i64 x0.2.2.2.2.2.2.2.2.2.1), .val (.sl (.cons (.int .i64) .nil) x0.2.2.2.2.2.2.2.2.2.2.1), .val (.int .i64 x0.2.2.2.2.2.2.2.2.2.2.2.1), .val (.int .i64 x0.2.2.2.2.2.2.2.2.2.2.2.2.1), .val (.sl (.cons (.int .i64) .nil) x0.2.2.2.2.2.2.2.2.2.2.2.2.2.1), .val (.int .i64 x0.2.2.2.2.2.2.2.2.2.2.2.2.2.2.1), .val (.bool x0.2.2.2.2.2.2.2.2.2.2.2.2.2.2.2.1), .val (.sl (.cons (.int .i64) (.cons (.int .i64) .nil)) x0.2.2.2.2.2.2.2.2.2.2.2.2.2.2.2.2)]), (1, .v true [.val (.int .i64 x1.1), .val (.int .i64 x1.2.1), .val (.int .i64 x1.2.2.1), .val (.int .i64 x1.2.2.2.1), .val (.int .i64 x1.2.2.2.2.1), .val (.int .i64 x1.2.2.2.2.2.1), .val (.int .i64 x1.2.2.2.2.2.2.1), .val (.int .i64 x1.2.2.2.2.2.2.2.1), .val (.sl (.cons (.int .i64) .nil) x1.2.2.2.2.2.2.2.2.1), .val (.int .i64 x1.2.2.2.2.2.2.2.2.2.1), .val (.sl (.cons (.int .i64) .nil) x1.2.2.2.2.2.2.2.2.2.2.1), .val (.int .i64 x1.2.2.2.2.2.2.2.2.2.2.2.1), .val (.int .i64 x1.2.2.2.2.2.2.2.2.2.2.2.2.1), .val (.sl (.cons (.int .i64) .nil) x1.2.2.2.2.2.2.2.2.2.2.2.2.2.1), .val (.int .i64 x1.2.2.2.2.2.2.2.2.2.2.2.2.2.2.1), .val (.bool x1.2.2.2.2.2.2.2.2.2.2.2.2.2.2.2.1), .val (.sl (.cons (.int .i64) (.cons (.int .i64) .nil)) x1.2.2.2.2.2.2.2.2.2.2.2.2.2.2.2.2)])], []⟩
theorem laws_eqSigned.v0 (x0 : TSigned) (x1 : TSigned) : V.evBody laws_eqSigned.E laws_eqSigned.con Tryz.f108 (V.fl7 x0 x1) = V.evC laws_eqSigned.E Tryz.f108.ntmps (V.codeOf Tryz.f108) (laws_eqSigned.kt x0 x1) (laws_eqSigned.s x0 x1) := by kernel_rfl
theorem laws_eqSigned.v (x0 : TSigned) (x1 : TSigned) : V.evC laws_eqSigned.E Tryz.f108.ntmps (V.codeOf Tryz.f108) (laws_eqSigned.kt x0 x1) (laws_eqSigned.s x0 x1) = laws_eqSigned x0 x1 := by kernel_rfl
theorem laws_eqSigned.eq (x0 : TSigned) (x1 : TSigned) : V.evBody laws_eqSigned.E laws_eqSigned.con Tryz.f108 (V.fl7 x0 x1) = laws_eqSigned x0 x1 := (laws_eqSigned.v0 x0 x1).trans (laws_eqSigned.v x0 x1)
theorem laws_eqSigned.ok : V.Valid Tryz.prog 108 laws_eqSigned.con :=
  V.fo (V.tab_cons laws_eqHead.ok (V.tab_cons laws_eqSigS.ok V.tab_nil)) Tryz.func108 (by kernel_rfl) (fun x y h => (show V.evBody laws_eqSigned.E laws_eqSigned.con Tryz.f108 x = _ from laws_eqSigned.eq (V.p7_0 x) (V.p7_1 x)).trans (V.cfl (by kernel_rfl) h))
noncomputable abbrev laws_eqSignedS.con : V.Con := ⟨(.cons (.sl V.eSigned) (.cons (.sl V.eSigned) .nil)), (.cons .bool .nil), fun (x : List TSigned × List TSigned) => laws_eqSignedS x.1 x.2, [], [(false, 1), (false, 1)], [(false, 1)], [false], []⟩
noncomputable abbrev laws_eqSignedS.E : V.Env := V.mkE V.tys [(108, laws_eqSigned.con)] [(8, [0, 1, 5], [])] [(6, 8)] [] [] []
noncomputable abbrev laws_eqSignedS.kt (x0 : List TSigned) (x1 : List TSigned) : V.Kt Bool := V.ktOf laws_eqSignedS.E laws_eqSignedS.con Tryz.f31 ((x0, x1) : List TSigned × List TSigned)
noncomputable abbrev laws_eqSignedS.s8 (x0 : List TSigned) (x1 : List TSigned) (v8_2 : Int) : V.St := ⟨[(0, .v false [.val (.sl V.eSigned x0)]), (1, .v false [.val (.sl V.eSigned x1)]), (5, .v false [.val (.int .i64 v8_2)])], []⟩
theorem laws_eqSignedS.r8 (x0 : List TSigned) (x1 : List TSigned) (R : V.St → Option Bool) (v8_2 : Int) : V.loopF laws_eqSignedS.E Tryz.f31.ntmps [1, 1, 0, 1, 0] [] (V.codeOf Tryz.f31) (laws_eqSignedS.kt x0 x1) R (laws_eqSignedS.s8 x0 x1 v8_2) = laws_eqSignedS.g8 x0 x1 (fun v8_2 => R (laws_eqSignedS.s8 x0 x1 v8_2)) v8_2 := by kernel_rfl
theorem laws_eqSignedS.e8 (x0 : List TSigned) (x1 : List TSigned) : ∀ (n : Nat) (v8_2 : Int), V.loopN (V.loopF laws_eqSignedS.E Tryz.f31.ntmps [1, 1, 0, 1, 0] [] (V.codeOf Tryz.f31) (laws_eqSignedS.kt x0 x1)) n (laws_eqSignedS.s8 x0 x1 v8_2) = laws_eqSignedS.l8 x0 x1 n v8_2 := by
  intro n
  induction n with
  | zero => intros; rw [V.loopN_z]; rfl
  | succ n ih =>
    intro v8_2
    rw [V.loopN_s, laws_eqSignedS.r8]
    simp only [ih]
    first | exact (laws_eqSignedS.u8 ..).symm | rfl
theorem laws_eqSignedS.v (x0 : List TSigned) (x1 : List TSigned) : V.evBody laws_eqSignedS.E laws_eqSignedS.con Tryz.f31 ((x0, x1) : List TSigned × List TSigned) = laws_eqSignedS.b x0 x1 (fun v8_2 => V.loopN (V.loopF laws_eqSignedS.E Tryz.f31.ntmps [1, 1, 0, 1, 0] [] (V.codeOf Tryz.f31) (laws_eqSignedS.kt x0 x1)) V.KK (laws_eqSignedS.s8 x0 x1 v8_2)) := by kernel_rfl
theorem laws_eqSignedS.eq (x0 : List TSigned) (x1 : List TSigned) : V.evBody laws_eqSignedS.E laws_eqSignedS.con Tryz.f31 ((x0, x1) : List TSigned × List TSigned) = laws_eqSignedS x0 x1 := by
  rw [laws_eqSignedS.v]
  simp only [laws_eqSignedS.e8]
  rfl
theorem laws_eqSignedS.ok : V.Valid Tryz.prog 31 laws_eqSignedS.con :=
  V.fo (V.tab_cons laws_eqSigned.ok V.tab_nil) Tryz.func31 (by kernel_rfl) (fun x y h => (show V.evBody laws_eqSignedS.E laws_eqSignedS.con Tryz.f31 x = _ from laws_eqSignedS.eq x.1 x.2).trans (V.cfl (by kernel_rfl) h))
noncomputable abbrev laws_eqStringS.con : V.Con := ⟨(.cons (.sl (.cons .str .nil)) (.cons (.sl (.cons .str .nil)) .nil)), (.cons .bool .nil), fun (x : List ByteArray × List ByteArray) => laws_eqStringS x.1 x.2, [], [(false, 1), (false, 1)], [(false, 1)], [false], []⟩
noncomputable abbrev laws_eqStringS.E : V.Env := V.mkE V.tys [] [(8, [0, 1, 5], [])] [(6, 8)] [] [] []
noncomputable abbrev laws_eqStringS.kt (x0 : List ByteArray) (x1 : List ByteArray) : V.Kt Bool := V.ktOf laws_eqStringS.E laws_eqStringS.con Tryz.f168 ((x0, x1) : List ByteArray × List ByteArray)
noncomputable abbrev laws_eqStringS.s8 (x0 : List ByteArray) (x1 : List ByteArray) (v8_2 : Int) : V.St := ⟨[(0, .v false [.val (.sl (.cons .str .nil) x0)]), (1, .v false [.val (.sl (.cons .str .nil) x1)]), (5, .v false [.val (.int .i64 v8_2)])], []⟩
theorem laws_eqStringS.r8 (x0 : List ByteArray) (x1 : List ByteArray) (R : V.St → Option Bool) (v8_2 : Int) : V.loopF laws_eqStringS.E Tryz.f168.ntmps [1, 1, 0, 1, 0] [] (V.codeOf Tryz.f168) (laws_eqStringS.kt x0 x1) R (laws_eqStringS.s8 x0 x1 v8_2) = laws_eqStringS.g8 x0 x1 (fun v8_2 => R (laws_eqStringS.s8 x0 x1 v8_2)) v8_2 := by kernel_rfl
theorem laws_eqStringS.e8 (x0 : List ByteArray) (x1 : List ByteArray) : ∀ (n : Nat) (v8_2 : Int), V.loopN (V.loopF laws_eqStringS.E Tryz.f168.ntmps [1, 1, 0, 1, 0] [] (V.codeOf Tryz.f168) (laws_eqStringS.kt x0 x1)) n (laws_eqStringS.s8 x0 x1 v8_2) = laws_eqStringS.l8 x0 x1 n v8_2 := by
  intro n
  induction n with
  | zero => intros; rw [V.loopN_z]; rfl
  | succ n ih =>
    intro v8_2
    rw [V.loopN_s, laws_eqStringS.r8]
    simp only [ih]
    first | exact (laws_eqStringS.u8 ..).symm | rfl
theorem laws_eqStringS.v (x0 : List ByteArray) (x1 : List ByteArray) : V.evBody laws_eqStringS.E laws_eqStringS.con Tryz.f168 ((x0, x1) : List ByteArray × List ByteArray) = laws_eqStringS.b x0 x1 (fun v8_2 => V.loopN (V.loopF laws_eqStringS.E Tryz.f168.ntmps [1, 1, 0, 1, 0] [] (V.codeOf Tryz.f168) (laws_eqStringS.kt x0 x1)) V.KK (laws_eqStringS.s8 x0 x1 v8_2)) := by kernel_rfl
theorem laws_eqStringS.eq (x0 : List ByteArray) (x1 : List ByteArray) : V.evBody laws_eqStringS.E laws_eqStringS.con Tryz.f168 ((x0, x1) : List ByteArray × List ByteArray) = laws_eqStringS x0 x1 := by
  rw [laws_eqStringS.v]
  simp only [laws_eqStringS.e8]
  rfl
theorem laws_eqStringS.ok : V.Valid Tryz.prog 168 laws_eqStringS.con :=
  V.fo V.tab_nil Tryz.func168 (by kernel_rfl) (fun x y h => (show V.evBody laws_eqStringS.E laws_eqStringS.con Tryz.f168 x = _ from laws_eqStringS.eq x.1 x.2).trans (V.cfl (by kernel_rfl) h))
noncomputable abbrev laws_eqEntry.con : V.Con := ⟨(.cons .str (.cons (.int .i64) (.cons (.int .i64) (.cons (.sl (.cons .str .nil)) (.cons .str (.cons (.int .i64) (.cons (.int .i64) (.cons (.sl (.cons .str .nil)) .nil)))))))), (.cons .bool .nil), fun (x : ByteArray × Int × Int × List ByteArray × ByteArray × Int × Int × List ByteArray) => laws_eqEntry (x.1, x.2.1, x.2.2.1, x.2.2.2.1) x.2.2.2.2, [], [(true, 4), (true, 4)], [(false, 1)], [false], []⟩
noncomputable abbrev laws_eqEntry.E : V.Env := V.mkE V.tys [(168, laws_eqStringS.con)] [] [] [] [] []
theorem laws_eqEntry.eq (x0 : TEntry) (x1 : TEntry) : V.evBody laws_eqEntry.E laws_eqEntry.con Tryz.f72 ((x0.1, x0.2.1, x0.2.2.1, x0.2.2.2, x1.1, x1.2.1, x1.2.2.1, x1.2.2.2) : ByteArray × Int × Int × List ByteArray × ByteArray × Int × Int × List ByteArray) = laws_eqEntry x0 x1 := by kernel_rfl
theorem laws_eqEntry.ok : V.Valid Tryz.prog 72 laws_eqEntry.con :=
  V.fo (V.tab_cons laws_eqStringS.ok V.tab_nil) Tryz.func72 (by kernel_rfl) (fun x y h => (show V.evBody laws_eqEntry.E laws_eqEntry.con Tryz.f72 x = _ from laws_eqEntry.eq (x.1, x.2.1, x.2.2.1, x.2.2.2.1) x.2.2.2.2).trans (V.cfl (by kernel_rfl) h))
noncomputable abbrev laws_eqEntryS.con : V.Con := ⟨(.cons (.sl V.eEntry) (.cons (.sl V.eEntry) .nil)), (.cons .bool .nil), fun (x : List TEntry × List TEntry) => laws_eqEntryS x.1 x.2, [], [(false, 1), (false, 1)], [(false, 1)], [false], []⟩
noncomputable abbrev laws_eqEntryS.E : V.Env := V.mkE V.tys [(72, laws_eqEntry.con)] [(8, [0, 1, 5], [])] [(6, 8)] [] [] []
noncomputable abbrev laws_eqEntryS.kt (x0 : List TEntry) (x1 : List TEntry) : V.Kt Bool := V.ktOf laws_eqEntryS.E laws_eqEntryS.con Tryz.f22 ((x0, x1) : List TEntry × List TEntry)
noncomputable abbrev laws_eqEntryS.s8 (x0 : List TEntry) (x1 : List TEntry) (v8_2 : Int) : V.St := ⟨[(0, .v false [.val (.sl V.eEntry x0)]), (1, .v false [.val (.sl V.eEntry x1)]), (5, .v false [.val (.int .i64 v8_2)])], []⟩
theorem laws_eqEntryS.r8 (x0 : List TEntry) (x1 : List TEntry) (R : V.St → Option Bool) (v8_2 : Int) : V.loopF laws_eqEntryS.E Tryz.f22.ntmps [1, 1, 0, 1, 0] [] (V.codeOf Tryz.f22) (laws_eqEntryS.kt x0 x1) R (laws_eqEntryS.s8 x0 x1 v8_2) = laws_eqEntryS.g8 x0 x1 (fun v8_2 => R (laws_eqEntryS.s8 x0 x1 v8_2)) v8_2 := by kernel_rfl
theorem laws_eqEntryS.e8 (x0 : List TEntry) (x1 : List TEntry) : ∀ (n : Nat) (v8_2 : Int), V.loopN (V.loopF laws_eqEntryS.E Tryz.f22.ntmps [1, 1, 0, 1, 0] [] (V.codeOf Tryz.f22) (laws_eqEntryS.kt x0 x1)) n (laws_eqEntryS.s8 x0 x1 v8_2) = laws_eqEntryS.l8 x0 x1 n v8_2 := by
  intro n
  induction n with
  | zero => intros; rw [V.loopN_z]; rfl
  | succ n ih =>
    intro v8_2
    rw [V.loopN_s, laws_eqEntryS.r8]
    simp only [ih]
    first | exact (laws_eqEntryS.u8 ..).symm | rfl
theorem laws_eqEntryS.v (x0 : List TEntry) (x1 : List TEntry) : V.evBody laws_eqEntryS.E laws_eqEntryS.con Tryz.f22 ((x0, x1) : List TEntry × List TEntry) = laws_eqEntryS.b x0 x1 (fun v8_2 => V.loopN (V.loopF laws_eqEntryS.E Tryz.f22.ntmps [1, 1, 0, 1, 0] [] (V.codeOf Tryz.f22) (laws_eqEntryS.kt x0 x1)) V.KK (laws_eqEntryS.s8 x0 x1 v8_2)) := by kernel_rfl
theorem laws_eqEntryS.eq (x0 : List TEntry) (x1 : List TEntry) : V.evBody laws_eqEntryS.E laws_eqEntryS.con Tryz.f22 ((x0, x1) : List TEntry × List TEntry) = laws_eqEntryS x0 x1 := by
  rw [laws_eqEntryS.v]
  simp only [laws_eqEntryS.e8]
  rfl
theorem laws_eqEntryS.ok : V.Valid Tryz.prog 22 laws_eqEntryS.con :=
  V.fo (V.tab_cons laws_eqEntry.ok V.tab_nil) Tryz.func22 (by kernel_rfl) (fun x y h => (show V.evBody laws_eqEntryS.E laws_eqEntryS.con Tryz.f22 x = _ from laws_eqEntryS.eq x.1 x.2).trans (V.cfl (by kernel_rfl) h))
noncomputable abbrev laws_eqZone.con : V.Con := ⟨(.cons (.sl V.eSigned) (.cons (.sl V.eEntry) (.cons (.sl V.eSigned) (.cons (.sl V.eEntry) .nil)))), (.cons .bool .nil), fun (x : List TSigned × List TEntry × List TSigned × List TEntry) => laws_eqZone (x.1, x.2.1) x.2.2, [], [(true, 2), (true, 2)], [(false, 1)], [false], []⟩
noncomputable abbrev laws_eqZone.E : V.Env := V.mkE V.tys [(22, laws_eqEntryS.con), (31, laws_eqSignedS.con)] [] [] [] [] []
theorem laws_eqZone.eq (x0 : TZone) (x1 : TZone) : V.evBody laws_eqZone.E laws_eqZone.con Tryz.f47 ((x0.1, x0.2, x1.1, x1.2) : List TSigned × List TEntry × List TSigned × List TEntry) = laws_eqZone x0 x1 := by kernel_rfl
theorem laws_eqZone.ok : V.Valid Tryz.prog 47 laws_eqZone.con :=
  V.fo (V.tab_cons laws_eqEntryS.ok (V.tab_cons laws_eqSignedS.ok V.tab_nil)) Tryz.func47 (by kernel_rfl) (fun x y h => (show V.evBody laws_eqZone.E laws_eqZone.con Tryz.f47 x = _ from laws_eqZone.eq (x.1, x.2.1) x.2.2).trans (V.cfl (by kernel_rfl) h))
noncomputable abbrev laws_eqZoneS.con : V.Con := ⟨(.cons (.sl (.cons (.sl V.eSigned) (.cons (.sl V.eEntry) .nil))) (.cons (.sl (.cons (.sl V.eSigned) (.cons (.sl V.eEntry) .nil))) .nil)), (.cons .bool .nil), fun (x : List TZone × List TZone) => laws_eqZoneS x.1 x.2, [], [(false, 1), (false, 1)], [(false, 1)], [false], []⟩
noncomputable abbrev laws_eqZoneS.E : V.Env := V.mkE V.tys [(47, laws_eqZone.con)] [(8, [0, 1, 5], [])] [(6, 8)] [] [] []
noncomputable abbrev laws_eqZoneS.kt (x0 : List TZone) (x1 : List TZone) : V.Kt Bool := V.ktOf laws_eqZoneS.E laws_eqZoneS.con Tryz.f152 ((x0, x1) : List TZone × List TZone)
noncomputable abbrev laws_eqZoneS.s8 (x0 : List TZone) (x1 : List TZone) (v8_2 : Int) : V.St := ⟨[(0, .v false [.val (.sl (.cons (.sl V.eSigned) (.cons (.sl V.eEntry) .nil)) x0)]), (1, .v false [.val (.sl (.cons (.sl V.eSigned) (.cons (.sl V.eEntry) .nil)) x1)]), (5, .v false [.val (.int .i64 v8_2)])], []⟩
theorem laws_eqZoneS.r8 (x0 : List TZone) (x1 : List TZone) (R : V.St → Option Bool) (v8_2 : Int) : V.loopF laws_eqZoneS.E Tryz.f152.ntmps [1, 1, 0, 1, 0] [] (V.codeOf Tryz.f152) (laws_eqZoneS.kt x0 x1) R (laws_eqZoneS.s8 x0 x1 v8_2) = laws_eqZoneS.g8 x0 x1 (fun v8_2 => R (laws_eqZoneS.s8 x0 x1 v8_2)) v8_2 := by kernel_rfl
theorem laws_eqZoneS.e8 (x0 : List TZone) (x1 : List TZone) : ∀ (n : Nat) (v8_2 : Int), V.loopN (V.loopF laws_eqZoneS.E Tryz.f152.ntmps [1, 1, 0, 1, 0] [] (V.codeOf Tryz.f152) (laws_eqZoneS.kt x0 x1)) n (laws_eqZoneS.s8 x0 x1 v8_2) = laws_eqZoneS.l8 x0 x1 n v8_2 := by
  intro n
  induction n with
  | zero => intros; rw [V.loopN_z]; rfl
  | succ n ih =>
    intro v8_2
    rw [V.loopN_s, laws_eqZoneS.r8]
    simp only [ih]
    first | exact (laws_eqZoneS.u8 ..).symm | rfl
theorem laws_eqZoneS.v (x0 : List TZone) (x1 : List TZone) : V.evBody laws_eqZoneS.E laws_eqZoneS.con Tryz.f152 ((x0, x1) : List TZone × List TZone) = laws_eqZoneS.b x0 x1 (fun v8_2 => V.loopN (V.loopF laws_eqZoneS.E Tryz.f152.ntmps [1, 1, 0, 1, 0] [] (V.codeOf Tryz.f152) (laws_eqZoneS.kt x0 x1)) V.KK (laws_eqZoneS.s8 x0 x1 v8_2)) := by kernel_rfl
theorem laws_eqZoneS.eq (x0 : List TZone) (x1 : List TZone) : V.evBody laws_eqZoneS.E laws_eqZoneS.con Tryz.f152 ((x0, x1) : List TZone × List TZone) = laws_eqZoneS x0 x1 := by
  rw [laws_eqZoneS.v]
  simp only [laws_eqZoneS.e8]
  rfl
theorem laws_eqZoneS.ok : V.Valid Tryz.prog 152 laws_eqZoneS.con :=
  V.fo (V.tab_cons laws_eqZone.ok V.tab_nil) Tryz.func152 (by kernel_rfl) (fun x y h => (show V.evBody laws_eqZoneS.E laws_eqZoneS.con Tryz.f152 x = _ from laws_eqZoneS.eq x.1 x.2).trans (V.cfl (by kernel_rfl) h))
noncomputable abbrev laws_eqServer.con : V.Con := ⟨(.cons (.sl (.cons (.sl V.eSigned) (.cons (.sl V.eEntry) .nil))) (.cons (.int .i64) (.cons (.sl (.cons (.sl V.eSigned) (.cons (.sl V.eEntry) .nil))) (.cons (.int .i64) .nil)))), (.cons .bool .nil), fun (x : List TZone × Int × List TZone × Int) => laws_eqServer (x.1, x.2.1) x.2.2, [], [(true, 2), (true, 2)], [(false, 1)], [false], []⟩
noncomputable abbrev laws_eqServer.E : V.Env := V.mkE V.tys [(152, laws_eqZoneS.con)] [] [] [] [] []
theorem laws_eqServer.eq (x0 : TServer) (x1 : TServer) : V.evBody laws_eqServer.E laws_eqServer.con Tryz.f62 ((x0.1, x0.2, x1.1, x1.2) : List TZone × Int × List TZone × Int) = laws_eqServer x0 x1 := by kernel_rfl
theorem laws_eqServer.ok : V.Valid Tryz.prog 62 laws_eqServer.con :=
  V.fo (V.tab_cons laws_eqZoneS.ok V.tab_nil) Tryz.func62 (by kernel_rfl) (fun x y h => (show V.evBody laws_eqServer.E laws_eqServer.con Tryz.f62 x = _ from laws_eqServer.eq (x.1, x.2.1) x.2.2).trans (V.cfl (by kernel_rfl) h))
noncomputable abbrev laws_FnExactServedZone.con : V.Con := ⟨(.cons (.sl (.cons (.sl V.eSigned) (.cons (.sl V.eEntry) .nil))) (.cons (.int .i64) (.cons (.int .i64) .nil))), (.cons .bool .nil), fun (x : List TZone × Int × Int) => laws_FnExactServedZone (x.1, x.2.1) x.2.2, [], [(true, 2), (false, 1)], [(false, 1)], [false], []⟩
noncomputable abbrev laws_FnExactServedZone.E : V.Env := V.mkE V.tys [(58, laws_szServer.con), (60, laws_toServer.con), (62, laws_eqServer.con), (63, spec_ServedZone.con), (64, impl_ServedZone.con)] [] [(10, 3)] [] [] []
theorem laws_FnExactServedZone.eq (x0 : TServer) (x1 : Int) : V.evBody laws_FnExactServedZone.E laws_FnExactServedZone.con Tryz.f10 ((x0.1, x0.2, x1) : List TZone × Int × Int) = laws_FnExactServedZone x0 x1 := by kernel_rfl
theorem laws_FnExactServedZone.ok : V.Valid Tryz.prog 10 laws_FnExactServedZone.con :=
  V.fo (V.tab_cons laws_szServer.ok (V.tab_cons laws_toServer.ok (V.tab_cons laws_eqServer.ok (V.tab_cons spec_ServedZone.ok (V.tab_cons impl_ServedZone.ok V.tab_nil))))) Tryz.func10 (by kernel_rfl) (fun x y h => (show V.evBody laws_FnExactServedZone.E laws_FnExactServedZone.con Tryz.f10 x = _ from laws_FnExactServedZone.eq (x.1, x.2.1) x.2.2).trans (V.cfl (by kernel_rfl) h))
end Go.Proofs.YtpioofmdambjoaaGreat
