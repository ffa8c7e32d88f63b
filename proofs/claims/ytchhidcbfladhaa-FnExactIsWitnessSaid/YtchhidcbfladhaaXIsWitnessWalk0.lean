/- That the functions compute it. -/
import Derived.Test.YtchhidcbfladhaaXIsWitnessPure0
import Derived.Test.YtchhidcbfladhaaProg
namespace Go.Proofs.Ytchhidcbfladhaa
set_option linter.unusedVariables false
set_option maxRecDepth 100000
namespace V
abbrev tys : List (Nat × TI) := [(3, ⟨.int .i64, false, [.val (.int .i64 (0 : Int))], 8, [], (.cons (.int .i64) .nil)⟩),
  (4, ⟨.bool, false, [.val (.bool false)], 1, [], (.cons .bool .nil)⟩),
  (25, ⟨.st, true, [.val (.int .i64 (0 : Int)), .val (.int .i64 (0 : Int)), .val (.int .i64 (0 : Int))], 24, [(0, 1, false), (1, 1, false), (2, 1, false)], (.cons (.int .i64) (.cons (.int .i64) (.cons (.int .i64) .nil)))⟩),
  (28, ⟨.st, true, [.val (.int .i64 (0 : Int)), .val (.int .i64 (0 : Int)), .val (.int .i64 (0 : Int))], 24, [(0, 1, false), (1, 1, false), (2, 1, false)], (.cons (.int .i64) (.cons (.int .i64) (.cons (.int .i64) .nil)))⟩),
  (33, ⟨.sl 25, false, [.nil0], 24, [], (.cons (.sl (.cons (.int .i64) (.cons (.int .i64) (.cons (.int .i64) .nil)))) .nil)⟩),
  (35, ⟨.st, false, [.val (.int .i64 (0 : Int)), .nil0], 32, [(0, 1, false), (1, 1, false)], (.cons (.int .i64) (.cons (.sl (.cons (.int .i64) (.cons (.int .i64) (.cons (.int .i64) .nil)))) .nil))⟩),
  (38, ⟨.sl 28, false, [.nil0], 24, [], (.cons (.sl (.cons (.int .i64) (.cons (.int .i64) (.cons (.int .i64) .nil)))) .nil)⟩),
  (40, ⟨.st, false, [.val (.int .i64 (0 : Int)), .nil0], 32, [(0, 1, false), (1, 1, false)], (.cons (.int .i64) (.cons (.sl (.cons (.int .i64) (.cons (.int .i64) (.cons (.int .i64) .nil)))) .nil))⟩)]
theorem tysOk : tyAll Try.prog tys = true := by kernel_rfl
theorem mixed : Try.prog.follows .mixedOrders = true := by kernel_rfl
end V
noncomputable abbrev laws_szMarkS.con : V.Con := ⟨(.cons (.sl (.cons (.int .i64) (.cons (.int .i64) (.cons (.int .i64) .nil)))) (.cons (.int .i64) .nil)), (.cons (.int .i64) .nil), fun (x : List TMark × Int) => laws_szMarkS x.1 x.2, [], [(false, 1), (false, 1)], [(false, 1)], [false], []⟩
noncomputable abbrev laws_szMarkS.E : V.Env := V.mkE V.tys [] [] [] [] []
noncomputable abbrev laws_szMarkS.kt (x0 : List TMark) (x1 : Int) : V.Kt Int := V.ktOf laws_szMarkS.E laws_szMarkS.con Try.f34 ((x0, x1) : List TMark × Int)
theorem laws_szMarkS.eq (x0 : List TMark) (x1 : Int) : V.evBody laws_szMarkS.E laws_szMarkS.con Try.f34 ((x0, x1) : List TMark × Int) = laws_szMarkS x0 x1 := by kernel_rfl
theorem laws_szMarkS.ok : V.Valid Try.prog 34 laws_szMarkS.con :=
  V.body_ok (V.env_ok V.mixed V.tysOk V.tab_nil) Try.func34 (by kernel_rfl) (by kernel_rfl) (by kernel_rfl) (fun x y h => (show V.evBody laws_szMarkS.E laws_szMarkS.con Try.f34 x = _ from laws_szMarkS.eq x.1 x.2).trans h)
noncomputable abbrev laws_szWitness.con : V.Con := ⟨(.cons (.int .i64) (.cons (.sl (.cons (.int .i64) (.cons (.int .i64) (.cons (.int .i64) .nil)))) (.cons (.int .i64) .nil))), (.cons (.int .i64) .nil), fun (x : Int × List TMark × Int) => laws_szWitness (x.1, x.2.1) x.2.2, [], [(true, 2), (false, 1)], [(false, 1)], [false], []⟩
noncomputable abbrev laws_szWitness.E : V.Env := V.mkE V.tys [(34, laws_szMarkS.con)] [] [] [] []
noncomputable abbrev laws_szWitness.kt (x0 : TWitness) (x1 : Int) : V.Kt Int := V.ktOf laws_szWitness.E laws_szWitness.con Try.f19 ((x0.1, x0.2, x1) : Int × List TMark × Int)
theorem laws_szWitness.eq (x0 : TWitness) (x1 : Int) : V.evBody laws_szWitness.E laws_szWitness.con Try.f19 ((x0.1, x0.2, x1) : Int × List TMark × Int) = laws_szWitness x0 x1 := by kernel_rfl
theorem laws_szWitness.ok : V.Valid Try.prog 19 laws_szWitness.con :=
  V.body_ok (V.env_ok V.mixed V.tysOk (V.tab_cons laws_szMarkS.ok V.tab_nil)) Try.func19 (by kernel_rfl) (by kernel_rfl) (by kernel_rfl) (fun x y h => (show V.evBody laws_szWitness.E laws_szWitness.con Try.f19 x = _ from laws_szWitness.eq (x.1, x.2.1) x.2.2).trans h)
noncomputable abbrev laws_toMark.con : V.Con := ⟨(.cons (.int .i64) (.cons (.int .i64) (.cons (.int .i64) .nil))), (.cons (.int .i64) (.cons (.int .i64) (.cons (.int .i64) .nil))), fun (x : Int × Int × Int) => laws_toMark x, [], [(true, 3)], [(true, 3)], [false, false, false], []⟩
noncomputable abbrev laws_toMark.E : V.Env := V.mkE V.tys [] [] [] [] []
noncomputable abbrev laws_toMark.kt (x0 : TMark) : V.Kt TMark := V.ktOf laws_toMark.E laws_toMark.con Try.f14 ((x0.1, x0.2.1, x0.2.2) : Int × Int × Int)
theorem laws_toMark.eq (x0 : TMark) : V.evBody laws_toMark.E laws_toMark.con Try.f14 ((x0.1, x0.2.1, x0.2.2) : Int × Int × Int) = laws_toMark x0 := by kernel_rfl
theorem laws_toMark.ok : V.Valid Try.prog 14 laws_toMark.con :=
  V.body_ok (V.env_ok V.mixed V.tysOk V.tab_nil) Try.func14 (by kernel_rfl) (by kernel_rfl) (by kernel_rfl) (fun x y h => (show V.evBody laws_toMark.E laws_toMark.con Try.f14 x = _ from laws_toMark.eq x).trans h)
noncomputable abbrev laws_toMarkS.con : V.Con := ⟨(.cons (.sl (.cons (.int .i64) (.cons (.int .i64) (.cons (.int .i64) .nil)))) .nil), (.cons (.sl (.cons (.int .i64) (.cons (.int .i64) (.cons (.int .i64) .nil)))) .nil), fun (x : List TMark) => laws_toMarkS x, [], [(false, 1)], [(false, 1)], [true], []⟩
noncomputable abbrev laws_toMarkS.E : V.Env := V.mkE V.tys [(14, laws_toMark.con)] [(6, [0, 3, 4], [])] [] [] []
noncomputable abbrev laws_toMarkS.kt (x0 : List TMark) : V.Kt (List TMark) := V.ktOf laws_toMarkS.E laws_toMarkS.con Try.f35 ((x0) : List TMark)
noncomputable abbrev laws_toMarkS.s6 (x0 : List TMark) (v6_1 : Int) (v6_2 : List TMark) : V.St := ⟨[(0, .v false [.val (.sl (.cons (.int .i64) (.cons (.int .i64) (.cons (.int .i64) .nil))) x0)]), (3, .v false [.ref 64000038400192]), (4, .v false [.val (.int .i64 v6_1)])], [(64000038400192, .row (.cons (.int .i64) (.cons (.int .i64) (.cons (.int .i64) .nil))) true v6_2)]⟩
theorem laws_toMarkS.r6 (x0 : List TMark) (R : V.St → Option (List TMark)) (v6_1 : Int) (v6_2 : List TMark) : V.loopF laws_toMarkS.E Try.f35.ntmps [1, 1, 0, 1, 0] [] (V.codeOf Try.f35) (laws_toMarkS.kt x0) R (laws_toMarkS.s6 x0 v6_1 v6_2) = laws_toMarkS.g6 x0 (fun v6_1 v6_2 => R (laws_toMarkS.s6 x0 v6_1 v6_2)) v6_1 v6_2 := by kernel_rfl
theorem laws_toMarkS.e6 (x0 : List TMark) : ∀ (n : Nat) (v6_1 : Int) (v6_2 : List TMark), V.loopN (V.loopF laws_toMarkS.E Try.f35.ntmps [1, 1, 0, 1, 0] [] (V.codeOf Try.f35) (laws_toMarkS.kt x0)) n (laws_toMarkS.s6 x0 v6_1 v6_2) = laws_toMarkS.l6 x0 n v6_1 v6_2 := by
  intro n
  induction n with
  | zero => intros; rfl
  | succ n ih =>
    intro v6_1 v6_2
    show V.loopF laws_toMarkS.E Try.f35.ntmps [1, 1, 0, 1, 0] [] (V.codeOf Try.f35) (laws_toMarkS.kt x0) (V.loopN (V.loopF laws_toMarkS.E Try.f35.ntmps [1, 1, 0, 1, 0] [] (V.codeOf Try.f35) (laws_toMarkS.kt x0)) n) (laws_toMarkS.s6 x0 v6_1 v6_2) = _
    rw [laws_toMarkS.r6]
    simp only [ih]
    rfl
theorem laws_toMarkS.v (x0 : List TMark) : V.evBody laws_toMarkS.E laws_toMarkS.con Try.f35 ((x0) : List TMark) = laws_toMarkS.b x0 (fun v6_1 v6_2 => V.loopN (V.loopF laws_toMarkS.E Try.f35.ntmps [1, 1, 0, 1, 0] [] (V.codeOf Try.f35) (laws_toMarkS.kt x0)) V.KK (laws_toMarkS.s6 x0 v6_1 v6_2)) := by kernel_rfl
theorem laws_toMarkS.eq (x0 : List TMark) : V.evBody laws_toMarkS.E laws_toMarkS.con Try.f35 ((x0) : List TMark) = laws_toMarkS x0 := by
  rw [laws_toMarkS.v]
  simp only [laws_toMarkS.e6]
  rfl
theorem laws_toMarkS.ok : V.Valid Try.prog 35 laws_toMarkS.con :=
  V.body_ok (V.env_ok V.mixed V.tysOk (V.tab_cons laws_toMark.ok V.tab_nil)) Try.func35 (by kernel_rfl) (by kernel_rfl) (by kernel_rfl) (fun x y h => (show V.evBody laws_toMarkS.E laws_toMarkS.con Try.f35 x = _ from laws_toMarkS.eq x).trans h)
noncomputable abbrev laws_toWitness.con : V.Con := ⟨(.cons (.int .i64) (.cons (.sl (.cons (.int .i64) (.cons (.int .i64) (.cons (.int .i64) .nil)))) .nil)), (.cons (.int .i64) (.cons (.sl (.cons (.int .i64) (.cons (.int .i64) (.cons (.int .i64) .nil)))) .nil)), fun (x : Int × List TMark) => laws_toWitness x, [], [(true, 2)], [(true, 2)], [false, true], []⟩
noncomputable abbrev laws_toWitness.E : V.Env := V.mkE V.tys [(35, laws_toMarkS.con)] [] [] [] []
noncomputable abbrev laws_toWitness.kt (x0 : TWitness) : V.Kt TWitness := V.ktOf laws_toWitness.E laws_toWitness.con Try.f21 ((x0.1, x0.2) : Int × List TMark)
theorem laws_toWitness.eq (x0 : TWitness) : V.evBody laws_toWitness.E laws_toWitness.con Try.f21 ((x0.1, x0.2) : Int × List TMark) = laws_toWitness x0 := by kernel_rfl
theorem laws_toWitness.ok : V.Valid Try.prog 21 laws_toWitness.con :=
  V.body_ok (V.env_ok V.mixed V.tysOk (V.tab_cons laws_toMarkS.ok V.tab_nil)) Try.func21 (by kernel_rfl) (by kernel_rfl) (by kernel_rfl) (fun x y h => (show V.evBody laws_toWitness.E laws_toWitness.con Try.f21 x = _ from laws_toWitness.eq x).trans h)
noncomputable abbrev spec_l1In.con : V.Con := ⟨(.cons (.int .i64) (.cons (.int .i64) (.cons (.int .i64) .nil))), (.cons .bool .nil), fun (x : Int × Int × Int) => spec_l1In x.1 x.2.1 x.2.2, [], [(false, 1), (false, 1), (false, 1)], [(false, 1)], [false], []⟩
noncomputable abbrev spec_l1In.E : V.Env := V.mkE V.tys [] [] [] [] []
noncomputable abbrev spec_l1In.kt (x0 : Int) (x1 : Int) (x2 : Int) : V.Kt Bool := V.ktOf spec_l1In.E spec_l1In.con Try.f32 ((x0, x1, x2) : Int × Int × Int)
theorem spec_l1In.eq (x0 : Int) (x1 : Int) (x2 : Int) : V.evBody spec_l1In.E spec_l1In.con Try.f32 ((x0, x1, x2) : Int × Int × Int) = spec_l1In x0 x1 x2 := by kernel_rfl
theorem spec_l1In.ok : V.Valid Try.prog 32 spec_l1In.con :=
  V.body_ok (V.env_ok V.mixed V.tysOk V.tab_nil) Try.func32 (by kernel_rfl) (by kernel_rfl) (by kernel_rfl) (fun x y h => (show V.evBody spec_l1In.E spec_l1In.con Try.f32 x = _ from spec_l1In.eq x.1 x.2.1 x.2.2).trans h)
noncomputable abbrev spec_l19Find.con : V.Con := ⟨(.cons (.int .i64) (.cons (.sl (.cons (.int .i64) (.cons (.int .i64) (.cons (.int .i64) .nil)))) (.cons (.int .i64) (.cons (.int .i64) .nil)))), (.cons (.int .i64) .nil), fun (x : Int × List TMark × Int × Int) => spec_l19Find (x.1, x.2.1) x.2.2.1 x.2.2.2, [], [(true, 2), (false, 1), (false, 1)], [(false, 1)], [false], []⟩
noncomputable abbrev spec_l19Find.E : V.Env := V.mkE V.tys [] [(4, [1, 2, 3, 7], [])] [] [] []
noncomputable abbrev spec_l19Find.kt (x0 : TWitness) (x1 : Int) (x2 : Int) : V.Kt Int := V.ktOf spec_l19Find.E spec_l19Find.con Try.f38 ((x0.1, x0.2, x1, x2) : Int × List TMark × Int × Int)
noncomputable abbrev spec_l19Find.s4 (x0 : TWitness) (x1 : Int) (x2 : Int) (v4_2 : Int) : V.St := ⟨[(1, .v false [.val (.int .i64 x1)]), (2, .v false [.val (.int .i64 x2)]), (3, .v false [.ptr 64000 0]), (7, .v false [.val (.int .i64 v4_2)])], [(64000, .box [.val (.int .i64 x0.1), .val (.sl (.cons (.int .i64) (.cons (.int .i64) (.cons (.int .i64) .nil))) x0.2)])]⟩
theorem spec_l19Find.r4 (x0 : TWitness) (x1 : Int) (x2 : Int) (R : V.St → Option Int) (v4_2 : Int) : V.loopF spec_l19Find.E Try.f38.ntmps [1, 0, 1, 0] [] (V.codeOf Try.f38) (spec_l19Find.kt x0 x1 x2) R (spec_l19Find.s4 x0 x1 x2 v4_2) = spec_l19Find.g4 x0 x1 x2 (fun v4_2 => R (spec_l19Find.s4 x0 x1 x2 v4_2)) v4_2 := by kernel_rfl
theorem spec_l19Find.e4 (x0 : TWitness) (x1 : Int) (x2 : Int) : ∀ (n : Nat) (v4_2 : Int), V.loopN (V.loopF spec_l19Find.E Try.f38.ntmps [1, 0, 1, 0] [] (V.codeOf Try.f38) (spec_l19Find.kt x0 x1 x2)) n (spec_l19Find.s4 x0 x1 x2 v4_2) = spec_l19Find.l4 x0 x1 x2 n v4_2 := by
  intro n
  induction n with
  | zero => intros; rfl
  | succ n ih =>
    intro v4_2
    show V.loopF spec_l19Find.E Try.f38.ntmps [1, 0, 1, 0] [] (V.codeOf Try.f38) (spec_l19Find.kt x0 x1 x2) (V.loopN (V.loopF spec_l19Find.E Try.f38.ntmps [1, 0, 1, 0] [] (V.codeOf Try.f38) (spec_l19Find.kt x0 x1 x2)) n) (spec_l19Find.s4 x0 x1 x2 v4_2) = _
    rw [spec_l19Find.r4]
    simp only [ih]
    rfl
theorem spec_l19Find.v (x0 : TWitness) (x1 : Int) (x2 : Int) : V.evBody spec_l19Find.E spec_l19Find.con Try.f38 ((x0.1, x0.2, x1, x2) : Int × List TMark × Int × Int) = spec_l19Find.b x0 x1 x2 (fun v4_2 => V.loopN (V.loopF spec_l19Find.E Try.f38.ntmps [1, 0, 1, 0] [] (V.codeOf Try.f38) (spec_l19Find.kt x0 x1 x2)) V.KK (spec_l19Find.s4 x0 x1 x2 v4_2)) := by kernel_rfl
theorem spec_l19Find.eq (x0 : TWitness) (x1 : Int) (x2 : Int) : V.evBody spec_l19Find.E spec_l19Find.con Try.f38 ((x0.1, x0.2, x1, x2) : Int × List TMark × Int × Int) = spec_l19Find x0 x1 x2 := by
  rw [spec_l19Find.v]
  simp only [spec_l19Find.e4]
  rfl
theorem spec_l19Find.ok : V.Valid Try.prog 38 spec_l19Find.con :=
  V.body_ok (V.env_ok V.mixed V.tysOk V.tab_nil) Try.func38 (by kernel_rfl) (by kernel_rfl) (by kernel_rfl) (fun x y h => (show V.evBody spec_l19Find.E spec_l19Find.con Try.f38 x = _ from spec_l19Find.eq (x.1, x.2.1) x.2.2.1 x.2.2.2).trans h)
noncomputable abbrev spec_IsWitness.con : V.Con := ⟨(.cons (.int .i64) (.cons (.sl (.cons (.int .i64) (.cons (.int .i64) (.cons (.int .i64) .nil)))) .nil)), (.cons .bool .nil), fun (x : Int × List TMark) => spec_IsWitness x, [], [(true, 2)], [(false, 1)], [false], []⟩
noncomputable abbrev spec_IsWitness.E : V.Env := V.mkE V.tys [(32, spec_l1In.con), (38, spec_l19Find.con)] [(4, [1, 3], [])] [] [] []
noncomputable abbrev spec_IsWitness.kt (x0 : TWitness) : V.Kt Bool := V.ktOf spec_IsWitness.E spec_IsWitness.con Try.f24 ((x0.1, x0.2) : Int × List TMark)
noncomputable abbrev spec_IsWitness.s4 (x0 : TWitness) (v4_0 : Int) : V.St := ⟨[(1, .v false [.ptr 64000 0]), (3, .v false [.val (.int .i64 v4_0)])], [(64000, .box [.val (.int .i64 x0.1), .val (.sl (.cons (.int .i64) (.cons (.int .i64) (.cons (.int .i64) .nil))) x0.2)])]⟩
theorem spec_IsWitness.r4 (x0 : TWitness) (R : V.St → Option Bool) (v4_0 : Int) : V.loopF spec_IsWitness.E Try.f24.ntmps [1, 0, 1, 0] [] (V.codeOf Try.f24) (spec_IsWitness.kt x0) R (spec_IsWitness.s4 x0 v4_0) = spec_IsWitness.g4 x0 (fun v4_0 => R (spec_IsWitness.s4 x0 v4_0)) v4_0 := by kernel_rfl
theorem spec_IsWitness.e4 (x0 : TWitness) : ∀ (n : Nat) (v4_0 : Int), V.loopN (V.loopF spec_IsWitness.E Try.f24.ntmps [1, 0, 1, 0] [] (V.codeOf Try.f24) (spec_IsWitness.kt x0)) n (spec_IsWitness.s4 x0 v4_0) = spec_IsWitness.l4 x0 n v4_0 := by
  intro n
  induction n with
  | zero => intros; rfl
  | succ n ih =>
    intro v4_0
    show V.loopF spec_IsWitness.E Try.f24.ntmps [1, 0, 1, 0] [] (V.codeOf Try.f24) (spec_IsWitness.kt x0) (V.loopN (V.loopF spec_IsWitness.E Try.f24.ntmps [1, 0, 1, 0] [] (V.codeOf Try.f24) (spec_IsWitness.kt x0)) n) (spec_IsWitness.s4 x0 v4_0) = _
    rw [spec_IsWitness.r4]
    simp only [ih]
    rfl
theorem spec_IsWitness.v (x0 : TWitness) : V.evBody spec_IsWitness.E spec_IsWitness.con Try.f24 ((x0.1, x0.2) : Int × List TMark) = spec_IsWitness.b x0 (fun v4_0 => V.loopN (V.loopF spec_IsWitness.E Try.f24.ntmps [1, 0, 1, 0] [] (V.codeOf Try.f24) (spec_IsWitness.kt x0)) V.KK (spec_IsWitness.s4 x0 v4_0)) := by kernel_rfl
theorem spec_IsWitness.eq (x0 : TWitness) : V.evBody spec_IsWitness.E spec_IsWitness.con Try.f24 ((x0.1, x0.2) : Int × List TMark) = spec_IsWitness x0 := by
  rw [spec_IsWitness.v]
  simp only [spec_IsWitness.e4]
  rfl
theorem spec_IsWitness.ok : V.Valid Try.prog 24 spec_IsWitness.con :=
  V.body_ok (V.env_ok V.mixed V.tysOk (V.tab_cons spec_l1In.ok (V.tab_cons spec_l19Find.ok V.tab_nil))) Try.func24 (by kernel_rfl) (by kernel_rfl) (by kernel_rfl) (fun x y h => (show V.evBody spec_IsWitness.E spec_IsWitness.con Try.f24 x = _ from spec_IsWitness.eq x).trans h)
noncomputable abbrev impl_InRange.con : V.Con := ⟨(.cons (.int .i64) (.cons (.int .i64) (.cons (.int .i64) .nil))), (.cons .bool .nil), fun (x : Int × Int × Int) => impl_InRange x.1 x.2.1 x.2.2, [], [(false, 1), (false, 1), (false, 1)], [(false, 1)], [false], []⟩
noncomputable abbrev impl_InRange.E : V.Env := V.mkE V.tys [] [] [] [] []
noncomputable abbrev impl_InRange.kt (x0 : Int) (x1 : Int) (x2 : Int) : V.Kt Bool := V.ktOf impl_InRange.E impl_InRange.con Try.f40 ((x0, x1, x2) : Int × Int × Int)
theorem impl_InRange.eq (x0 : Int) (x1 : Int) (x2 : Int) : V.evBody impl_InRange.E impl_InRange.con Try.f40 ((x0, x1, x2) : Int × Int × Int) = impl_InRange x0 x1 x2 := by kernel_rfl
theorem impl_InRange.ok : V.Valid Try.prog 40 impl_InRange.con :=
  V.body_ok (V.env_ok V.mixed V.tysOk V.tab_nil) Try.func40 (by kernel_rfl) (by kernel_rfl) (by kernel_rfl) (fun x y h => (show V.evBody impl_InRange.E impl_InRange.con Try.f40 x = _ from impl_InRange.eq x.1 x.2.1 x.2.2).trans h)
noncomputable abbrev impl_isDigest.con : V.Con := ⟨(.cons (.int .i64) .nil), (.cons .bool .nil), fun (x : Int) => impl_isDigest x, [], [(false, 1)], [(false, 1)], [false], []⟩
noncomputable abbrev impl_isDigest.E : V.Env := V.mkE V.tys [(40, impl_InRange.con)] [] [] [] []
noncomputable abbrev impl_isDigest.kt (x0 : Int) : V.Kt Bool := V.ktOf impl_isDigest.E impl_isDigest.con Try.f39 ((x0) : Int)
theorem impl_isDigest.eq (x0 : Int) : V.evBody impl_isDigest.E impl_isDigest.con Try.f39 ((x0) : Int) = impl_isDigest x0 := by kernel_rfl
theorem impl_isDigest.ok : V.Valid Try.prog 39 impl_isDigest.con :=
  V.body_ok (V.env_ok V.mixed V.tysOk (V.tab_cons impl_InRange.ok V.tab_nil)) Try.func39 (by kernel_rfl) (by kernel_rfl) (by kernel_rfl) (fun x y h => (show V.evBody impl_isDigest.E impl_isDigest.con Try.f39 x = _ from impl_isDigest.eq x).trans h)
noncomputable abbrev impl_Mark_isOf.con : V.Con := ⟨(.cons (.int .i64) (.cons (.int .i64) (.cons (.int .i64) (.cons (.int .i64) (.cons (.int .i64) (.cons (.int .i64) .nil)))))), (.cons .bool .nil), fun (x : Int × Int × Int × Int × Int × Int) => impl_Mark_isOf (x.1, x.2.1, x.2.2.1) x.2.2.2, [], [(true, 3), (true, 3)], [(false, 1)], [false], []⟩
noncomputable abbrev impl_Mark_isOf.E : V.Env := V.mkE V.tys [] [] [] [] []
noncomputable abbrev impl_Mark_isOf.kt (x0 : TMark) (x1 : TMark) : V.Kt Bool := V.ktOf impl_Mark_isOf.E impl_Mark_isOf.con Try.f42 ((x0.1, x0.2.1, x0.2.2, x1.1, x1.2.1, x1.2.2) : Int × Int × Int × Int × Int × Int)
theorem impl_Mark_isOf.eq (x0 : TMark) (x1 : TMark) : V.evBody impl_Mark_isOf.E impl_Mark_isOf.con Try.f42 ((x0.1, x0.2.1, x0.2.2, x1.1, x1.2.1, x1.2.2) : Int × Int × Int × Int × Int × Int) = impl_Mark_isOf x0 x1 := by kernel_rfl
theorem impl_Mark_isOf.ok : V.Valid Try.prog 42 impl_Mark_isOf.con :=
  V.body_ok (V.env_ok V.mixed V.tysOk V.tab_nil) Try.func42 (by kernel_rfl) (by kernel_rfl) (by kernel_rfl) (fun x y h => (show V.evBody impl_Mark_isOf.E impl_Mark_isOf.con Try.f42 x = _ from impl_Mark_isOf.eq (x.1, x.2.1, x.2.2.1) x.2.2.2).trans h)
noncomputable abbrev slices_IndexFunc_impl_Mark.con : V.Con := ⟨(.cons (.sl (.cons (.int .i64) (.cons (.int .i64) (.cons (.int .i64) .nil)))) (.cons (.fn 42 true (.cons (.int .i64) (.cons (.int .i64) (.cons (.int .i64) .nil))) .nil) .nil)), (.cons (.int .i64) .nil), fun (x : List TMark × (TMark) × (Unit)) => slices_IndexFunc_impl_Mark x.1 x.2, [], [(false, 1), (false, 1)], [(false, 1)], [false], []⟩
noncomputable abbrev slices_IndexFunc_impl_Mark.E : V.Env := V.mkE V.tys [(42, impl_Mark_isOf.con)] [(4, [0, 1, 7, 8], [])] [] [] []
noncomputable abbrev slices_IndexFunc_impl_Mark.kt (x0 : List TMark) (x1 : (TMark) × (Unit)) : V.Kt Int := V.ktOf slices_IndexFunc_impl_Mark.E slices_IndexFunc_impl_Mark.con Try.f49 ((x0, x1) : List TMark × (TMark) × (Unit))
noncomputable abbrev slices_IndexFunc_impl_Mark.s4 (x0 : List TMark) (x1 : (TMark) × (Unit)) (v4_2 : Int) (v4_3 : Int) : V.St := ⟨[(0, .v false [.val (.sl (.cons (.int .i64) (.cons (.int .i64) (.cons (.int .i64) .nil))) x0)]), (1, .v false [.val (.fn 42 true (.cons (.int .i64) (.cons (.int .i64) (.cons (.int .i64) .nil))) .nil x1.1 x1.2)]), (7, .v false [.val (.int .i64 v4_2)]), (8, .v false [.val (.int .i64 v4_3)])], []⟩
theorem slices_IndexFunc_impl_Mark.r4 (x0 : List TMark) (x1 : (TMark) × (Unit)) (R : V.St → Option Int) (v4_2 : Int) (v4_3 : Int) : V.loopF slices_IndexFunc_impl_Mark.E Try.f49.ntmps [1, 0, 1, 0] [] (V.codeOf Try.f49) (slices_IndexFunc_impl_Mark.kt x0 x1) R (slices_IndexFunc_impl_Mark.s4 x0 x1 v4_2 v4_3) = slices_IndexFunc_impl_Mark.g4 x0 x1 (fun v4_2 v4_3 => R (slices_IndexFunc_impl_Mark.s4 x0 x1 v4_2 v4_3)) v4_2 v4_3 := by kernel_rfl
theorem slices_IndexFunc_impl_Mark.e4 (x0 : List TMark) (x1 : (TMark) × (Unit)) : ∀ (n : Nat) (v4_2 : Int) (v4_3 : Int), V.loopN (V.loopF slices_IndexFunc_impl_Mark.E Try.f49.ntmps [1, 0, 1, 0] [] (V.codeOf Try.f49) (slices_IndexFunc_impl_Mark.kt x0 x1)) n (slices_IndexFunc_impl_Mark.s4 x0 x1 v4_2 v4_3) = slices_IndexFunc_impl_Mark.l4 x0 x1 n v4_2 v4_3 := by
  intro n
  induction n with
  | zero => intros; rfl
  | succ n ih =>
    intro v4_2 v4_3
    show V.loopF slices_IndexFunc_impl_Mark.E Try.f49.ntmps [1, 0, 1, 0] [] (V.codeOf Try.f49) (slices_IndexFunc_impl_Mark.kt x0 x1) (V.loopN (V.loopF slices_IndexFunc_impl_Mark.E Try.f49.ntmps [1, 0, 1, 0] [] (V.codeOf Try.f49) (slices_IndexFunc_impl_Mark.kt x0 x1)) n) (slices_IndexFunc_impl_Mark.s4 x0 x1 v4_2 v4_3) = _
    rw [slices_IndexFunc_impl_Mark.r4]
    simp only [ih]
    rfl
theorem slices_IndexFunc_impl_Mark.v (x0 : List TMark) (x1 : (TMark) × (Unit)) : V.evBody slices_IndexFunc_impl_Mark.E slices_IndexFunc_impl_Mark.con Try.f49 ((x0, x1) : List TMark × (TMark) × (Unit)) = slices_IndexFunc_impl_Mark.b x0 x1 (fun v4_2 v4_3 => V.loopN (V.loopF slices_IndexFunc_impl_Mark.E Try.f49.ntmps [1, 0, 1, 0] [] (V.codeOf Try.f49) (slices_IndexFunc_impl_Mark.kt x0 x1)) V.KK (slices_IndexFunc_impl_Mark.s4 x0 x1 v4_2 v4_3)) := by kernel_rfl
theorem slices_IndexFunc_impl_Mark.eq (x0 : List TMark) (x1 : (TMark) × (Unit)) : V.evBody slices_IndexFunc_impl_Mark.E slices_IndexFunc_impl_Mark.con Try.f49 ((x0, x1) : List TMark × (TMark) × (Unit)) = slices_IndexFunc_impl_Mark x0 x1 := by
  rw [slices_IndexFunc_impl_Mark.v]
  simp only [slices_IndexFunc_impl_Mark.e4]
  rfl
theorem slices_IndexFunc_impl_Mark.ok : V.Valid Try.prog 49 slices_IndexFunc_impl_Mark.con :=
  V.body_ok (V.env_ok V.mixed V.tysOk (V.tab_cons impl_Mark_isOf.ok V.tab_nil)) Try.func49 (by kernel_rfl) (by kernel_rfl) (by kernel_rfl) (fun x y h => (show V.evBody slices_IndexFunc_impl_Mark.E slices_IndexFunc_impl_Mark.con Try.f49 x = _ from slices_IndexFunc_impl_Mark.eq x.1 x.2).trans h)
noncomputable abbrev slices_ContainsFunc_impl_Mark.con : V.Con := ⟨(.cons (.sl (.cons (.int .i64) (.cons (.int .i64) (.cons (.int .i64) .nil)))) (.cons (.fn 42 true (.cons (.int .i64) (.cons (.int .i64) (.cons (.int .i64) .nil))) .nil) .nil)), (.cons .bool .nil), fun (x : List TMark × (TMark) × (Unit)) => slices_ContainsFunc_impl_Mark x.1 x.2, [], [(false, 1), (false, 1)], [(false, 1)], [false], []⟩
noncomputable abbrev slices_ContainsFunc_impl_Mark.E : V.Env := V.mkE V.tys [(49, slices_IndexFunc_impl_Mark.con)] [] [] [] []
noncomputable abbrev slices_ContainsFunc_impl_Mark.kt (x0 : List TMark) (x1 : (TMark) × (Unit)) : V.Kt Bool := V.ktOf slices_ContainsFunc_impl_Mark.E slices_ContainsFunc_impl_Mark.con Try.f41 ((x0, x1) : List TMark × (TMark) × (Unit))
theorem slices_ContainsFunc_impl_Mark.eq (x0 : List TMark) (x1 : (TMark) × (Unit)) : V.evBody slices_ContainsFunc_impl_Mark.E slices_ContainsFunc_impl_Mark.con Try.f41 ((x0, x1) : List TMark × (TMark) × (Unit)) = slices_ContainsFunc_impl_Mark x0 x1 := by kernel_rfl
theorem slices_ContainsFunc_impl_Mark.ok : V.Valid Try.prog 41 slices_ContainsFunc_impl_Mark.con :=
  V.body_ok (V.env_ok V.mixed V.tysOk (V.tab_cons slices_IndexFunc_impl_Mark.ok V.tab_nil)) Try.func41 (by kernel_rfl) (by kernel_rfl) (by kernel_rfl) (fun x y h => (show V.evBody slices_ContainsFunc_impl_Mark.E slices_ContainsFunc_impl_Mark.con Try.f41 x = _ from slices_ContainsFunc_impl_Mark.eq x.1 x.2).trans h)
noncomputable abbrev impl_isKey.con : V.Con := ⟨(.cons (.int .i64) .nil), (.cons .bool .nil), fun (x : Int) => impl_isKey x, [], [(false, 1)], [(false, 1)], [false], []⟩
noncomputable abbrev impl_isKey.E : V.Env := V.mkE V.tys [(40, impl_InRange.con)] [] [] [] []
noncomputable abbrev impl_isKey.kt (x0 : Int) : V.Kt Bool := V.ktOf impl_isKey.E impl_isKey.con Try.f43 ((x0) : Int)
theorem impl_isKey.eq (x0 : Int) : V.evBody impl_isKey.E impl_isKey.con Try.f43 ((x0) : Int) = impl_isKey x0 := by kernel_rfl
theorem impl_isKey.ok : V.Valid Try.prog 43 impl_isKey.con :=
  V.body_ok (V.env_ok V.mixed V.tysOk (V.tab_cons impl_InRange.ok V.tab_nil)) Try.func43 (by kernel_rfl) (by kernel_rfl) (by kernel_rfl) (fun x y h => (show V.evBody impl_isKey.E impl_isKey.con Try.f43 x = _ from impl_isKey.eq x).trans h)
noncomputable abbrev impl_IsWitness.con : V.Con := ⟨(.cons (.int .i64) (.cons (.sl (.cons (.int .i64) (.cons (.int .i64) (.cons (.int .i64) .nil)))) .nil)), (.cons .bool .nil), fun (x : Int × List TMark) => impl_IsWitness x, [], [(true, 2)], [(false, 1)], [false], []⟩
noncomputable abbrev impl_IsWitness.E : V.Env := V.mkE V.tys [(39, impl_isDigest.con), (40, impl_InRange.con), (41, slices_ContainsFunc_impl_Mark.con), (43, impl_isKey.con)] [(4, [1, 6, 7, 8], [])] [(4, 23)] [] []
noncomputable abbrev impl_IsWitness.kt (x0 : TWitness) : V.Kt Bool := V.ktOf impl_IsWitness.E impl_IsWitness.con Try.f25 ((x0.1, x0.2) : Int × List TMark)
noncomputable abbrev impl_IsWitness.s4 (x0 : TWitness) (v4_1 : Int) (v4_2 : Int) : V.St := ⟨[(1, .v false [.ptr 64000 0]), (6, .v false [.val (.sl (.cons (.int .i64) (.cons (.int .i64) (.cons (.int .i64) .nil))) x0.2)]), (7, .v false [.val (.int .i64 v4_1)]), (8, .v false [.val (.int .i64 v4_2)])], [(64000, .box [.val (.int .i64 x0.1), .val (.sl (.cons (.int .i64) (.cons (.int .i64) (.cons (.int .i64) .nil))) x0.2)])]⟩
theorem impl_IsWitness.r4 (x0 : TWitness) (R : V.St → Option Bool) (v4_1 : Int) (v4_2 : Int) : V.loopF impl_IsWitness.E Try.f25.ntmps [1, 0, 1, 0] [] (V.codeOf Try.f25) (impl_IsWitness.kt x0) R (impl_IsWitness.s4 x0 v4_1 v4_2) = impl_IsWitness.g4 x0 (fun v4_1 v4_2 => R (impl_IsWitness.s4 x0 v4_1 v4_2)) v4_1 v4_2 := by kernel_rfl
theorem impl_IsWitness.e4 (x0 : TWitness) : ∀ (n : Nat) (v4_1 : Int) (v4_2 : Int), V.loopN (V.loopF impl_IsWitness.E Try.f25.ntmps [1, 0, 1, 0] [] (V.codeOf Try.f25) (impl_IsWitness.kt x0)) n (impl_IsWitness.s4 x0 v4_1 v4_2) = impl_IsWitness.l4 x0 n v4_1 v4_2 := by
  intro n
  induction n with
  | zero => intros; rfl
  | succ n ih =>
    intro v4_1 v4_2
    show V.loopF impl_IsWitness.E Try.f25.ntmps [1, 0, 1, 0] [] (V.codeOf Try.f25) (impl_IsWitness.kt x0) (V.loopN (V.loopF impl_IsWitness.E Try.f25.ntmps [1, 0, 1, 0] [] (V.codeOf Try.f25) (impl_IsWitness.kt x0)) n) (impl_IsWitness.s4 x0 v4_1 v4_2) = _
    rw [impl_IsWitness.r4]
    simp only [ih]
    rfl
theorem impl_IsWitness.v (x0 : TWitness) : V.evBody impl_IsWitness.E impl_IsWitness.con Try.f25 ((x0.1, x0.2) : Int × List TMark) = impl_IsWitness.b x0 (fun v4_1 v4_2 => V.loopN (V.loopF impl_IsWitness.E Try.f25.ntmps [1, 0, 1, 0] [] (V.codeOf Try.f25) (impl_IsWitness.kt x0)) V.KK (impl_IsWitness.s4 x0 v4_1 v4_2)) := by kernel_rfl
theorem impl_IsWitness.eq (x0 : TWitness) : V.evBody impl_IsWitness.E impl_IsWitness.con Try.f25 ((x0.1, x0.2) : Int × List TMark) = impl_IsWitness x0 := by
  rw [impl_IsWitness.v]
  simp only [impl_IsWitness.e4]
  rfl
theorem impl_IsWitness.ok : V.Valid Try.prog 25 impl_IsWitness.con :=
  V.body_ok (V.env_ok V.mixed V.tysOk (V.tab_cons impl_isDigest.ok (V.tab_cons impl_InRange.ok (V.tab_cons slices_ContainsFunc_impl_Mark.ok (V.tab_cons impl_isKey.ok V.tab_nil))))) Try.func25 (by kernel_rfl) (by kernel_rfl) (by kernel_rfl) (fun x y h => (show V.evBody impl_IsWitness.E impl_IsWitness.con Try.f25 x = _ from impl_IsWitness.eq x).trans h)
noncomputable abbrev laws_eqMark.con : V.Con := ⟨(.cons (.int .i64) (.cons (.int .i64) (.cons (.int .i64) (.cons (.int .i64) (.cons (.int .i64) (.cons (.int .i64) .nil)))))), (.cons .bool .nil), fun (x : Int × Int × Int × Int × Int × Int) => laws_eqMark (x.1, x.2.1, x.2.2.1) x.2.2.2, [], [(true, 3), (true, 3)], [(false, 1)], [false], []⟩
noncomputable abbrev laws_eqMark.E : V.Env := V.mkE V.tys [] [] [] [] []
noncomputable abbrev laws_eqMark.kt (x0 : TMark) (x1 : TMark) : V.Kt Bool := V.ktOf laws_eqMark.E laws_eqMark.con Try.f30 ((x0.1, x0.2.1, x0.2.2, x1.1, x1.2.1, x1.2.2) : Int × Int × Int × Int × Int × Int)
theorem laws_eqMark.eq (x0 : TMark) (x1 : TMark) : V.evBody laws_eqMark.E laws_eqMark.con Try.f30 ((x0.1, x0.2.1, x0.2.2, x1.1, x1.2.1, x1.2.2) : Int × Int × Int × Int × Int × Int) = laws_eqMark x0 x1 := by kernel_rfl
theorem laws_eqMark.ok : V.Valid Try.prog 30 laws_eqMark.con :=
  V.body_ok (V.env_ok V.mixed V.tysOk V.tab_nil) Try.func30 (by kernel_rfl) (by kernel_rfl) (by kernel_rfl) (fun x y h => (show V.evBody laws_eqMark.E laws_eqMark.con Try.f30 x = _ from laws_eqMark.eq (x.1, x.2.1, x.2.2.1) x.2.2.2).trans h)
noncomputable abbrev laws_eqMarkS.con : V.Con := ⟨(.cons (.sl (.cons (.int .i64) (.cons (.int .i64) (.cons (.int .i64) .nil)))) (.cons (.sl (.cons (.int .i64) (.cons (.int .i64) (.cons (.int .i64) .nil)))) .nil)), (.cons .bool .nil), fun (x : List TMark × List TMark) => laws_eqMarkS x.1 x.2, [], [(false, 1), (false, 1)], [(false, 1)], [false], []⟩
noncomputable abbrev laws_eqMarkS.E : V.Env := V.mkE V.tys [(30, laws_eqMark.con)] [(8, [0, 1, 5], [])] [(6, 8)] [] []
noncomputable abbrev laws_eqMarkS.kt (x0 : List TMark) (x1 : List TMark) : V.Kt Bool := V.ktOf laws_eqMarkS.E laws_eqMarkS.con Try.f37 ((x0, x1) : List TMark × List TMark)
noncomputable abbrev laws_eqMarkS.s8 (x0 : List TMark) (x1 : List TMark) (v8_2 : Int) : V.St := ⟨[(0, .v false [.val (.sl (.cons (.int .i64) (.cons (.int .i64) (.cons (.int .i64) .nil))) x0)]), (1, .v false [.val (.sl (.cons (.int .i64) (.cons (.int .i64) (.cons (.int .i64) .nil))) x1)]), (5, .v false [.val (.int .i64 v8_2)])], []⟩
theorem laws_eqMarkS.r8 (x0 : List TMark) (x1 : List TMark) (R : V.St → Option Bool) (v8_2 : Int) : V.loopF laws_eqMarkS.E Try.f37.ntmps [1, 1, 0, 1, 0] [] (V.codeOf Try.f37) (laws_eqMarkS.kt x0 x1) R (laws_eqMarkS.s8 x0 x1 v8_2) = laws_eqMarkS.g8 x0 x1 (fun v8_2 => R (laws_eqMarkS.s8 x0 x1 v8_2)) v8_2 := by kernel_rfl
theorem laws_eqMarkS.e8 (x0 : List TMark) (x1 : List TMark) : ∀ (n : Nat) (v8_2 : Int), V.loopN (V.loopF laws_eqMarkS.E Try.f37.ntmps [1, 1, 0, 1, 0] [] (V.codeOf Try.f37) (laws_eqMarkS.kt x0 x1)) n (laws_eqMarkS.s8 x0 x1 v8_2) = laws_eqMarkS.l8 x0 x1 n v8_2 := by
  intro n
  induction n with
  | zero => intros; rfl
  | succ n ih =>
    intro v8_2
    show V.loopF laws_eqMarkS.E Try.f37.ntmps [1, 1, 0, 1, 0] [] (V.codeOf Try.f37) (laws_eqMarkS.kt x0 x1) (V.loopN (V.loopF laws_eqMarkS.E Try.f37.ntmps [1, 1, 0, 1, 0] [] (V.codeOf Try.f37) (laws_eqMarkS.kt x0 x1)) n) (laws_eqMarkS.s8 x0 x1 v8_2) = _
    rw [laws_eqMarkS.r8]
    simp only [ih]
    rfl
theorem laws_eqMarkS.v (x0 : List TMark) (x1 : List TMark) : V.evBody laws_eqMarkS.E laws_eqMarkS.con Try.f37 ((x0, x1) : List TMark × List TMark) = laws_eqMarkS.b x0 x1 (fun v8_2 => V.loopN (V.loopF laws_eqMarkS.E Try.f37.ntmps [1, 1, 0, 1, 0] [] (V.codeOf Try.f37) (laws_eqMarkS.kt x0 x1)) V.KK (laws_eqMarkS.s8 x0 x1 v8_2)) := by kernel_rfl
theorem laws_eqMarkS.eq (x0 : List TMark) (x1 : List TMark) : V.evBody laws_eqMarkS.E laws_eqMarkS.con Try.f37 ((x0, x1) : List TMark × List TMark) = laws_eqMarkS x0 x1 := by
  rw [laws_eqMarkS.v]
  simp only [laws_eqMarkS.e8]
  rfl
theorem laws_eqMarkS.ok : V.Valid Try.prog 37 laws_eqMarkS.con :=
  V.body_ok (V.env_ok V.mixed V.tysOk (V.tab_cons laws_eqMark.ok V.tab_nil)) Try.func37 (by kernel_rfl) (by kernel_rfl) (by kernel_rfl) (fun x y h => (show V.evBody laws_eqMarkS.E laws_eqMarkS.con Try.f37 x = _ from laws_eqMarkS.eq x.1 x.2).trans h)
noncomputable abbrev laws_eqWitness.con : V.Con := ⟨(.cons (.int .i64) (.cons (.sl (.cons (.int .i64) (.cons (.int .i64) (.cons (.int .i64) .nil)))) (.cons (.int .i64) (.cons (.sl (.cons (.int .i64) (.cons (.int .i64) (.cons (.int .i64) .nil)))) .nil)))), (.cons .bool .nil), fun (x : Int × List TMark × Int × List TMark) => laws_eqWitness (x.1, x.2.1) x.2.2, [], [(true, 2), (true, 2)], [(false, 1)], [false], []⟩
noncomputable abbrev laws_eqWitness.E : V.Env := V.mkE V.tys [(37, laws_eqMarkS.con)] [] [] [] []
noncomputable abbrev laws_eqWitness.kt (x0 : TWitness) (x1 : TWitness) : V.Kt Bool := V.ktOf laws_eqWitness.E laws_eqWitness.con Try.f23 ((x0.1, x0.2, x1.1, x1.2) : Int × List TMark × Int × List TMark)
theorem laws_eqWitness.eq (x0 : TWitness) (x1 : TWitness) : V.evBody laws_eqWitness.E laws_eqWitness.con Try.f23 ((x0.1, x0.2, x1.1, x1.2) : Int × List TMark × Int × List TMark) = laws_eqWitness x0 x1 := by kernel_rfl
theorem laws_eqWitness.ok : V.Valid Try.prog 23 laws_eqWitness.con :=
  V.body_ok (V.env_ok V.mixed V.tysOk (V.tab_cons laws_eqMarkS.ok V.tab_nil)) Try.func23 (by kernel_rfl) (by kernel_rfl) (by kernel_rfl) (fun x y h => (show V.evBody laws_eqWitness.E laws_eqWitness.con Try.f23 x = _ from laws_eqWitness.eq (x.1, x.2.1) x.2.2).trans h)
noncomputable abbrev laws_FnExactIsWitness.con : V.Con := ⟨(.cons (.int .i64) (.cons (.sl (.cons (.int .i64) (.cons (.int .i64) (.cons (.int .i64) .nil)))) .nil)), (.cons .bool .nil), fun (x : Int × List TMark) => laws_FnExactIsWitness x, [], [(true, 2)], [(false, 1)], [false], []⟩
noncomputable abbrev laws_FnExactIsWitness.E : V.Env := V.mkE V.tys [(19, laws_szWitness.con), (21, laws_toWitness.con), (23, laws_eqWitness.con), (24, spec_IsWitness.con), (25, impl_IsWitness.con)] [] [(10, 3)] [] []
noncomputable abbrev laws_FnExactIsWitness.kt (x0 : TWitness) : V.Kt Bool := V.ktOf laws_FnExactIsWitness.E laws_FnExactIsWitness.con Try.f7 ((x0.1, x0.2) : Int × List TMark)
theorem laws_FnExactIsWitness.eq (x0 : TWitness) : V.evBody laws_FnExactIsWitness.E laws_FnExactIsWitness.con Try.f7 ((x0.1, x0.2) : Int × List TMark) = laws_FnExactIsWitness x0 := by kernel_rfl
theorem laws_FnExactIsWitness.ok : V.Valid Try.prog 7 laws_FnExactIsWitness.con :=
  V.body_ok (V.env_ok V.mixed V.tysOk (V.tab_cons laws_szWitness.ok (V.tab_cons laws_toWitness.ok (V.tab_cons laws_eqWitness.ok (V.tab_cons spec_IsWitness.ok (V.tab_cons impl_IsWitness.ok V.tab_nil)))))) Try.func7 (by kernel_rfl) (by kernel_rfl) (by kernel_rfl) (fun x y h => (show V.evBody laws_FnExactIsWitness.E laws_FnExactIsWitness.con Try.f7 x = _ from laws_FnExactIsWitness.eq x).trans h)
end Go.Proofs.Ytchhidcbfladhaa
