/- That the functions compute it. -/
import Derived.Test.YtchhidcbfladhaaXEqualWitnessesPure0
import Derived.Test.YtchhidcbfladhaaProg
namespace Go.Proofs.Ytchhidcbfladhaa
set_option linter.unusedVariables false
set_option maxRecDepth 100000
namespace V
abbrev tys : List (Nat × TI) := [(3, ⟨.int .i64, false, [.val (.int .i64 (0 : Int))], 8, [], (.cons (.int .i64) .nil)⟩),
  (4, ⟨.bool, false, [.val (.bool false)], 1, [], (.cons .bool .nil)⟩),
  (25, ⟨.st, true, [.val (.int .i64 (0 : Int)), .val (.int .i64 (0 : Int)), .val (.int .i64 (0 : Int))], 24, [(0, 1, false), (1, 1, false), (2, 1, false)], (.cons (.int .i64) (.cons (.int .i64) (.cons (.int .i64) .nil)))⟩),
  (28, ⟨.st, true, [.val (.int .i64 (0 : Int)), .val (.int .i64 (0 : Int)), .val (.int .i64 (0 : Int))], 24, [(0, 1, false), (1, 1, false), (2, 1, false)], (.cons (.int .i64) (.cons (.int .i64) (.cons (.int .i64) .nil)))⟩),
  (33, ⟨.sl 25, false, [.nil0], 24, [], (.cons (.sl (.cons (.int .i64) (.cons (.int .i64) (.cons (.int .i64) .nil)))) .nil)⟩),
  (35, ⟨.st, false, [.val (.int .i64 (0 : Int)), .nil0], 32, [(0, 1, false), (1, 1, false)], (.cons (.int .i64) (.cons (.sl (.cons (.int .i64) (.cons (.int .i64) (.cons (.int .i64) .nil)))) .nil))⟩),
  (38, ⟨.sl 28, false, [.nil0], 24, [], (.cons (.sl (.cons (.int .i64) (.cons (.int .i64) (.cons (.int .i64) .nil)))) .nil)⟩),
  (40, ⟨.st, false, [.val (.int .i64 (0 : Int)), .nil0], 32, [(0, 1, false), (1, 1, false)], (.cons (.int .i64) (.cons (.sl (.cons (.int .i64) (.cons (.int .i64) (.cons (.int .i64) .nil)))) .nil))⟩)]
theorem tysOk : tyAll Try.prog tys = true := by kernel_rfl
theorem mixed : Try.prog.follows .mixedOrders = true := by kernel_rfl
end V
noncomputable abbrev laws_szMarkS.con : V.Con := ⟨(.cons (.sl (.cons (.int .i64) (.cons (.int .i64) (.cons (.int .i64) .nil)))) (.cons (.int .i64) .nil)), (.cons (.int .i64) .nil), fun (x : List TMark × Int) => laws_szMarkS x.1 x.2, [], [(false, 1), (false, 1)], [(false, 1)], [false], []⟩
noncomputable abbrev laws_szMarkS.E : V.Env := V.mkE V.tys [] [] [] [] []
noncomputable abbrev laws_szMarkS.kt (x0 : List TMark) (x1 : Int) : V.Kt Int := V.ktOf laws_szMarkS.E laws_szMarkS.con Try.f34 ((x0, x1) : List TMark × Int)
theorem laws_szMarkS.eq (x0 : List TMark) (x1 : Int) : V.evBody laws_szMarkS.E laws_szMarkS.con Try.f34 ((x0, x1) : List TMark × Int) = laws_szMarkS x0 x1 := by kernel_rfl
theorem laws_szMarkS.ok : V.Valid Try.prog 34 laws_szMarkS.con :=
  V.body_ok (V.env_ok V.mixed V.tysOk V.tab_nil) Try.func34 (by kernel_rfl) (by kernel_rfl) (by kernel_rfl) (fun x y h => (show V.evBody laws_szMarkS.E laws_szMarkS.con Try.f34 x = _ from laws_szMarkS.eq x.1 x.2).trans h)
noncomputable abbrev laws_szWitness.con : V.Con := ⟨(.cons (.int .i64) (.cons (.sl (.cons (.int .i64) (.cons (.int .i64) (.cons (.int .i64) .nil)))) (.cons (.int .i64) .nil))), (.cons (.int .i64) .nil), fun (x : Int × List TMark × Int) => laws_szWitness (x.1, x.2.1) x.2.2, [], [(true, 2), (false, 1)], [(false, 1)], [false], []⟩
noncomputable abbrev laws_szWitness.E : V.Env := V.mkE V.tys [(34, laws_szMarkS.con)] [] [] [] []
noncomputable abbrev laws_szWitness.kt (x0 : TWitness) (x1 : Int) : V.Kt Int := V.ktOf laws_szWitness.E laws_szWitness.con Try.f19 ((x0.1, x0.2, x1) : Int × List TMark × Int)
theorem laws_szWitness.eq (x0 : TWitness) (x1 : Int) : V.evBody laws_szWitness.E laws_szWitness.con Try.f19 ((x0.1, x0.2, x1) : Int × List TMark × Int) = laws_szWitness x0 x1 := by kernel_rfl
theorem laws_szWitness.ok : V.Valid Try.prog 19 laws_szWitness.con :=
  V.body_ok (V.env_ok V.mixed V.tysOk (V.tab_cons laws_szMarkS.ok V.tab_nil)) Try.func19 (by kernel_rfl) (by kernel_rfl) (by kernel_rfl) (fun x y h => (show V.evBody laws_szWitness.E laws_szWitness.con Try.f19 x = _ from laws_szWitness.eq (x.1, x.2.1) x.2.2).trans h)
noncomputable abbrev laws_toMark.con : V.Con := ⟨(.cons (.int .i64) (.cons (.int .i64) (.cons (.int .i64) .nil))), (.cons (.int .i64) (.cons (.int .i64) (.cons (.int .i64) .nil))), fun (x : Int × Int × Int) => laws_toMark x, [], [(true, 3)], [(true, 3)], [false, false, false], []⟩
noncomputable abbrev laws_toMark.E : V.Env := V.mkE V.tys [] [] [] [] []
noncomputable abbrev laws_toMark.kt (x0 : TMark) : V.Kt TMark := V.ktOf laws_toMark.E laws_toMark.con Try.f14 ((x0.1, x0.2.1, x0.2.2) : Int × Int × Int)
theorem laws_toMark.eq (x0 : TMark) : V.evBody laws_toMark.E laws_toMark.con Try.f14 ((x0.1, x0.2.1, x0.2.2) : Int × Int × Int) = laws_toMark x0 := by kernel_rfl
theorem laws_toMark.ok : V.Valid Try.prog 14 laws_toMark.con :=
  V.body_ok (V.env_ok V.mixed V.tysOk V.tab_nil) Try.func14 (by kernel_rfl) (by kernel_rfl) (by kernel_rfl) (fun x y h => (show V.evBody laws_toMark.E laws_toMark.con Try.f14 x = _ from laws_toMark.eq x).trans h)
noncomputable abbrev laws_toMarkS.con : V.Con := ⟨(.cons (.sl (.cons (.int .i64) (.cons (.int .i64) (.cons (.int .i64) .nil)))) .nil), (.cons (.sl (.cons (.int .i64) (.cons (.int .i64) (.cons (.int .i64) .nil)))) .nil), fun (x : List TMark) => laws_toMarkS x, [], [(false, 1)], [(false, 1)], [true], []⟩
noncomputable abbrev laws_toMarkS.E : V.Env := V.mkE V.tys [(14, laws_toMark.con)] [(6, [0, 3, 4], [])] [] [] []
noncomputable abbrev laws_toMarkS.kt (x0 : List TMark) : V.Kt (List TMark) := V.ktOf laws_toMarkS.E laws_toMarkS.con Try.f35 ((x0) : List TMark)
noncomputable abbrev laws_toMarkS.s6 (x0 : List TMark) (v6_1 : Int) (v6_2 : List TMark) : V.St := ⟨[(0, .v false [.val (.sl (.cons (.int .i64) (.cons (.int .i64) (.cons (.int .i64) .nil))) x0)]), (3, .v false [.ref 64000038400192]), (4, .v false [.val (.int .i64 v6_1)])], [(64000038400192, .row (.cons (.int .i64) (.cons (.int .i64) (.cons (.int .i64) .nil))) true v6_2)]⟩
theorem laws_toMarkS.r6 (x0 : List TMark) (R : V.St → Option (List TMark)) (v6_1 : Int) (v6_2 : List TMark) : V.loopF laws_toMarkS.E Try.f35.ntmps [1, 1, 0, 1, 0] [] (V.codeOf Try.f35) (laws_toMarkS.kt x0) R (laws_toMarkS.s6 x0 v6_1 v6_2) = laws_toMarkS.g6 x0 (fun v6_1 v6_2 => R (laws_toMarkS.s6 x0 v6_1 v6_2)) v6_1 v6_2 := by kernel_rfl
theorem laws_toMarkS.e6 (x0 : List TMark) : ∀ (n : Nat) (v6_1 : Int) (v6_2 : List TMark), V.loopN (V.loopF laws_toMarkS.E Try.f35.ntmps [1, 1, 0, 1, 0] [] (V.codeOf Try.f35) (laws_toMarkS.kt x0)) n (laws_toMarkS.s6 x0 v6_1 v6_2) = laws_toMarkS.l6 x0 n v6_1 v6_2 := by
  intro n
  induction n with
  | zero => intros; rfl
  | succ n ih =>
    intro v6_1 v6_2
    show V.loopF laws_toMarkS.E Try.f35.ntmps [1, 1, 0, 1, 0] [] (V.codeOf Try.f35) (laws_toMarkS.kt x0) (V.loopN (V.loopF laws_toMarkS.E Try.f35.ntmps [1, 1, 0, 1, 0] [] (V.codeOf Try.f35) (laws_toMarkS.kt x0)) n) (laws_toMarkS.s6 x0 v6_1 v6_2) = _
    rw [laws_toMarkS.r6]
    simp only [ih]
    rfl
theorem laws_toMarkS.v (x0 : List TMark) : V.evBody laws_toMarkS.E laws_toMarkS.con Try.f35 ((x0) : List TMark) = laws_toMarkS.b x0 (fun v6_1 v6_2 => V.loopN (V.loopF laws_toMarkS.E Try.f35.ntmps [1, 1, 0, 1, 0] [] (V.codeOf Try.f35) (laws_toMarkS.kt x0)) V.KK (laws_toMarkS.s6 x0 v6_1 v6_2)) := by kernel_rfl
theorem laws_toMarkS.eq (x0 : List TMark) : V.evBody laws_toMarkS.E laws_toMarkS.con Try.f35 ((x0) : List TMark) = laws_toMarkS x0 := by
  rw [laws_toMarkS.v]
  simp only [laws_toMarkS.e6]
  rfl
theorem laws_toMarkS.ok : V.Valid Try.prog 35 laws_toMarkS.con :=
  V.body_ok (V.env_ok V.mixed V.tysOk (V.tab_cons laws_toMark.ok V.tab_nil)) Try.func35 (by kernel_rfl) (by kernel_rfl) (by kernel_rfl) (fun x y h => (show V.evBody laws_toMarkS.E laws_toMarkS.con Try.f35 x = _ from laws_toMarkS.eq x).trans h)
noncomputable abbrev laws_toWitness.con : V.Con := ⟨(.cons (.int .i64) (.cons (.sl (.cons (.int .i64) (.cons (.int .i64) (.cons (.int .i64) .nil)))) .nil)), (.cons (.int .i64) (.cons (.sl (.cons (.int .i64) (.cons (.int .i64) (.cons (.int .i64) .nil)))) .nil)), fun (x : Int × List TMark) => laws_toWitness x, [], [(true, 2)], [(true, 2)], [false, true], []⟩
noncomputable abbrev laws_toWitness.E : V.Env := V.mkE V.tys [(35, laws_toMarkS.con)] [] [] [] []
noncomputable abbrev laws_toWitness.kt (x0 : TWitness) : V.Kt TWitness := V.ktOf laws_toWitness.E laws_toWitness.con Try.f21 ((x0.1, x0.2) : Int × List TMark)
theorem laws_toWitness.eq (x0 : TWitness) : V.evBody laws_toWitness.E laws_toWitness.con Try.f21 ((x0.1, x0.2) : Int × List TMark) = laws_toWitness x0 := by kernel_rfl
theorem laws_toWitness.ok : V.Valid Try.prog 21 laws_toWitness.con :=
  V.body_ok (V.env_ok V.mixed V.tysOk (V.tab_cons laws_toMarkS.ok V.tab_nil)) Try.func21 (by kernel_rfl) (by kernel_rfl) (by kernel_rfl) (fun x y h => (show V.evBody laws_toWitness.E laws_toWitness.con Try.f21 x = _ from laws_toWitness.eq x).trans h)
noncomputable abbrev spec_EqualWitnesses.con : V.Con := ⟨(.cons (.int .i64) (.cons (.sl (.cons (.int .i64) (.cons (.int .i64) (.cons (.int .i64) .nil)))) (.cons (.int .i64) (.cons (.sl (.cons (.int .i64) (.cons (.int .i64) (.cons (.int .i64) .nil)))) .nil)))), (.cons .bool .nil), fun (x : Int × List TMark × Int × List TMark) => spec_EqualWitnesses (x.1, x.2.1) x.2.2, [], [(true, 2), (true, 2)], [(false, 1)], [false], []⟩
noncomputable abbrev spec_EqualWitnesses.E : V.Env := V.mkE V.tys [] [(7, [2, 3], []), (8, [2, 3, 5], [])] [(6, 10)] [] []
noncomputable abbrev spec_EqualWitnesses.kt (x0 : TWitness) (x1 : TWitness) : V.Kt Bool := V.ktOf spec_EqualWitnesses.E spec_EqualWitnesses.con Try.f20 ((x0.1, x0.2, x1.1, x1.2) : Int × List TMark × Int × List TMark)
noncomputable abbrev spec_EqualWitnesses.s8 (x0 : TWitness) (x1 : TWitness) (v8_0 : Int) : V.St := ⟨[(2, .v false [.ptr 64000 0]), (3, .v false [.ptr 64064 0]), (5, .v false [.val (.int .i64 v8_0)])], [(64000, .box [.val (.int .i64 x0.1), .val (.sl (.cons (.int .i64) (.cons (.int .i64) (.cons (.int .i64) .nil))) x0.2)]), (64064, .box [.val (.int .i64 x1.1), .val (.sl (.cons (.int .i64) (.cons (.int .i64) (.cons (.int .i64) .nil))) x1.2)])]⟩
noncomputable abbrev spec_EqualWitnesses.s7 (x0 : TWitness) (x1 : TWitness) : V.St := ⟨[(2, .v false [.ptr 64000 0]), (3, .v false [.ptr 64064 0])], [(64000, .box [.val (.int .i64 x0.1), .val (.sl (.cons (.int .i64) (.cons (.int .i64) (.cons (.int .i64) .nil))) x0.2)]), (64064, .box [.val (.int .i64 x1.1), .val (.sl (.cons (.int .i64) (.cons (.int .i64) (.cons (.int .i64) .nil))) x1.2)])]⟩
theorem spec_EqualWitnesses.r8 (x0 : TWitness) (x1 : TWitness) (R : V.St → Option Bool) (v8_0 : Int) : V.loopF spec_EqualWitnesses.E Try.f20.ntmps [1, 1, 0, 1, 0] [] (V.codeOf Try.f20) (spec_EqualWitnesses.kt x0 x1) R (spec_EqualWitnesses.s8 x0 x1 v8_0) = spec_EqualWitnesses.g8 x0 x1 (fun v8_0 => R (spec_EqualWitnesses.s8 x0 x1 v8_0)) v8_0 := by kernel_rfl
theorem spec_EqualWitnesses.e8 (x0 : TWitness) (x1 : TWitness) : ∀ (n : Nat) (v8_0 : Int), V.loopN (V.loopF spec_EqualWitnesses.E Try.f20.ntmps [1, 1, 0, 1, 0] [] (V.codeOf Try.f20) (spec_EqualWitnesses.kt x0 x1)) n (spec_EqualWitnesses.s8 x0 x1 v8_0) = spec_EqualWitnesses.l8 x0 x1 n v8_0 := by
  intro n
  induction n with
  | zero => intros; rfl
  | succ n ih =>
    intro v8_0
    show V.loopF spec_EqualWitnesses.E Try.f20.ntmps [1, 1, 0, 1, 0] [] (V.codeOf Try.f20) (spec_EqualWitnesses.kt x0 x1) (V.loopN (V.loopF spec_EqualWitnesses.E Try.f20.ntmps [1, 1, 0, 1, 0] [] (V.codeOf Try.f20) (spec_EqualWitnesses.kt x0 x1)) n) (spec_EqualWitnesses.s8 x0 x1 v8_0) = _
    rw [spec_EqualWitnesses.r8]
    simp only [ih]
    rfl
theorem spec_EqualWitnesses.r7 (x0 : TWitness) (x1 : TWitness) : V.joinF spec_EqualWitnesses.E Try.f20.ntmps [1] [] (V.codeOf Try.f20) (spec_EqualWitnesses.kt x0 x1) (spec_EqualWitnesses.s7 x0 x1) = spec_EqualWitnesses.g7 x0 x1 (fun v8_0 => V.loopN (V.loopF spec_EqualWitnesses.E Try.f20.ntmps [1, 1, 0, 1, 0] [] (V.codeOf Try.f20) (spec_EqualWitnesses.kt x0 x1)) V.KK (spec_EqualWitnesses.s8 x0 x1 v8_0)) := by kernel_rfl
theorem spec_EqualWitnesses.e7 (x0 : TWitness) (x1 : TWitness) : V.joinF spec_EqualWitnesses.E Try.f20.ntmps [1] [] (V.codeOf Try.f20) (spec_EqualWitnesses.kt x0 x1) (spec_EqualWitnesses.s7 x0 x1) = spec_EqualWitnesses.l7 x0 x1 := by
  rw [spec_EqualWitnesses.r7]
  simp only [spec_EqualWitnesses.e8]
  rfl
theorem spec_EqualWitnesses.v (x0 : TWitness) (x1 : TWitness) : V.evBody spec_EqualWitnesses.E spec_EqualWitnesses.con Try.f20 ((x0.1, x0.2, x1.1, x1.2) : Int × List TMark × Int × List TMark) = spec_EqualWitnesses.b x0 x1 (V.joinF spec_EqualWitnesses.E Try.f20.ntmps [1] [] (V.codeOf Try.f20) (spec_EqualWitnesses.kt x0 x1) (spec_EqualWitnesses.s7 x0 x1)) := by kernel_rfl
theorem spec_EqualWitnesses.eq (x0 : TWitness) (x1 : TWitness) : V.evBody spec_EqualWitnesses.E spec_EqualWitnesses.con Try.f20 ((x0.1, x0.2, x1.1, x1.2) : Int × List TMark × Int × List TMark) = spec_EqualWitnesses x0 x1 := by
  rw [spec_EqualWitnesses.v]
  simp only [spec_EqualWitnesses.e7]
  rfl
theorem spec_EqualWitnesses.ok : V.Valid Try.prog 20 spec_EqualWitnesses.con :=
  V.body_ok (V.env_ok V.mixed V.tysOk V.tab_nil) Try.func20 (by kernel_rfl) (by kernel_rfl) (by kernel_rfl) (fun x y h => (show V.evBody spec_EqualWitnesses.E spec_EqualWitnesses.con Try.f20 x = _ from spec_EqualWitnesses.eq (x.1, x.2.1) x.2.2).trans h)
noncomputable abbrev slices_Equal_impl_Mark.con : V.Con := ⟨(.cons (.sl (.cons (.int .i64) (.cons (.int .i64) (.cons (.int .i64) .nil)))) (.cons (.sl (.cons (.int .i64) (.cons (.int .i64) (.cons (.int .i64) .nil)))) .nil)), (.cons .bool .nil), fun (x : List TMark × List TMark) => slices_Equal_impl_Mark x.1 x.2, [], [(false, 1), (false, 1)], [(false, 1)], [false], []⟩
noncomputable abbrev slices_Equal_impl_Mark.E : V.Env := V.mkE V.tys [] [(8, [0, 1, 12, 13], [])] [(6, 8)] [] []
noncomputable abbrev slices_Equal_impl_Mark.kt (x0 : List TMark) (x1 : List TMark) : V.Kt Bool := V.ktOf slices_Equal_impl_Mark.E slices_Equal_impl_Mark.con Try.f36 ((x0, x1) : List TMark × List TMark)
noncomputable abbrev slices_Equal_impl_Mark.s8 (x0 : List TMark) (x1 : List TMark) (v8_2 : Int) (v8_3 : Int) : V.St := ⟨[(0, .v false [.val (.sl (.cons (.int .i64) (.cons (.int .i64) (.cons (.int .i64) .nil))) x0)]), (1, .v false [.val (.sl (.cons (.int .i64) (.cons (.int .i64) (.cons (.int .i64) .nil))) x1)]), (12, .v false [.val (.int .i64 v8_2)]), (13, .v false [.val (.int .i64 v8_3)])], []⟩
theorem slices_Equal_impl_Mark.r8 (x0 : List TMark) (x1 : List TMark) (R : V.St → Option Bool) (v8_2 : Int) (v8_3 : Int) : V.loopF slices_Equal_impl_Mark.E Try.f36.ntmps [1, 1, 0, 1, 0] [] (V.codeOf Try.f36) (slices_Equal_impl_Mark.kt x0 x1) R (slices_Equal_impl_Mark.s8 x0 x1 v8_2 v8_3) = slices_Equal_impl_Mark.g8 x0 x1 (fun v8_2 v8_3 => R (slices_Equal_impl_Mark.s8 x0 x1 v8_2 v8_3)) v8_2 v8_3 := by kernel_rfl
theorem slices_Equal_impl_Mark.e8 (x0 : List TMark) (x1 : List TMark) : ∀ (n : Nat) (v8_2 : Int) (v8_3 : Int), V.loopN (V.loopF slices_Equal_impl_Mark.E Try.f36.ntmps [1, 1, 0, 1, 0] [] (V.codeOf Try.f36) (slices_Equal_impl_Mark.kt x0 x1)) n (slices_Equal_impl_Mark.s8 x0 x1 v8_2 v8_3) = slices_Equal_impl_Mark.l8 x0 x1 n v8_2 v8_3 := by
  intro n
  induction n with
  | zero => intros; rfl
  | succ n ih =>
    intro v8_2 v8_3
    show V.loopF slices_Equal_impl_Mark.E Try.f36.ntmps [1, 1, 0, 1, 0] [] (V.codeOf Try.f36) (slices_Equal_impl_Mark.kt x0 x1) (V.loopN (V.loopF slices_Equal_impl_Mark.E Try.f36.ntmps [1, 1, 0, 1, 0] [] (V.codeOf Try.f36) (slices_Equal_impl_Mark.kt x0 x1)) n) (slices_Equal_impl_Mark.s8 x0 x1 v8_2 v8_3) = _
    rw [slices_Equal_impl_Mark.r8]
    simp only [ih]
    rfl
theorem slices_Equal_impl_Mark.v (x0 : List TMark) (x1 : List TMark) : V.evBody slices_Equal_impl_Mark.E slices_Equal_impl_Mark.con Try.f36 ((x0, x1) : List TMark × List TMark) = slices_Equal_impl_Mark.b x0 x1 (fun v8_2 v8_3 => V.loopN (V.loopF slices_Equal_impl_Mark.E Try.f36.ntmps [1, 1, 0, 1, 0] [] (V.codeOf Try.f36) (slices_Equal_impl_Mark.kt x0 x1)) V.KK (slices_Equal_impl_Mark.s8 x0 x1 v8_2 v8_3)) := by kernel_rfl
theorem slices_Equal_impl_Mark.eq (x0 : List TMark) (x1 : List TMark) : V.evBody slices_Equal_impl_Mark.E slices_Equal_impl_Mark.con Try.f36 ((x0, x1) : List TMark × List TMark) = slices_Equal_impl_Mark x0 x1 := by
  rw [slices_Equal_impl_Mark.v]
  simp only [slices_Equal_impl_Mark.e8]
  rfl
theorem slices_Equal_impl_Mark.ok : V.Valid Try.prog 36 slices_Equal_impl_Mark.con :=
  V.body_ok (V.env_ok V.mixed V.tysOk V.tab_nil) Try.func36 (by kernel_rfl) (by kernel_rfl) (by kernel_rfl) (fun x y h => (show V.evBody slices_Equal_impl_Mark.E slices_Equal_impl_Mark.con Try.f36 x = _ from slices_Equal_impl_Mark.eq x.1 x.2).trans h)
noncomputable abbrev impl_EqualWitnesses.con : V.Con := ⟨(.cons (.int .i64) (.cons (.sl (.cons (.int .i64) (.cons (.int .i64) (.cons (.int .i64) .nil)))) (.cons (.int .i64) (.cons (.sl (.cons (.int .i64) (.cons (.int .i64) (.cons (.int .i64) .nil)))) .nil)))), (.cons .bool .nil), fun (x : Int × List TMark × Int × List TMark) => impl_EqualWitnesses (x.1, x.2.1) x.2.2, [], [(true, 2), (true, 2)], [(false, 1)], [false], []⟩
noncomputable abbrev impl_EqualWitnesses.E : V.Env := V.mkE V.tys [(36, slices_Equal_impl_Mark.con)] [] [] [] []
noncomputable abbrev impl_EqualWitnesses.kt (x0 : TWitness) (x1 : TWitness) : V.Kt Bool := V.ktOf impl_EqualWitnesses.E impl_EqualWitnesses.con Try.f22 ((x0.1, x0.2, x1.1, x1.2) : Int × List TMark × Int × List TMark)
theorem impl_EqualWitnesses.eq (x0 : TWitness) (x1 : TWitness) : V.evBody impl_EqualWitnesses.E impl_EqualWitnesses.con Try.f22 ((x0.1, x0.2, x1.1, x1.2) : Int × List TMark × Int × List TMark) = impl_EqualWitnesses x0 x1 := by kernel_rfl
theorem impl_EqualWitnesses.ok : V.Valid Try.prog 22 impl_EqualWitnesses.con :=
  V.body_ok (V.env_ok V.mixed V.tysOk (V.tab_cons slices_Equal_impl_Mark.ok V.tab_nil)) Try.func22 (by kernel_rfl) (by kernel_rfl) (by kernel_rfl) (fun x y h => (show V.evBody impl_EqualWitnesses.E impl_EqualWitnesses.con Try.f22 x = _ from impl_EqualWitnesses.eq (x.1, x.2.1) x.2.2).trans h)
noncomputable abbrev laws_eqMark.con : V.Con := ⟨(.cons (.int .i64) (.cons (.int .i64) (.cons (.int .i64) (.cons (.int .i64) (.cons (.int .i64) (.cons (.int .i64) .nil)))))), (.cons .bool .nil), fun (x : Int × Int × Int × Int × Int × Int) => laws_eqMark (x.1, x.2.1, x.2.2.1) x.2.2.2, [], [(true, 3), (true, 3)], [(false, 1)], [false], []⟩
noncomputable abbrev laws_eqMark.E : V.Env := V.mkE V.tys [] [] [] [] []
noncomputable abbrev laws_eqMark.kt (x0 : TMark) (x1 : TMark) : V.Kt Bool := V.ktOf laws_eqMark.E laws_eqMark.con Try.f30 ((x0.1, x0.2.1, x0.2.2, x1.1, x1.2.1, x1.2.2) : Int × Int × Int × Int × Int × Int)
theorem laws_eqMark.eq (x0 : TMark) (x1 : TMark) : V.evBody laws_eqMark.E laws_eqMark.con Try.f30 ((x0.1, x0.2.1, x0.2.2, x1.1, x1.2.1, x1.2.2) : Int × Int × Int × Int × Int × Int) = laws_eqMark x0 x1 := by kernel_rfl
theorem laws_eqMark.ok : V.Valid Try.prog 30 laws_eqMark.con :=
  V.body_ok (V.env_ok V.mixed V.tysOk V.tab_nil) Try.func30 (by kernel_rfl) (by kernel_rfl) (by kernel_rfl) (fun x y h => (show V.evBody laws_eqMark.E laws_eqMark.con Try.f30 x = _ from laws_eqMark.eq (x.1, x.2.1, x.2.2.1) x.2.2.2).trans h)
noncomputable abbrev laws_eqMarkS.con : V.Con := ⟨(.cons (.sl (.cons (.int .i64) (.cons (.int .i64) (.cons (.int .i64) .nil)))) (.cons (.sl (.cons (.int .i64) (.cons (.int .i64) (.cons (.int .i64) .nil)))) .nil)), (.cons .bool .nil), fun (x : List TMark × List TMark) => laws_eqMarkS x.1 x.2, [], [(false, 1), (false, 1)], [(false, 1)], [false], []⟩
noncomputable abbrev laws_eqMarkS.E : V.Env := V.mkE V.tys [(30, laws_eqMark.con)] [(8, [0, 1, 5], [])] [(6, 8)] [] []
noncomputable abbrev laws_eqMarkS.kt (x0 : List TMark) (x1 : List TMark) : V.Kt Bool := V.ktOf laws_eqMarkS.E laws_eqMarkS.con Try.f37 ((x0, x1) : List TMark × List TMark)
noncomputable abbrev laws_eqMarkS.s8 (x0 : List TMark) (x1 : List TMark) (v8_2 : Int) : V.St := ⟨[(0, .v false [.val (.sl (.cons (.int .i64) (.cons (.int .i64) (.cons (.int .i64) .nil))) x0)]), (1, .v false [.val (.sl (.cons (.int .i64) (.cons (.int .i64) (.cons (.int .i64) .nil))) x1)]), (5, .v false [.val (.int .i64 v8_2)])], []⟩
theorem laws_eqMarkS.r8 (x0 : List TMark) (x1 : List TMark) (R : V.St → Option Bool) (v8_2 : Int) : V.loopF laws_eqMarkS.E Try.f37.ntmps [1, 1, 0, 1, 0] [] (V.codeOf Try.f37) (laws_eqMarkS.kt x0 x1) R (laws_eqMarkS.s8 x0 x1 v8_2) = laws_eqMarkS.g8 x0 x1 (fun v8_2 => R (laws_eqMarkS.s8 x0 x1 v8_2)) v8_2 := by kernel_rfl
theorem laws_eqMarkS.e8 (x0 : List TMark) (x1 : List TMark) : ∀ (n : Nat) (v8_2 : Int), V.loopN (V.loopF laws_eqMarkS.E Try.f37.ntmps [1, 1, 0, 1, 0] [] (V.codeOf Try.f37) (laws_eqMarkS.kt x0 x1)) n (laws_eqMarkS.s8 x0 x1 v8_2) = laws_eqMarkS.l8 x0 x1 n v8_2 := by
  intro n
  induction n with
  | zero => intros; rfl
  | succ n ih =>
    intro v8_2
    show V.loopF laws_eqMarkS.E Try.f37.ntmps [1, 1, 0, 1, 0] [] (V.codeOf Try.f37) (laws_eqMarkS.kt x0 x1) (V.loopN (V.loopF laws_eqMarkS.E Try.f37.ntmps [1, 1, 0, 1, 0] [] (V.codeOf Try.f37) (laws_eqMarkS.kt x0 x1)) n) (laws_eqMarkS.s8 x0 x1 v8_2) = _
    rw [laws_eqMarkS.r8]
    simp only [ih]
    rfl
theorem laws_eqMarkS.v (x0 : List TMark) (x1 : List TMark) : V.evBody laws_eqMarkS.E laws_eqMarkS.con Try.f37 ((x0, x1) : List TMark × List TMark) = laws_eqMarkS.b x0 x1 (fun v8_2 => V.loopN (V.loopF laws_eqMarkS.E Try.f37.ntmps [1, 1, 0, 1, 0] [] (V.codeOf Try.f37) (laws_eqMarkS.kt x0 x1)) V.KK (laws_eqMarkS.s8 x0 x1 v8_2)) := by kernel_rfl
theorem laws_eqMarkS.eq (x0 : List TMark) (x1 : List TMark) : V.evBody laws_eqMarkS.E laws_eqMarkS.con Try.f37 ((x0, x1) : List TMark × List TMark) = laws_eqMarkS x0 x1 := by
  rw [laws_eqMarkS.v]
  simp only [laws_eqMarkS.e8]
  rfl
theorem laws_eqMarkS.ok : V.Valid Try.prog 37 laws_eqMarkS.con :=
  V.body_ok (V.env_ok V.mixed V.tysOk (V.tab_cons laws_eqMark.ok V.tab_nil)) Try.func37 (by kernel_rfl) (by kernel_rfl) (by kernel_rfl) (fun x y h => (show V.evBody laws_eqMarkS.E laws_eqMarkS.con Try.f37 x = _ from laws_eqMarkS.eq x.1 x.2).trans h)
noncomputable abbrev laws_eqWitness.con : V.Con := ⟨(.cons (.int .i64) (.cons (.sl (.cons (.int .i64) (.cons (.int .i64) (.cons (.int .i64) .nil)))) (.cons (.int .i64) (.cons (.sl (.cons (.int .i64) (.cons (.int .i64) (.cons (.int .i64) .nil)))) .nil)))), (.cons .bool .nil), fun (x : Int × List TMark × Int × List TMark) => laws_eqWitness (x.1, x.2.1) x.2.2, [], [(true, 2), (true, 2)], [(false, 1)], [false], []⟩
noncomputable abbrev laws_eqWitness.E : V.Env := V.mkE V.tys [(37, laws_eqMarkS.con)] [] [] [] []
noncomputable abbrev laws_eqWitness.kt (x0 : TWitness) (x1 : TWitness) : V.Kt Bool := V.ktOf laws_eqWitness.E laws_eqWitness.con Try.f23 ((x0.1, x0.2, x1.1, x1.2) : Int × List TMark × Int × List TMark)
theorem laws_eqWitness.eq (x0 : TWitness) (x1 : TWitness) : V.evBody laws_eqWitness.E laws_eqWitness.con Try.f23 ((x0.1, x0.2, x1.1, x1.2) : Int × List TMark × Int × List TMark) = laws_eqWitness x0 x1 := by kernel_rfl
theorem laws_eqWitness.ok : V.Valid Try.prog 23 laws_eqWitness.con :=
  V.body_ok (V.env_ok V.mixed V.tysOk (V.tab_cons laws_eqMarkS.ok V.tab_nil)) Try.func23 (by kernel_rfl) (by kernel_rfl) (by kernel_rfl) (fun x y h => (show V.evBody laws_eqWitness.E laws_eqWitness.con Try.f23 x = _ from laws_eqWitness.eq (x.1, x.2.1) x.2.2).trans h)
noncomputable abbrev laws_FnExactEqualWitnesses.con : V.Con := ⟨(.cons (.int .i64) (.cons (.sl (.cons (.int .i64) (.cons (.int .i64) (.cons (.int .i64) .nil)))) (.cons (.int .i64) (.cons (.sl (.cons (.int .i64) (.cons (.int .i64) (.cons (.int .i64) .nil)))) .nil)))), (.cons .bool .nil), fun (x : Int × List TMark × Int × List TMark) => laws_FnExactEqualWitnesses (x.1, x.2.1) x.2.2, [], [(true, 2), (true, 2)], [(false, 1)], [false], []⟩
noncomputable abbrev laws_FnExactEqualWitnesses.E : V.Env := V.mkE V.tys [(19, laws_szWitness.con), (20, spec_EqualWitnesses.con), (21, laws_toWitness.con), (22, impl_EqualWitnesses.con), (23, laws_eqWitness.con)] [] [(8, 3), (14, 3), (16, 3)] [] []
noncomputable abbrev laws_FnExactEqualWitnesses.kt (x0 : TWitness) (x1 : TWitness) : V.Kt Bool := V.ktOf laws_FnExactEqualWitnesses.E laws_FnExactEqualWitnesses.con Try.f6 ((x0.1, x0.2, x1.1, x1.2) : Int × List TMark × Int × List TMark)
theorem laws_FnExactEqualWitnesses.eq (x0 : TWitness) (x1 : TWitness) : V.evBody laws_FnExactEqualWitnesses.E laws_FnExactEqualWitnesses.con Try.f6 ((x0.1, x0.2, x1.1, x1.2) : Int × List TMark × Int × List TMark) = laws_FnExactEqualWitnesses x0 x1 := by kernel_rfl
theorem laws_FnExactEqualWitnesses.ok : V.Valid Try.prog 6 laws_FnExactEqualWitnesses.con :=
  V.body_ok (V.env_ok V.mixed V.tysOk (V.tab_cons laws_szWitness.ok (V.tab_cons spec_EqualWitnesses.ok (V.tab_cons laws_toWitness.ok (V.tab_cons impl_EqualWitnesses.ok (V.tab_cons laws_eqWitness.ok V.tab_nil)))))) Try.func6 (by kernel_rfl) (by kernel_rfl) (by kernel_rfl) (fun x y h => (show V.evBody laws_FnExactEqualWitnesses.E laws_FnExactEqualWitnesses.con Try.f6 x = _ from laws_FnExactEqualWitnesses.eq (x.1, x.2.1) x.2.2).trans h)
end Go.Proofs.Ytchhidcbfladhaa
