/- That the functions compute it. -/
import Derived.Test.YtchhidcbfladhaaXMarkOfPure0
import Derived.Test.YtchhidcbfladhaaProg
namespace Go.Proofs.Ytchhidcbfladhaa
set_option linter.unusedVariables false
set_option maxRecDepth 100000
namespace V
abbrev tys : List (Nat × TI) := [(3, ⟨.int .i64, false, [.val (.int .i64 (0 : Int))], 8, [], (.cons (.int .i64) .nil)⟩),
  (4, ⟨.bool, false, [.val (.bool false)], 1, [], (.cons .bool .nil)⟩),
  (26, ⟨.sl 3, false, [.nil0], 24, [], (.cons (.sl (.cons (.int .i64) .nil)) .nil)⟩),
  (28, ⟨.st, true, [.val (.int .i64 (0 : Int)), .val (.int .i64 (0 : Int)), .val (.int .i64 (0 : Int))], 24, [(0, 1, false), (1, 1, false), (2, 1, false)], (.cons (.int .i64) (.cons (.int .i64) (.cons (.int .i64) .nil)))⟩),
  (46, ⟨.st, false, [.nil0, .val (.int .i64 (0 : Int))], 32, [(0, 1, false), (1, 1, false)], (.cons (.sl (.cons (.int .i64) .nil)) (.cons (.int .i64) .nil))⟩),
  (48, ⟨.st, false, [.val (.int .i64 (0 : Int)), .val (.int .i64 (0 : Int)), .val (.int .i64 (0 : Int)), .val (.int .i64 (0 : Int)), .val (.int .i64 (0 : Int)), .val (.int .i64 (0 : Int)), .val (.int .i64 (0 : Int)), .val (.int .i64 (0 : Int)), .nil0, .val (.int .i64 (0 : Int)), .nil0, .val (.int .i64 (0 : Int)), .val (.int .i64 (0 : Int)), .nil0, .val (.int .i64 (0 : Int)), .val (.bool false)], 176, [(0, 1, false), (1, 1, false), (2, 1, false), (3, 1, false), (4, 1, false), (5, 1, false), (6, 1, false), (7, 1, false), (8, 2, true), (10, 2, true), (12, 1, false), (13, 2, true), (15, 1, false)], (.cons (.int .i64) (.cons (.int .i64) (.cons (.int .i64) (.cons (.int .i64) (.cons (.int .i64) (.cons (.int .i64) (.cons (.int .i64) (.cons (.int .i64) (.cons (.sl (.cons (.int .i64) .nil)) (.cons (.int .i64) (.cons (.sl (.cons (.int .i64) .nil)) (.cons (.int .i64) (.cons (.int .i64) (.cons (.sl (.cons (.int .i64) .nil)) (.cons (.int .i64) (.cons .bool .nil))))))))))))))))⟩),
  (51, ⟨.st, false, [.nil0, .val (.int .i64 (0 : Int))], 32, [(0, 1, false), (1, 1, false)], (.cons (.sl (.cons (.int .i64) .nil)) (.cons (.int .i64) .nil))⟩),
  (53, ⟨.st, false, [.val (.int .i64 (0 : Int)), .val (.int .i64 (0 : Int)), .val (.int .i64 (0 : Int)), .val (.int .i64 (0 : Int)), .val (.int .i64 (0 : Int)), .val (.int .i64 (0 : Int)), .val (.int .i64 (0 : Int)), .val (.int .i64 (0 : Int)), .nil0, .val (.int .i64 (0 : Int)), .nil0, .val (.int .i64 (0 : Int)), .val (.int .i64 (0 : Int)), .nil0, .val (.int .i64 (0 : Int)), .val (.bool false)], 176, [(0, 1, false), (1, 1, false), (2, 1, false), (3, 1, false), (4, 1, false), (5, 1, false), (6, 1, false), (7, 1, false), (8, 2, true), (10, 2, true), (12, 1, false), (13, 2, true), (15, 1, false)], (.cons (.int .i64) (.cons (.int .i64) (.cons (.int .i64) (.cons (.int .i64) (.cons (.int .i64) (.cons (.int .i64) (.cons (.int .i64) (.cons (.int .i64) (.cons (.sl (.cons (.int .i64) .nil)) (.cons (.int .i64) (.cons (.sl (.cons (.int .i64) .nil)) (.cons (.int .i64) (.cons (.int .i64) (.cons (.sl (.cons (.int .i64) .nil)) (.cons (.int .i64) (.cons .bool .nil))))))))))))))))⟩),
  (79, ⟨.sl 26, false, [.nil0], 24, [], (.cons (.sl (.cons (.sl (.cons (.int .i64) .nil)) .nil)) .nil)⟩)]
theorem tysOk : tyAll Try.prog tys = true := by kernel_rfl
theorem mixed : Try.prog.follows .mixedOrders = true := by kernel_rfl
end V
noncomputable abbrev laws_szIntS.con : V.Con := ⟨(.cons (.sl (.cons (.int .i64) .nil)) (.cons (.int .i64) .nil)), (.cons (.int .i64) .nil), fun (x : List Int × Int) => laws_szIntS x.1 x.2, [], [(false, 1), (false, 1)], [(false, 1)], [false], []⟩
noncomputable abbrev laws_szIntS.E : V.Env := V.mkE V.tys [] [] [] [] []
noncomputable abbrev laws_szIntS.kt (x0 : List Int) (x1 : Int) : V.Kt Int := V.ktOf laws_szIntS.E laws_szIntS.con Try.f50 ((x0, x1) : List Int × Int)
theorem laws_szIntS.eq (x0 : List Int) (x1 : Int) : V.evBody laws_szIntS.E laws_szIntS.con Try.f50 ((x0, x1) : List Int × Int) = laws_szIntS x0 x1 := by kernel_rfl
theorem laws_szIntS.ok : V.Valid Try.prog 50 laws_szIntS.con :=
  V.body_ok (V.env_ok V.mixed V.tysOk V.tab_nil) Try.func50 (by kernel_rfl) (by kernel_rfl) (by kernel_rfl) (fun x y h => (show V.evBody laws_szIntS.E laws_szIntS.con Try.f50 x = _ from laws_szIntS.eq x.1 x.2).trans h)
noncomputable abbrev laws_szKeys.con : V.Con := ⟨(.cons (.sl (.cons (.int .i64) .nil)) (.cons (.int .i64) (.cons (.int .i64) .nil))), (.cons (.int .i64) .nil), fun (x : List Int × Int × Int) => laws_szKeys (x.1, x.2.1) x.2.2, [], [(true, 2), (false, 1)], [(false, 1)], [false], []⟩
noncomputable abbrev laws_szKeys.E : V.Env := V.mkE V.tys [(50, laws_szIntS.con)] [] [] [] []
noncomputable abbrev laws_szKeys.kt (x0 : TKeys) (x1 : Int) : V.Kt Int := V.ktOf laws_szKeys.E laws_szKeys.con Try.f44 ((x0.1, x0.2, x1) : List Int × Int × Int)
theorem laws_szKeys.eq (x0 : TKeys) (x1 : Int) : V.evBody laws_szKeys.E laws_szKeys.con Try.f44 ((x0.1, x0.2, x1) : List Int × Int × Int) = laws_szKeys x0 x1 := by kernel_rfl
theorem laws_szKeys.ok : V.Valid Try.prog 44 laws_szKeys.con :=
  V.body_ok (V.env_ok V.mixed V.tysOk (V.tab_cons laws_szIntS.ok V.tab_nil)) Try.func44 (by kernel_rfl) (by kernel_rfl) (by kernel_rfl) (fun x y h => (show V.evBody laws_szKeys.E laws_szKeys.con Try.f44 x = _ from laws_szKeys.eq (x.1, x.2.1) x.2.2).trans h)
noncomputable abbrev laws_szHead.con : V.Con := ⟨(.cons (.int .i64) (.cons (.int .i64) (.cons (.int .i64) (.cons (.int .i64) (.cons (.int .i64) (.cons (.int .i64) (.cons (.int .i64) (.cons (.int .i64) (.cons (.sl (.cons (.int .i64) .nil)) (.cons (.int .i64) (.cons (.sl (.cons (.int .i64) .nil)) (.cons (.int .i64) (.cons (.int .i64) (.cons (.sl (.cons (.int .i64) .nil)) (.cons (.int .i64) (.cons .bool (.cons (.int .i64) .nil))))))))))))))))), (.cons (.int .i64) .nil), fun (x : Int × Int × Int × Int × Int × Int × Int × Int × List Int × Int × List Int × Int × Int × List Int × Int × Bool × Int) => laws_szHead (x.1, x.2.1, x.2.2.1, x.2.2.2.1, x.2.2.2.2.1, x.2.2.2.2.2.1, x.2.2.2.2.2.2.1, x.2.2.2.2.2.2.2.1, x.2.2.2.2.2.2.2.2.1, x.2.2.2.2.2.2.2.2.2.1, x.2.2.2.2.2.2.2.2.2.2.1, x.2.2.2.2.2.2.2.2.2.2.2.1, x.2.2.2.2.2.2.2.2.2.2.2.2.1, x.2.2.2.2.2.2.2.2.2.2.2.2.2.1, x.2.2.2.2.2.2.2.2.2.2.2.2.2.2.1, x.2.2.2.2.2.2.2.2.2.2.2.2.2.2.2.1) x.2.2.2.2.2.2.2.2.2.2.2.2.2.2.2.2, [], [(true, 16), (false, 1)], [(false, 1)], [false], []⟩
noncomputable abbrev laws_szHead.E : V.Env := V.mkE V.tys [(44, laws_szKeys.con)] [] [] [] []
noncomputable abbrev laws_szHead.kt (x0 : THead) (x1 : Int) : V.Kt Int := V.ktOf laws_szHead.E laws_szHead.con Try.f26 ((x0.1, x0.2.1, x0.2.2.1, x0.2.2.2.1, x0.2.2.2.2.1, x0.2.2.2.2.2.1, x0.2.2.2.2.2.2.1, x0.2.2.2.2.2.2.2.1, x0.2.2.2.2.2.2.2.2.1, x0.2.2.2.2.2.2.2.2.2.1, x0.2.2.2.2.2.2.2.2.2.2.1, x0.2.2.2.2.2.2.2.2.2.2.2.1, x0.2.2.2.2.2.2.2.2.2.2.2.2.1, x0.2.2.2.2.2.2.2.2.2.2.2.2.2.1, x0.2.2.2.2.2.2.2.2.2.2.2.2.2.2.1, x0.2.2.2.2.2.2.2.2.2.2.2.2.2.2.2, x1) : Int × Int × Int × Int × Int × Int × Int × Int × List Int × Int × List Int × Int × Int × List Int × Int × Bool × Int)
theorem laws_szHead.eq (x0 : THead) (x1 : Int) : V.evBody laws_szHead.E laws_szHead.con Try.f26 ((x0.1, x0.2.1, x0.2.2.1, x0.2.2.2.1, x0.2.2.2.2.1, x0.2.2.2.2.2.1, x0.2.2.2.2.2.2.1, x0.2.2.2.2.2.2.2.1, x0.2.2.2.2.2.2.2.2.1, x0.2.2.2.2.2.2.2.2.2.1, x0.2.2.2.2.2.2.2.2.2.2.1, x0.2.2.2.2.2.2.2.2.2.2.2.1, x0.2.2.2.2.2.2.2.2.2.2.2.2.1, x0.2.2.2.2.2.2.2.2.2.2.2.2.2.1, x0.2.2.2.2.2.2.2.2.2.2.2.2.2.2.1, x0.2.2.2.2.2.2.2.2.2.2.2.2.2.2.2, x1) : Int × Int × Int × Int × Int × Int × Int × Int × List Int × Int × List Int × Int × Int × List Int × Int × Bool × Int) = laws_szHead x0 x1 := by kernel_rfl
theorem laws_szHead.ok : V.Valid Try.prog 26 laws_szHead.con :=
  V.body_ok (V.env_ok V.mixed V.tysOk (V.tab_cons laws_szKeys.ok V.tab_nil)) Try.func26 (by kernel_rfl) (by kernel_rfl) (by kernel_rfl) (fun x y h => (show V.evBody laws_szHead.E laws_szHead.con Try.f26 x = _ from laws_szHead.eq (x.1, x.2.1, x.2.2.1, x.2.2.2.1, x.2.2.2.2.1, x.2.2.2.2.2.1, x.2.2.2.2.2.2.1, x.2.2.2.2.2.2.2.1, x.2.2.2.2.2.2.2.2.1, x.2.2.2.2.2.2.2.2.2.1, x.2.2.2.2.2.2.2.2.2.2.1, x.2.2.2.2.2.2.2.2.2.2.2.1, x.2.2.2.2.2.2.2.2.2.2.2.2.1, x.2.2.2.2.2.2.2.2.2.2.2.2.2.1, x.2.2.2.2.2.2.2.2.2.2.2.2.2.2.1, x.2.2.2.2.2.2.2.2.2.2.2.2.2.2.2.1) x.2.2.2.2.2.2.2.2.2.2.2.2.2.2.2.2).trans h)
noncomputable abbrev laws_toIntS.con : V.Con := ⟨(.cons (.sl (.cons (.int .i64) .nil)) .nil), (.cons (.sl (.cons (.int .i64) .nil)) .nil), fun (x : List Int) => laws_toIntS x, [], [(false, 1)], [(false, 1)], [true], []⟩
noncomputable abbrev laws_toIntS.E : V.Env := V.mkE V.tys [] [(6, [0, 3, 4], [])] [] [] []
noncomputable abbrev laws_toIntS.kt (x0 : List Int) : V.Kt (List Int) := V.ktOf laws_toIntS.E laws_toIntS.con Try.f53 ((x0) : List Int)
noncomputable abbrev laws_toIntS.s6 (x0 : List Int) (v6_1 : Int) (v6_2 : List Int) : V.St := ⟨[(0, .v false [.val (.sl (.cons (.int .i64) .nil) x0)]), (3, .v false [.ref 64000038400192]), (4, .v false [.val (.int .i64 v6_1)])], [(64000038400192, .row (.cons (.int .i64) .nil) true v6_2)]⟩
theorem laws_toIntS.r6 (x0 : List Int) (R : V.St → Option (List Int)) (v6_1 : Int) (v6_2 : List Int) : V.loopF laws_toIntS.E Try.f53.ntmps [1, 1, 0, 1, 0] [] (V.codeOf Try.f53) (laws_toIntS.kt x0) R (laws_toIntS.s6 x0 v6_1 v6_2) = laws_toIntS.g6 x0 (fun v6_1 v6_2 => R (laws_toIntS.s6 x0 v6_1 v6_2)) v6_1 v6_2 := by kernel_rfl
theorem laws_toIntS.e6 (x0 : List Int) : ∀ (n : Nat) (v6_1 : Int) (v6_2 : List Int), V.loopN (V.loopF laws_toIntS.E Try.f53.ntmps [1, 1, 0, 1, 0] [] (V.codeOf Try.f53) (laws_toIntS.kt x0)) n (laws_toIntS.s6 x0 v6_1 v6_2) = laws_toIntS.l6 x0 n v6_1 v6_2 := by
  intro n
  induction n with
  | zero => intros; rfl
  | succ n ih =>
    intro v6_1 v6_2
    show V.loopF laws_toIntS.E Try.f53.ntmps [1, 1, 0, 1, 0] [] (V.codeOf Try.f53) (laws_toIntS.kt x0) (V.loopN (V.loopF laws_toIntS.E Try.f53.ntmps [1, 1, 0, 1, 0] [] (V.codeOf Try.f53) (laws_toIntS.kt x0)) n) (laws_toIntS.s6 x0 v6_1 v6_2) = _
    rw [laws_toIntS.r6]
    simp only [ih]
    rfl
theorem laws_toIntS.v (x0 : List Int) : V.evBody laws_toIntS.E laws_toIntS.con Try.f53 ((x0) : List Int) = laws_toIntS.b x0 (fun v6_1 v6_2 => V.loopN (V.loopF laws_toIntS.E Try.f53.ntmps [1, 1, 0, 1, 0] [] (V.codeOf Try.f53) (laws_toIntS.kt x0)) V.KK (laws_toIntS.s6 x0 v6_1 v6_2)) := by kernel_rfl
theorem laws_toIntS.eq (x0 : List Int) : V.evBody laws_toIntS.E laws_toIntS.con Try.f53 ((x0) : List Int) = laws_toIntS x0 := by
  rw [laws_toIntS.v]
  simp only [laws_toIntS.e6]
  rfl
theorem laws_toIntS.ok : V.Valid Try.prog 53 laws_toIntS.con :=
  V.body_ok (V.env_ok V.mixed V.tysOk V.tab_nil) Try.func53 (by kernel_rfl) (by kernel_rfl) (by kernel_rfl) (fun x y h => (show V.evBody laws_toIntS.E laws_toIntS.con Try.f53 x = _ from laws_toIntS.eq x).trans h)
noncomputable abbrev laws_toKeys.con : V.Con := ⟨(.cons (.sl (.cons (.int .i64) .nil)) (.cons (.int .i64) .nil)), (.cons (.sl (.cons (.int .i64) .nil)) (.cons (.int .i64) .nil)), fun (x : List Int × Int) => laws_toKeys x, [], [(true, 2)], [(true, 2)], [true, false], []⟩
noncomputable abbrev laws_toKeys.E : V.Env := V.mkE V.tys [(53, laws_toIntS.con)] [] [] [] []
noncomputable abbrev laws_toKeys.kt (x0 : TKeys) : V.Kt TKeys := V.ktOf laws_toKeys.E laws_toKeys.con Try.f46 ((x0.1, x0.2) : List Int × Int)
theorem laws_toKeys.eq (x0 : TKeys) : V.evBody laws_toKeys.E laws_toKeys.con Try.f46 ((x0.1, x0.2) : List Int × Int) = laws_toKeys x0 := by kernel_rfl
theorem laws_toKeys.ok : V.Valid Try.prog 46 laws_toKeys.con :=
  V.body_ok (V.env_ok V.mixed V.tysOk (V.tab_cons laws_toIntS.ok V.tab_nil)) Try.func46 (by kernel_rfl) (by kernel_rfl) (by kernel_rfl) (fun x y h => (show V.evBody laws_toKeys.E laws_toKeys.con Try.f46 x = _ from laws_toKeys.eq x).trans h)
noncomputable abbrev laws_toHead.con : V.Con := ⟨(.cons (.int .i64) (.cons (.int .i64) (.cons (.int .i64) (.cons (.int .i64) (.cons (.int .i64) (.cons (.int .i64) (.cons (.int .i64) (.cons (.int .i64) (.cons (.sl (.cons (.int .i64) .nil)) (.cons (.int .i64) (.cons (.sl (.cons (.int .i64) .nil)) (.cons (.int .i64) (.cons (.int .i64) (.cons (.sl (.cons (.int .i64) .nil)) (.cons (.int .i64) (.cons .bool .nil)))))))))))))))), (.cons (.int .i64) (.cons (.int .i64) (.cons (.int .i64) (.cons (.int .i64) (.cons (.int .i64) (.cons (.int .i64) (.cons (.int .i64) (.cons (.int .i64) (.cons (.sl (.cons (.int .i64) .nil)) (.cons (.int .i64) (.cons (.sl (.cons (.int .i64) .nil)) (.cons (.int .i64) (.cons (.int .i64) (.cons (.sl (.cons (.int .i64) .nil)) (.cons (.int .i64) (.cons .bool .nil)))))))))))))))), fun (x : Int × Int × Int × Int × Int × Int × Int × Int × List Int × Int × List Int × Int × Int × List Int × Int × Bool) => laws_toHead x, [], [(true, 16)], [(true, 16)], [false, false, false, false, false, false, false, false, true, false, true, false, false, true, false, false], []⟩
noncomputable abbrev laws_toHead.E : V.Env := V.mkE V.tys [(46, laws_toKeys.con)] [] [] [] []
noncomputable abbrev laws_toHead.kt (x0 : THead) : V.Kt THead := V.ktOf laws_toHead.E laws_toHead.con Try.f28 ((x0.1, x0.2.1, x0.2.2.1, x0.2.2.2.1, x0.2.2.2.2.1, x0.2.2.2.2.2.1, x0.2.2.2.2.2.2.1, x0.2.2.2.2.2.2.2.1, x0.2.2.2.2.2.2.2.2.1, x0.2.2.2.2.2.2.2.2.2.1, x0.2.2.2.2.2.2.2.2.2.2.1, x0.2.2.2.2.2.2.2.2.2.2.2.1, x0.2.2.2.2.2.2.2.2.2.2.2.2.1, x0.2.2.2.2.2.2.2.2.2.2.2.2.2.1, x0.2.2.2.2.2.2.2.2.2.2.2.2.2.2.1, x0.2.2.2.2.2.2.2.2.2.2.2.2.2.2.2) : Int × Int × Int × Int × Int × Int × Int × Int × List Int × Int × List Int × Int × Int × List Int × Int × Bool)
theorem laws_toHead.eq (x0 : THead) : V.evBody laws_toHead.E laws_toHead.con Try.f28 ((x0.1, x0.2.1, x0.2.2.1, x0.2.2.2.1, x0.2.2.2.2.1, x0.2.2.2.2.2.1, x0.2.2.2.2.2.2.1, x0.2.2.2.2.2.2.2.1, x0.2.2.2.2.2.2.2.2.1, x0.2.2.2.2.2.2.2.2.2.1, x0.2.2.2.2.2.2.2.2.2.2.1, x0.2.2.2.2.2.2.2.2.2.2.2.1, x0.2.2.2.2.2.2.2.2.2.2.2.2.1, x0.2.2.2.2.2.2.2.2.2.2.2.2.2.1, x0.2.2.2.2.2.2.2.2.2.2.2.2.2.2.1, x0.2.2.2.2.2.2.2.2.2.2.2.2.2.2.2) : Int × Int × Int × Int × Int × Int × Int × Int × List Int × Int × List Int × Int × Int × List Int × Int × Bool) = laws_toHead x0 := by kernel_rfl
theorem laws_toHead.ok : V.Valid Try.prog 28 laws_toHead.con :=
  V.body_ok (V.env_ok V.mixed V.tysOk (V.tab_cons laws_toKeys.ok V.tab_nil)) Try.func28 (by kernel_rfl) (by kernel_rfl) (by kernel_rfl) (fun x y h => (show V.evBody laws_toHead.E laws_toHead.con Try.f28 x = _ from laws_toHead.eq x).trans h)
noncomputable abbrev spec_KeysInts.con : V.Con := ⟨(.cons (.sl (.cons (.int .i64) .nil)) (.cons (.int .i64) .nil)), (.cons (.sl (.cons (.int .i64) .nil)) .nil), fun (x : List Int × Int) => spec_KeysInts x, [], [(true, 2)], [(false, 1)], [true], []⟩
noncomputable abbrev spec_KeysInts.E : V.Env := V.mkE V.tys [] [] [] [] []
noncomputable abbrev spec_KeysInts.kt (x0 : TKeys) : V.Kt (List Int) := V.ktOf spec_KeysInts.E spec_KeysInts.con Try.f57 ((x0.1, x0.2) : List Int × Int)
theorem spec_KeysInts.eq (x0 : TKeys) : V.evBody spec_KeysInts.E spec_KeysInts.con Try.f57 ((x0.1, x0.2) : List Int × Int) = spec_KeysInts x0 := by kernel_rfl
theorem spec_KeysInts.ok : V.Valid Try.prog 57 spec_KeysInts.con :=
  V.body_ok (V.env_ok V.mixed V.tysOk V.tab_nil) Try.func57 (by kernel_rfl) (by kernel_rfl) (by kernel_rfl) (fun x y h => (show V.evBody spec_KeysInts.E spec_KeysInts.con Try.f57 x = _ from spec_KeysInts.eq x).trans h)
noncomputable abbrev spec_HeadInts.con : V.Con := ⟨(.cons (.int .i64) (.cons (.int .i64) (.cons (.int .i64) (.cons (.int .i64) (.cons (.int .i64) (.cons (.int .i64) (.cons (.int .i64) (.cons (.int .i64) (.cons (.sl (.cons (.int .i64) .nil)) (.cons (.int .i64) (.cons (.sl (.cons (.int .i64) .nil)) (.cons (.int .i64) (.cons (.int .i64) (.cons (.sl (.cons (.int .i64) .nil)) (.cons (.int .i64) (.cons .bool .nil)))))))))))))))), (.cons (.sl (.cons (.int .i64) .nil)) .nil), fun (x : Int × Int × Int × Int × Int × Int × Int × Int × List Int × Int × List Int × Int × Int × List Int × Int × Bool) => spec_HeadInts x, [], [(true, 16)], [(false, 1)], [true], []⟩
noncomputable abbrev spec_HeadInts.E : V.Env := V.mkE V.tys [(57, spec_KeysInts.con)] [] [] [] []
noncomputable abbrev spec_HeadInts.kt (x0 : THead) : V.Kt (List Int) := V.ktOf spec_HeadInts.E spec_HeadInts.con Try.f52 ((x0.1, x0.2.1, x0.2.2.1, x0.2.2.2.1, x0.2.2.2.2.1, x0.2.2.2.2.2.1, x0.2.2.2.2.2.2.1, x0.2.2.2.2.2.2.2.1, x0.2.2.2.2.2.2.2.2.1, x0.2.2.2.2.2.2.2.2.2.1, x0.2.2.2.2.2.2.2.2.2.2.1, x0.2.2.2.2.2.2.2.2.2.2.2.1, x0.2.2.2.2.2.2.2.2.2.2.2.2.1, x0.2.2.2.2.2.2.2.2.2.2.2.2.2.1, x0.2.2.2.2.2.2.2.2.2.2.2.2.2.2.1, x0.2.2.2.2.2.2.2.2.2.2.2.2.2.2.2) : Int × Int × Int × Int × Int × Int × Int × Int × List Int × Int × List Int × Int × Int × List Int × Int × Bool)
theorem spec_HeadInts.eq (x0 : THead) : V.evBody spec_HeadInts.E spec_HeadInts.con Try.f52 ((x0.1, x0.2.1, x0.2.2.1, x0.2.2.2.1, x0.2.2.2.2.1, x0.2.2.2.2.2.1, x0.2.2.2.2.2.2.1, x0.2.2.2.2.2.2.2.1, x0.2.2.2.2.2.2.2.2.1, x0.2.2.2.2.2.2.2.2.2.1, x0.2.2.2.2.2.2.2.2.2.2.1, x0.2.2.2.2.2.2.2.2.2.2.2.1, x0.2.2.2.2.2.2.2.2.2.2.2.2.1, x0.2.2.2.2.2.2.2.2.2.2.2.2.2.1, x0.2.2.2.2.2.2.2.2.2.2.2.2.2.2.1, x0.2.2.2.2.2.2.2.2.2.2.2.2.2.2.2) : Int × Int × Int × Int × Int × Int × Int × Int × List Int × Int × List Int × Int × Int × List Int × Int × Bool) = spec_HeadInts x0 := by kernel_rfl
theorem spec_HeadInts.ok : V.Valid Try.prog 52 spec_HeadInts.con :=
  V.body_ok (V.env_ok V.mixed V.tysOk (V.tab_cons spec_KeysInts.ok V.tab_nil)) Try.func52 (by kernel_rfl) (by kernel_rfl) (by kernel_rfl) (fun x y h => (show V.evBody spec_HeadInts.E spec_HeadInts.con Try.f52 x = _ from spec_HeadInts.eq x).trans h)
noncomputable abbrev spec_l1In.con : V.Con := ⟨(.cons (.int .i64) (.cons (.int .i64) (.cons (.int .i64) .nil))), (.cons .bool .nil), fun (x : Int × Int × Int) => spec_l1In x.1 x.2.1 x.2.2, [], [(false, 1), (false, 1), (false, 1)], [(false, 1)], [false], []⟩
noncomputable abbrev spec_l1In.E : V.Env := V.mkE V.tys [] [] [] [] []
noncomputable abbrev spec_l1In.kt (x0 : Int) (x1 : Int) (x2 : Int) : V.Kt Bool := V.ktOf spec_l1In.E spec_l1In.con Try.f32 ((x0, x1, x2) : Int × Int × Int)
theorem spec_l1In.eq (x0 : Int) (x1 : Int) (x2 : Int) : V.evBody spec_l1In.E spec_l1In.con Try.f32 ((x0, x1, x2) : Int × Int × Int) = spec_l1In x0 x1 x2 := by kernel_rfl
theorem spec_l1In.ok : V.Valid Try.prog 32 spec_l1In.con :=
  V.body_ok (V.env_ok V.mixed V.tysOk V.tab_nil) Try.func32 (by kernel_rfl) (by kernel_rfl) (by kernel_rfl) (fun x y h => (show V.evBody spec_l1In.E spec_l1In.con Try.f32 x = _ from spec_l1In.eq x.1 x.2.1 x.2.2).trans h)
noncomputable abbrev spec_Mod.con : V.Con := ⟨(.cons (.int .i64) (.cons (.int .i64) .nil)), (.cons (.int .i64) .nil), fun (x : Int × Int) => spec_Mod x.1 x.2, [], [(false, 1), (false, 1)], [(false, 1)], [false], []⟩
noncomputable abbrev spec_Mod.E : V.Env := V.mkE V.tys [(32, spec_l1In.con)] [] [] [] []
noncomputable abbrev spec_Mod.kt (x0 : Int) (x1 : Int) : V.Kt Int := V.ktOf spec_Mod.E spec_Mod.con Try.f56 ((x0, x1) : Int × Int)
theorem spec_Mod.eq (x0 : Int) (x1 : Int) : V.evBody spec_Mod.E spec_Mod.con Try.f56 ((x0, x1) : Int × Int) = spec_Mod x0 x1 := by kernel_rfl
theorem spec_Mod.ok : V.Valid Try.prog 56 spec_Mod.con :=
  V.body_ok (V.env_ok V.mixed V.tysOk (V.tab_cons spec_l1In.ok V.tab_nil)) Try.func56 (by kernel_rfl) (by kernel_rfl) (by kernel_rfl) (fun x y h => (show V.evBody spec_Mod.E spec_Mod.con Try.f56 x = _ from spec_Mod.eq x.1 x.2).trans h)
noncomputable abbrev spec_Hash.con : V.Con := ⟨(.cons (.sl (.cons (.int .i64) .nil)) .nil), (.cons (.int .i64) .nil), fun (x : List Int) => spec_Hash x, [], [(false, 1)], [(false, 1)], [false], []⟩
noncomputable abbrev spec_Hash.E : V.Env := V.mkE V.tys [(56, spec_Mod.con)] [(6, [0, 3, 4], [])] [] [] []
noncomputable abbrev spec_Hash.kt (x0 : List Int) : V.Kt Int := V.ktOf spec_Hash.E spec_Hash.con Try.f51 ((x0) : List Int)
noncomputable abbrev spec_Hash.s6 (x0 : List Int) (v6_1 : Int) (v6_2 : Int) : V.St := ⟨[(0, .v false [.val (.sl (.cons (.int .i64) .nil) x0)]), (3, .v false [.val (.int .i64 v6_1)]), (4, .v false [.val (.int .i64 v6_2)])], []⟩
theorem spec_Hash.r6 (x0 : List Int) (R : V.St → Option Int) (v6_1 : Int) (v6_2 : Int) : V.loopF spec_Hash.E Try.f51.ntmps [1, 1, 0, 1, 0] [] (V.codeOf Try.f51) (spec_Hash.kt x0) R (spec_Hash.s6 x0 v6_1 v6_2) = spec_Hash.g6 x0 (fun v6_1 v6_2 => R (spec_Hash.s6 x0 v6_1 v6_2)) v6_1 v6_2 := by kernel_rfl
theorem spec_Hash.e6 (x0 : List Int) : ∀ (n : Nat) (v6_1 : Int) (v6_2 : Int), V.loopN (V.loopF spec_Hash.E Try.f51.ntmps [1, 1, 0, 1, 0] [] (V.codeOf Try.f51) (spec_Hash.kt x0)) n (spec_Hash.s6 x0 v6_1 v6_2) = spec_Hash.l6 x0 n v6_1 v6_2 := by
  intro n
  induction n with
  | zero => intros; rfl
  | succ n ih =>
    intro v6_1 v6_2
    show V.loopF spec_Hash.E Try.f51.ntmps [1, 1, 0, 1, 0] [] (V.codeOf Try.f51) (spec_Hash.kt x0) (V.loopN (V.loopF spec_Hash.E Try.f51.ntmps [1, 1, 0, 1, 0] [] (V.codeOf Try.f51) (spec_Hash.kt x0)) n) (spec_Hash.s6 x0 v6_1 v6_2) = _
    rw [spec_Hash.r6]
    simp only [ih]
    rfl
theorem spec_Hash.v (x0 : List Int) : V.evBody spec_Hash.E spec_Hash.con Try.f51 ((x0) : List Int) = spec_Hash.b x0 (fun v6_1 v6_2 => V.loopN (V.loopF spec_Hash.E Try.f51.ntmps [1, 1, 0, 1, 0] [] (V.codeOf Try.f51) (spec_Hash.kt x0)) V.KK (spec_Hash.s6 x0 v6_1 v6_2)) := by kernel_rfl
theorem spec_Hash.eq (x0 : List Int) : V.evBody spec_Hash.E spec_Hash.con Try.f51 ((x0) : List Int) = spec_Hash x0 := by
  rw [spec_Hash.v]
  simp only [spec_Hash.e6]
  rfl
theorem spec_Hash.ok : V.Valid Try.prog 51 spec_Hash.con :=
  V.body_ok (V.env_ok V.mixed V.tysOk (V.tab_cons spec_Mod.ok V.tab_nil)) Try.func51 (by kernel_rfl) (by kernel_rfl) (by kernel_rfl) (fun x y h => (show V.evBody spec_Hash.E spec_Hash.con Try.f51 x = _ from spec_Hash.eq x).trans h)
noncomputable abbrev spec_HeadDigest.con : V.Con := ⟨(.cons (.int .i64) (.cons (.int .i64) (.cons (.int .i64) (.cons (.int .i64) (.cons (.int .i64) (.cons (.int .i64) (.cons (.int .i64) (.cons (.int .i64) (.cons (.sl (.cons (.int .i64) .nil)) (.cons (.int .i64) (.cons (.sl (.cons (.int .i64) .nil)) (.cons (.int .i64) (.cons (.int .i64) (.cons (.sl (.cons (.int .i64) .nil)) (.cons (.int .i64) (.cons .bool .nil)))))))))))))))), (.cons (.int .i64) .nil), fun (x : Int × Int × Int × Int × Int × Int × Int × Int × List Int × Int × List Int × Int × Int × List Int × Int × Bool) => spec_HeadDigest x, [], [(true, 16)], [(false, 1)], [false], []⟩
noncomputable abbrev spec_HeadDigest.E : V.Env := V.mkE V.tys [(51, spec_Hash.con), (52, spec_HeadInts.con)] [] [] [] []
noncomputable abbrev spec_HeadDigest.kt (x0 : THead) : V.Kt Int := V.ktOf spec_HeadDigest.E spec_HeadDigest.con Try.f45 ((x0.1, x0.2.1, x0.2.2.1, x0.2.2.2.1, x0.2.2.2.2.1, x0.2.2.2.2.2.1, x0.2.2.2.2.2.2.1, x0.2.2.2.2.2.2.2.1, x0.2.2.2.2.2.2.2.2.1, x0.2.2.2.2.2.2.2.2.2.1, x0.2.2.2.2.2.2.2.2.2.2.1, x0.2.2.2.2.2.2.2.2.2.2.2.1, x0.2.2.2.2.2.2.2.2.2.2.2.2.1, x0.2.2.2.2.2.2.2.2.2.2.2.2.2.1, x0.2.2.2.2.2.2.2.2.2.2.2.2.2.2.1, x0.2.2.2.2.2.2.2.2.2.2.2.2.2.2.2) : Int × Int × Int × Int × Int × Int × Int × Int × List Int × Int × List Int × Int × Int × List Int × Int × Bool)
theorem spec_HeadDigest.eq (x0 : THead) : V.evBody spec_HeadDigest.E spec_HeadDigest.con Try.f45 ((x0.1, x0.2.1, x0.2.2.1, x0.2.2.2.1, x0.2.2.2.2.1, x0.2.2.2.2.2.1, x0.2.2.2.2.2.2.1, x0.2.2.2.2.2.2.2.1, x0.2.2.2.2.2.2.2.2.1, x0.2.2.2.2.2.2.2.2.2.1, x0.2.2.2.2.2.2.2.2.2.2.1, x0.2.2.2.2.2.2.2.2.2.2.2.1, x0.2.2.2.2.2.2.2.2.2.2.2.2.1, x0.2.2.2.2.2.2.2.2.2.2.2.2.2.1, x0.2.2.2.2.2.2.2.2.2.2.2.2.2.2.1, x0.2.2.2.2.2.2.2.2.2.2.2.2.2.2.2) : Int × Int × Int × Int × Int × Int × Int × Int × List Int × Int × List Int × Int × Int × List Int × Int × Bool) = spec_HeadDigest x0 := by kernel_rfl
theorem spec_HeadDigest.ok : V.Valid Try.prog 45 spec_HeadDigest.con :=
  V.body_ok (V.env_ok V.mixed V.tysOk (V.tab_cons spec_Hash.ok (V.tab_cons spec_HeadInts.ok V.tab_nil))) Try.func45 (by kernel_rfl) (by kernel_rfl) (by kernel_rfl) (fun x y h => (show V.evBody spec_HeadDigest.E spec_HeadDigest.con Try.f45 x = _ from spec_HeadDigest.eq x).trans h)
noncomputable abbrev spec_MarkOf.con : V.Con := ⟨(.cons (.int .i64) (.cons (.int .i64) (.cons (.int .i64) (.cons (.int .i64) (.cons (.int .i64) (.cons (.int .i64) (.cons (.int .i64) (.cons (.int .i64) (.cons (.sl (.cons (.int .i64) .nil)) (.cons (.int .i64) (.cons (.sl (.cons (.int .i64) .nil)) (.cons (.int .i64) (.cons (.int .i64) (.cons (.sl (.cons (.int .i64) .nil)) (.cons (.int .i64) (.cons .bool .nil)))))))))))))))), (.cons (.int .i64) (.cons (.int .i64) (.cons (.int .i64) .nil))), fun (x : Int × Int × Int × Int × Int × Int × Int × Int × List Int × Int × List Int × Int × Int × List Int × Int × Bool) => spec_MarkOf x, [], [(true, 16)], [(true, 3)], [false, false, false], []⟩
noncomputable abbrev spec_MarkOf.E : V.Env := V.mkE V.tys [(45, spec_HeadDigest.con)] [] [(1, 6)] [] []
noncomputable abbrev spec_MarkOf.kt (x0 : THead) : V.Kt TMark := V.ktOf spec_MarkOf.E spec_MarkOf.con Try.f27 ((x0.1, x0.2.1, x0.2.2.1, x0.2.2.2.1, x0.2.2.2.2.1, x0.2.2.2.2.2.1, x0.2.2.2.2.2.2.1, x0.2.2.2.2.2.2.2.1, x0.2.2.2.2.2.2.2.2.1, x0.2.2.2.2.2.2.2.2.2.1, x0.2.2.2.2.2.2.2.2.2.2.1, x0.2.2.2.2.2.2.2.2.2.2.2.1, x0.2.2.2.2.2.2.2.2.2.2.2.2.1, x0.2.2.2.2.2.2.2.2.2.2.2.2.2.1, x0.2.2.2.2.2.2.2.2.2.2.2.2.2.2.1, x0.2.2.2.2.2.2.2.2.2.2.2.2.2.2.2) : Int × Int × Int × Int × Int × Int × Int × Int × List Int × Int × List Int × Int × Int × List Int × Int × Bool)
theorem spec_MarkOf.eq (x0 : THead) : V.evBody spec_MarkOf.E spec_MarkOf.con Try.f27 ((x0.1, x0.2.1, x0.2.2.1, x0.2.2.2.1, x0.2.2.2.2.1, x0.2.2.2.2.2.1, x0.2.2.2.2.2.2.1, x0.2.2.2.2.2.2.2.1, x0.2.2.2.2.2.2.2.2.1, x0.2.2.2.2.2.2.2.2.2.1, x0.2.2.2.2.2.2.2.2.2.2.1, x0.2.2.2.2.2.2.2.2.2.2.2.1, x0.2.2.2.2.2.2.2.2.2.2.2.2.1, x0.2.2.2.2.2.2.2.2.2.2.2.2.2.1, x0.2.2.2.2.2.2.2.2.2.2.2.2.2.2.1, x0.2.2.2.2.2.2.2.2.2.2.2.2.2.2.2) : Int × Int × Int × Int × Int × Int × Int × Int × List Int × Int × List Int × Int × Int × List Int × Int × Bool) = spec_MarkOf x0 := by kernel_rfl
theorem spec_MarkOf.ok : V.Valid Try.prog 27 spec_MarkOf.con :=
  V.body_ok (V.env_ok V.mixed V.tysOk (V.tab_cons spec_HeadDigest.ok V.tab_nil)) Try.func27 (by kernel_rfl) (by kernel_rfl) (by kernel_rfl) (fun x y h => (show V.evBody spec_MarkOf.E spec_MarkOf.con Try.f27 x = _ from spec_MarkOf.eq x).trans h)
noncomputable abbrev impl_KeysInts.con : V.Con := ⟨(.cons (.sl (.cons (.int .i64) .nil)) (.cons (.int .i64) .nil)), (.cons (.sl (.cons (.int .i64) .nil)) .nil), fun (x : List Int × Int) => impl_KeysInts x, [], [(true, 2)], [(false, 1)], [true], []⟩
noncomputable abbrev impl_KeysInts.E : V.Env := V.mkE V.tys [] [] [] [] []
noncomputable abbrev impl_KeysInts.kt (x0 : TKeys) : V.Kt (List Int) := V.ktOf impl_KeysInts.E impl_KeysInts.con Try.f60 ((x0.1, x0.2) : List Int × Int)
theorem impl_KeysInts.eq (x0 : TKeys) : V.evBody impl_KeysInts.E impl_KeysInts.con Try.f60 ((x0.1, x0.2) : List Int × Int) = impl_KeysInts x0 := by kernel_rfl
theorem impl_KeysInts.ok : V.Valid Try.prog 60 impl_KeysInts.con :=
  V.body_ok (V.env_ok V.mixed V.tysOk V.tab_nil) Try.func60 (by kernel_rfl) (by kernel_rfl) (by kernel_rfl) (fun x y h => (show V.evBody impl_KeysInts.E impl_KeysInts.con Try.f60 x = _ from impl_KeysInts.eq x).trans h)
noncomputable abbrev impl_bit.con : V.Con := ⟨(.cons .bool .nil), (.cons (.int .i64) .nil), fun (x : Bool) => impl_bit x, [], [(false, 1)], [(false, 1)], [false], []⟩
noncomputable abbrev impl_bit.E : V.Env := V.mkE V.tys [] [] [] [] []
noncomputable abbrev impl_bit.kt (x0 : Bool) : V.Kt Int := V.ktOf impl_bit.E impl_bit.con Try.f61 ((x0) : Bool)
theorem impl_bit.eq (x0 : Bool) : V.evBody impl_bit.E impl_bit.con Try.f61 ((x0) : Bool) = impl_bit x0 := by kernel_rfl
theorem impl_bit.ok : V.Valid Try.prog 61 impl_bit.con :=
  V.body_ok (V.env_ok V.mixed V.tysOk V.tab_nil) Try.func61 (by kernel_rfl) (by kernel_rfl) (by kernel_rfl) (fun x y h => (show V.evBody impl_bit.E impl_bit.con Try.f61 x = _ from impl_bit.eq x).trans h)
noncomputable abbrev slices_Grow_int.con : V.Con := ⟨(.cons (.sl (.cons (.int .i64) .nil)) (.cons (.int .i64) .nil)), (.cons (.sl (.cons (.int .i64) .nil)) .nil), fun (x : List Int × Int) => slices_Grow_int x.1 x.2, [], [(false, 1), (false, 1)], [(false, 1)], [true], [0]⟩
noncomputable abbrev slices_Grow_int.E : V.Env := V.mkE V.tys [] [(7, [0, 1], [])] [] [] []
noncomputable abbrev slices_Grow_int.kt (x0 : List Int) (x1 : Int) : V.Kt (List Int) := V.ktOf slices_Grow_int.E slices_Grow_int.con Try.f62 ((x0, x1) : List Int × Int)
noncomputable abbrev slices_Grow_int.s7 (x1 : Int) : V.St := ⟨[(0, .v false [.nil0]), (1, .v false [.val (.int .i64 x1)])], []⟩
theorem slices_Grow_int.r7 (x0 : List Int) (x1 : Int) : V.joinF slices_Grow_int.E Try.f62.ntmps [1] [] (V.codeOf Try.f62) (slices_Grow_int.kt x0 x1) (slices_Grow_int.s7 x1) = slices_Grow_int.g7 x1 := by kernel_rfl
theorem slices_Grow_int.e7 (x0 : List Int) (x1 : Int) : V.joinF slices_Grow_int.E Try.f62.ntmps [1] [] (V.codeOf Try.f62) (slices_Grow_int.kt x0 x1) (slices_Grow_int.s7 x1) = slices_Grow_int.l7 x1 := by
  rw [slices_Grow_int.r7]
  rfl
theorem slices_Grow_int.v (x0 : List Int) (x1 : Int) : V.evBody slices_Grow_int.E slices_Grow_int.con Try.f62 ((x0, x1) : List Int × Int) = slices_Grow_int.b x0 x1 (V.joinF slices_Grow_int.E Try.f62.ntmps [1] [] (V.codeOf Try.f62) (slices_Grow_int.kt x0 x1) (slices_Grow_int.s7 x1)) := by kernel_rfl
theorem slices_Grow_int.eq (x0 : List Int) (x1 : Int) : V.evBody slices_Grow_int.E slices_Grow_int.con Try.f62 ((x0, x1) : List Int × Int) = slices_Grow_int x0 x1 := by
  rw [slices_Grow_int.v]
  simp only [slices_Grow_int.e7]
  rfl
theorem slices_Grow_int.ok : V.Valid Try.prog 62 slices_Grow_int.con :=
  V.body_ok (V.env_ok V.mixed V.tysOk V.tab_nil) Try.func62 (by kernel_rfl) (by kernel_rfl) (by kernel_rfl) (fun x y h => (show V.evBody slices_Grow_int.E slices_Grow_int.con Try.f62 x = _ from slices_Grow_int.eq x.1 x.2).trans h)
noncomputable abbrev slices_Concat_int.con : V.Con := ⟨(.cons (.sl (.cons (.sl (.cons (.int .i64) .nil)) .nil)) .nil), (.cons (.sl (.cons (.int .i64) .nil)) .nil), fun (x : List (List Int)) => slices_Concat_int x, [], [(false, 1)], [(false, 1)], [true], []⟩
noncomputable abbrev slices_Concat_int.E : V.Env := V.mkE V.tys [(62, slices_Grow_int.con)] [(6, [0, 3, 9, 10, 11], []), (22, [6, 25, 26, 27], [])] [] [] []
noncomputable abbrev slices_Concat_int.kt (x0 : List (List Int)) : V.Kt (List Int) := V.ktOf slices_Concat_int.E slices_Concat_int.con Try.f59 ((x0) : List (List Int))
noncomputable abbrev slices_Concat_int.s22 (x0 : List (List Int)) (v22_1 : Int) (v22_2 : Int) (v22_3 : List Int) : V.St := ⟨[(6, .v false [.ref 64000140800384]), (25, .v false [.val (.sl (.cons (.sl (.cons (.int .i64) .nil)) .nil) x0)]), (26, .v false [.val (.int .i64 v22_1)]), (27, .v false [.val (.int .i64 v22_2)])], [(64000140800384, .row (.cons (.int .i64) .nil) true v22_3)]⟩
noncomputable abbrev slices_Concat_int.s6 (x0 : List (List Int)) (v6_1 : Int) (v6_3 : Int) (v6_4 : Int) : V.St := ⟨[(0, .v false [.val (.sl (.cons (.sl (.cons (.int .i64) .nil)) .nil) x0)]), (3, .v false [.val (.int .i64 v6_1)]), (9, .v false [.val (.sl (.cons (.sl (.cons (.int .i64) .nil)) .nil) x0)]), (10, .v false [.val (.int .i64 v6_3)]), (11, .v false [.val (.int .i64 v6_4)])], []⟩
theorem slices_Concat_int.r22 (x0 : List (List Int)) (R : V.St → Option (List Int)) (v22_1 : Int) (v22_2 : Int) (v22_3 : List Int) : V.loopF slices_Concat_int.E Try.f59.ntmps [1, 1, 1, 1, 0, 1, 0] [] (V.codeOf Try.f59) (slices_Concat_int.kt x0) R (slices_Concat_int.s22 x0 v22_1 v22_2 v22_3) = slices_Concat_int.g22 x0 (fun v22_1 v22_2 v22_3 => R (slices_Concat_int.s22 x0 v22_1 v22_2 v22_3)) v22_1 v22_2 v22_3 := by kernel_rfl
theorem slices_Concat_int.e22 (x0 : List (List Int)) : ∀ (n : Nat) (v22_1 : Int) (v22_2 : Int) (v22_3 : List Int), V.loopN (V.loopF slices_Concat_int.E Try.f59.ntmps [1, 1, 1, 1, 0, 1, 0] [] (V.codeOf Try.f59) (slices_Concat_int.kt x0)) n (slices_Concat_int.s22 x0 v22_1 v22_2 v22_3) = slices_Concat_int.l22 x0 n v22_1 v22_2 v22_3 := by
  intro n
  induction n with
  | zero => intros; rfl
  | succ n ih =>
    intro v22_1 v22_2 v22_3
    show V.loopF slices_Concat_int.E Try.f59.ntmps [1, 1, 1, 1, 0, 1, 0] [] (V.codeOf Try.f59) (slices_Concat_int.kt x0) (V.loopN (V.loopF slices_Concat_int.E Try.f59.ntmps [1, 1, 1, 1, 0, 1, 0] [] (V.codeOf Try.f59) (slices_Concat_int.kt x0)) n) (slices_Concat_int.s22 x0 v22_1 v22_2 v22_3) = _
    rw [slices_Concat_int.r22]
    simp only [ih]
    rfl
theorem slices_Concat_int.r6 (x0 : List (List Int)) (R : V.St → Option (List Int)) (v6_1 : Int) (v6_3 : Int) (v6_4 : Int) : V.loopF slices_Concat_int.E Try.f59.ntmps [1, 1, 0, 1, 0] [] (V.codeOf Try.f59) (slices_Concat_int.kt x0) R (slices_Concat_int.s6 x0 v6_1 v6_3 v6_4) = slices_Concat_int.g6 x0 (fun v6_1 v6_3 v6_4 => R (slices_Concat_int.s6 x0 v6_1 v6_3 v6_4)) (fun v22_1 v22_2 v22_3 => V.loopN (V.loopF slices_Concat_int.E Try.f59.ntmps [1, 1, 1, 1, 0, 1, 0] [] (V.codeOf Try.f59) (slices_Concat_int.kt x0)) V.KK (slices_Concat_int.s22 x0 v22_1 v22_2 v22_3)) v6_1 v6_3 v6_4 := by kernel_rfl
theorem slices_Concat_int.e6 (x0 : List (List Int)) : ∀ (n : Nat) (v6_1 : Int) (v6_3 : Int) (v6_4 : Int), V.loopN (V.loopF slices_Concat_int.E Try.f59.ntmps [1, 1, 0, 1, 0] [] (V.codeOf Try.f59) (slices_Concat_int.kt x0)) n (slices_Concat_int.s6 x0 v6_1 v6_3 v6_4) = slices_Concat_int.l6 x0 n v6_1 v6_3 v6_4 := by
  intro n
  induction n with
  | zero => intros; rfl
  | succ n ih =>
    intro v6_1 v6_3 v6_4
    show V.loopF slices_Concat_int.E Try.f59.ntmps [1, 1, 0, 1, 0] [] (V.codeOf Try.f59) (slices_Concat_int.kt x0) (V.loopN (V.loopF slices_Concat_int.E Try.f59.ntmps [1, 1, 0, 1, 0] [] (V.codeOf Try.f59) (slices_Concat_int.kt x0)) n) (slices_Concat_int.s6 x0 v6_1 v6_3 v6_4) = _
    rw [slices_Concat_int.r6]
    simp only [slices_Concat_int.e22, ih]
    rfl
theorem slices_Concat_int.v (x0 : List (List Int)) : V.evBody slices_Concat_int.E slices_Concat_int.con Try.f59 ((x0) : List (List Int)) = slices_Concat_int.b x0 (fun v6_1 v6_3 v6_4 => V.loopN (V.loopF slices_Concat_int.E Try.f59.ntmps [1, 1, 0, 1, 0] [] (V.codeOf Try.f59) (slices_Concat_int.kt x0)) V.KK (slices_Concat_int.s6 x0 v6_1 v6_3 v6_4)) := by kernel_rfl
theorem slices_Concat_int.eq (x0 : List (List Int)) : V.evBody slices_Concat_int.E slices_Concat_int.con Try.f59 ((x0) : List (List Int)) = slices_Concat_int x0 := by
  rw [slices_Concat_int.v]
  simp only [slices_Concat_int.e6]
  rfl
theorem slices_Concat_int.ok : V.Valid Try.prog 59 slices_Concat_int.con :=
  V.body_ok (V.env_ok V.mixed V.tysOk (V.tab_cons slices_Grow_int.ok V.tab_nil)) Try.func59 (by kernel_rfl) (by kernel_rfl) (by kernel_rfl) (fun x y h => (show V.evBody slices_Concat_int.E slices_Concat_int.con Try.f59 x = _ from slices_Concat_int.eq x).trans h)
noncomputable abbrev impl_HeadInts.con : V.Con := ⟨(.cons (.int .i64) (.cons (.int .i64) (.cons (.int .i64) (.cons (.int .i64) (.cons (.int .i64) (.cons (.int .i64) (.cons (.int .i64) (.cons (.int .i64) (.cons (.sl (.cons (.int .i64) .nil)) (.cons (.int .i64) (.cons (.sl (.cons (.int .i64) .nil)) (.cons (.int .i64) (.cons (.int .i64) (.cons (.sl (.cons (.int .i64) .nil)) (.cons (.int .i64) (.cons .bool .nil)))))))))))))))), (.cons (.sl (.cons (.int .i64) .nil)) .nil), fun (x : Int × Int × Int × Int × Int × Int × Int × Int × List Int × Int × List Int × Int × Int × List Int × Int × Bool) => impl_HeadInts x, [], [(true, 16)], [(false, 1)], [true], []⟩
noncomputable abbrev impl_HeadInts.E : V.Env := V.mkE V.tys [(59, slices_Concat_int.con), (60, impl_KeysInts.con), (61, impl_bit.con)] [] [(1, 33)] [] []
noncomputable abbrev impl_HeadInts.kt (x0 : THead) : V.Kt (List Int) := V.ktOf impl_HeadInts.E impl_HeadInts.con Try.f55 ((x0.1, x0.2.1, x0.2.2.1, x0.2.2.2.1, x0.2.2.2.2.1, x0.2.2.2.2.2.1, x0.2.2.2.2.2.2.1, x0.2.2.2.2.2.2.2.1, x0.2.2.2.2.2.2.2.2.1, x0.2.2.2.2.2.2.2.2.2.1, x0.2.2.2.2.2.2.2.2.2.2.1, x0.2.2.2.2.2.2.2.2.2.2.2.1, x0.2.2.2.2.2.2.2.2.2.2.2.2.1, x0.2.2.2.2.2.2.2.2.2.2.2.2.2.1, x0.2.2.2.2.2.2.2.2.2.2.2.2.2.2.1, x0.2.2.2.2.2.2.2.2.2.2.2.2.2.2.2) : Int × Int × Int × Int × Int × Int × Int × Int × List Int × Int × List Int × Int × Int × List Int × Int × Bool)
theorem impl_HeadInts.eq (x0 : THead) : V.evBody impl_HeadInts.E impl_HeadInts.con Try.f55 ((x0.1, x0.2.1, x0.2.2.1, x0.2.2.2.1, x0.2.2.2.2.1, x0.2.2.2.2.2.1, x0.2.2.2.2.2.2.1, x0.2.2.2.2.2.2.2.1, x0.2.2.2.2.2.2.2.2.1, x0.2.2.2.2.2.2.2.2.2.1, x0.2.2.2.2.2.2.2.2.2.2.1, x0.2.2.2.2.2.2.2.2.2.2.2.1, x0.2.2.2.2.2.2.2.2.2.2.2.2.1, x0.2.2.2.2.2.2.2.2.2.2.2.2.2.1, x0.2.2.2.2.2.2.2.2.2.2.2.2.2.2.1, x0.2.2.2.2.2.2.2.2.2.2.2.2.2.2.2) : Int × Int × Int × Int × Int × Int × Int × Int × List Int × Int × List Int × Int × Int × List Int × Int × Bool) = impl_HeadInts x0 := by kernel_rfl
theorem impl_HeadInts.ok : V.Valid Try.prog 55 impl_HeadInts.con :=
  V.body_ok (V.env_ok V.mixed V.tysOk (V.tab_cons slices_Concat_int.ok (V.tab_cons impl_KeysInts.ok (V.tab_cons impl_bit.ok V.tab_nil)))) Try.func55 (by kernel_rfl) (by kernel_rfl) (by kernel_rfl) (fun x y h => (show V.evBody impl_HeadInts.E impl_HeadInts.con Try.f55 x = _ from impl_HeadInts.eq x).trans h)
noncomputable abbrev impl_InRange.con : V.Con := ⟨(.cons (.int .i64) (.cons (.int .i64) (.cons (.int .i64) .nil))), (.cons .bool .nil), fun (x : Int × Int × Int) => impl_InRange x.1 x.2.1 x.2.2, [], [(false, 1), (false, 1), (false, 1)], [(false, 1)], [false], []⟩
noncomputable abbrev impl_InRange.E : V.Env := V.mkE V.tys [] [] [] [] []
noncomputable abbrev impl_InRange.kt (x0 : Int) (x1 : Int) (x2 : Int) : V.Kt Bool := V.ktOf impl_InRange.E impl_InRange.con Try.f40 ((x0, x1, x2) : Int × Int × Int)
theorem impl_InRange.eq (x0 : Int) (x1 : Int) (x2 : Int) : V.evBody impl_InRange.E impl_InRange.con Try.f40 ((x0, x1, x2) : Int × Int × Int) = impl_InRange x0 x1 x2 := by kernel_rfl
theorem impl_InRange.ok : V.Valid Try.prog 40 impl_InRange.con :=
  V.body_ok (V.env_ok V.mixed V.tysOk V.tab_nil) Try.func40 (by kernel_rfl) (by kernel_rfl) (by kernel_rfl) (fun x y h => (show V.evBody impl_InRange.E impl_InRange.con Try.f40 x = _ from impl_InRange.eq x.1 x.2.1 x.2.2).trans h)
noncomputable abbrev impl_Mod.con : V.Con := ⟨(.cons (.int .i64) (.cons (.int .i64) .nil)), (.cons (.int .i64) .nil), fun (x : Int × Int) => impl_Mod x.1 x.2, [], [(false, 1), (false, 1)], [(false, 1)], [false], []⟩
noncomputable abbrev impl_Mod.E : V.Env := V.mkE V.tys [(40, impl_InRange.con)] [] [] [] []
noncomputable abbrev impl_Mod.kt (x0 : Int) (x1 : Int) : V.Kt Int := V.ktOf impl_Mod.E impl_Mod.con Try.f58 ((x0, x1) : Int × Int)
theorem impl_Mod.eq (x0 : Int) (x1 : Int) : V.evBody impl_Mod.E impl_Mod.con Try.f58 ((x0, x1) : Int × Int) = impl_Mod x0 x1 := by kernel_rfl
theorem impl_Mod.ok : V.Valid Try.prog 58 impl_Mod.con :=
  V.body_ok (V.env_ok V.mixed V.tysOk (V.tab_cons impl_InRange.ok V.tab_nil)) Try.func58 (by kernel_rfl) (by kernel_rfl) (by kernel_rfl) (fun x y h => (show V.evBody impl_Mod.E impl_Mod.con Try.f58 x = _ from impl_Mod.eq x.1 x.2).trans h)
noncomputable abbrev impl_Hash.con : V.Con := ⟨(.cons (.sl (.cons (.int .i64) .nil)) .nil), (.cons (.int .i64) .nil), fun (x : List Int) => impl_Hash x, [], [(false, 1)], [(false, 1)], [false], []⟩
noncomputable abbrev impl_Hash.E : V.Env := V.mkE V.tys [(58, impl_Mod.con)] [(6, [3, 6, 7, 8], [])] [] [] []
noncomputable abbrev impl_Hash.kt (x0 : List Int) : V.Kt Int := V.ktOf impl_Hash.E impl_Hash.con Try.f54 ((x0) : List Int)
noncomputable abbrev impl_Hash.s6 (x0 : List Int) (v6_0 : Int) (v6_2 : Int) (v6_3 : Int) : V.St := ⟨[(3, .v false [.val (.int .i64 v6_0)]), (6, .v false [.val (.sl (.cons (.int .i64) .nil) x0)]), (7, .v false [.val (.int .i64 v6_2)]), (8, .v false [.val (.int .i64 v6_3)])], []⟩
theorem impl_Hash.r6 (x0 : List Int) (R : V.St → Option Int) (v6_0 : Int) (v6_2 : Int) (v6_3 : Int) : V.loopF impl_Hash.E Try.f54.ntmps [1, 1, 0, 1, 0] [] (V.codeOf Try.f54) (impl_Hash.kt x0) R (impl_Hash.s6 x0 v6_0 v6_2 v6_3) = impl_Hash.g6 x0 (fun v6_0 v6_2 v6_3 => R (impl_Hash.s6 x0 v6_0 v6_2 v6_3)) v6_0 v6_2 v6_3 := by kernel_rfl
theorem impl_Hash.e6 (x0 : List Int) : ∀ (n : Nat) (v6_0 : Int) (v6_2 : Int) (v6_3 : Int), V.loopN (V.loopF impl_Hash.E Try.f54.ntmps [1, 1, 0, 1, 0] [] (V.codeOf Try.f54) (impl_Hash.kt x0)) n (impl_Hash.s6 x0 v6_0 v6_2 v6_3) = impl_Hash.l6 x0 n v6_0 v6_2 v6_3 := by
  intro n
  induction n with
  | zero => intros; rfl
  | succ n ih =>
    intro v6_0 v6_2 v6_3
    show V.loopF impl_Hash.E Try.f54.ntmps [1, 1, 0, 1, 0] [] (V.codeOf Try.f54) (impl_Hash.kt x0) (V.loopN (V.loopF impl_Hash.E Try.f54.ntmps [1, 1, 0, 1, 0] [] (V.codeOf Try.f54) (impl_Hash.kt x0)) n) (impl_Hash.s6 x0 v6_0 v6_2 v6_3) = _
    rw [impl_Hash.r6]
    simp only [ih]
    rfl
theorem impl_Hash.v (x0 : List Int) : V.evBody impl_Hash.E impl_Hash.con Try.f54 ((x0) : List Int) = impl_Hash.b x0 (fun v6_0 v6_2 v6_3 => V.loopN (V.loopF impl_Hash.E Try.f54.ntmps [1, 1, 0, 1, 0] [] (V.codeOf Try.f54) (impl_Hash.kt x0)) V.KK (impl_Hash.s6 x0 v6_0 v6_2 v6_3)) := by kernel_rfl
theorem impl_Hash.eq (x0 : List Int) : V.evBody impl_Hash.E impl_Hash.con Try.f54 ((x0) : List Int) = impl_Hash x0 := by
  rw [impl_Hash.v]
  simp only [impl_Hash.e6]
  rfl
theorem impl_Hash.ok : V.Valid Try.prog 54 impl_Hash.con :=
  V.body_ok (V.env_ok V.mixed V.tysOk (V.tab_cons impl_Mod.ok V.tab_nil)) Try.func54 (by kernel_rfl) (by kernel_rfl) (by kernel_rfl) (fun x y h => (show V.evBody impl_Hash.E impl_Hash.con Try.f54 x = _ from impl_Hash.eq x).trans h)
noncomputable abbrev impl_HeadDigest.con : V.Con := ⟨(.cons (.int .i64) (.cons (.int .i64) (.cons (.int .i64) (.cons (.int .i64) (.cons (.int .i64) (.cons (.int .i64) (.cons (.int .i64) (.cons (.int .i64) (.cons (.sl (.cons (.int .i64) .nil)) (.cons (.int .i64) (.cons (.sl (.cons (.int .i64) .nil)) (.cons (.int .i64) (.cons (.int .i64) (.cons (.sl (.cons (.int .i64) .nil)) (.cons (.int .i64) (.cons .bool .nil)))))))))))))))), (.cons (.int .i64) .nil), fun (x : Int × Int × Int × Int × Int × Int × Int × Int × List Int × Int × List Int × Int × Int × List Int × Int × Bool) => impl_HeadDigest x, [], [(true, 16)], [(false, 1)], [false], []⟩
noncomputable abbrev impl_HeadDigest.E : V.Env := V.mkE V.tys [(54, impl_Hash.con), (55, impl_HeadInts.con)] [] [] [] []
noncomputable abbrev impl_HeadDigest.kt (x0 : THead) : V.Kt Int := V.ktOf impl_HeadDigest.E impl_HeadDigest.con Try.f47 ((x0.1, x0.2.1, x0.2.2.1, x0.2.2.2.1, x0.2.2.2.2.1, x0.2.2.2.2.2.1, x0.2.2.2.2.2.2.1, x0.2.2.2.2.2.2.2.1, x0.2.2.2.2.2.2.2.2.1, x0.2.2.2.2.2.2.2.2.2.1, x0.2.2.2.2.2.2.2.2.2.2.1, x0.2.2.2.2.2.2.2.2.2.2.2.1, x0.2.2.2.2.2.2.2.2.2.2.2.2.1, x0.2.2.2.2.2.2.2.2.2.2.2.2.2.1, x0.2.2.2.2.2.2.2.2.2.2.2.2.2.2.1, x0.2.2.2.2.2.2.2.2.2.2.2.2.2.2.2) : Int × Int × Int × Int × Int × Int × Int × Int × List Int × Int × List Int × Int × Int × List Int × Int × Bool)
theorem impl_HeadDigest.eq (x0 : THead) : V.evBody impl_HeadDigest.E impl_HeadDigest.con Try.f47 ((x0.1, x0.2.1, x0.2.2.1, x0.2.2.2.1, x0.2.2.2.2.1, x0.2.2.2.2.2.1, x0.2.2.2.2.2.2.1, x0.2.2.2.2.2.2.2.1, x0.2.2.2.2.2.2.2.2.1, x0.2.2.2.2.2.2.2.2.2.1, x0.2.2.2.2.2.2.2.2.2.2.1, x0.2.2.2.2.2.2.2.2.2.2.2.1, x0.2.2.2.2.2.2.2.2.2.2.2.2.1, x0.2.2.2.2.2.2.2.2.2.2.2.2.2.1, x0.2.2.2.2.2.2.2.2.2.2.2.2.2.2.1, x0.2.2.2.2.2.2.2.2.2.2.2.2.2.2.2) : Int × Int × Int × Int × Int × Int × Int × Int × List Int × Int × List Int × Int × Int × List Int × Int × Bool) = impl_HeadDigest x0 := by kernel_rfl
theorem impl_HeadDigest.ok : V.Valid Try.prog 47 impl_HeadDigest.con :=
  V.body_ok (V.env_ok V.mixed V.tysOk (V.tab_cons impl_Hash.ok (V.tab_cons impl_HeadInts.ok V.tab_nil))) Try.func47 (by kernel_rfl) (by kernel_rfl) (by kernel_rfl) (fun x y h => (show V.evBody impl_HeadDigest.E impl_HeadDigest.con Try.f47 x = _ from impl_HeadDigest.eq x).trans h)
noncomputable abbrev impl_MarkOf.con : V.Con := ⟨(.cons (.int .i64) (.cons (.int .i64) (.cons (.int .i64) (.cons (.int .i64) (.cons (.int .i64) (.cons (.int .i64) (.cons (.int .i64) (.cons (.int .i64) (.cons (.sl (.cons (.int .i64) .nil)) (.cons (.int .i64) (.cons (.sl (.cons (.int .i64) .nil)) (.cons (.int .i64) (.cons (.int .i64) (.cons (.sl (.cons (.int .i64) .nil)) (.cons (.int .i64) (.cons .bool .nil)))))))))))))))), (.cons (.int .i64) (.cons (.int .i64) (.cons (.int .i64) .nil))), fun (x : Int × Int × Int × Int × Int × Int × Int × Int × List Int × Int × List Int × Int × Int × List Int × Int × Bool) => impl_MarkOf x, [], [(true, 16)], [(true, 3)], [false, false, false], []⟩
noncomputable abbrev impl_MarkOf.E : V.Env := V.mkE V.tys [(47, impl_HeadDigest.con)] [] [(1, 6)] [] []
noncomputable abbrev impl_MarkOf.kt (x0 : THead) : V.Kt TMark := V.ktOf impl_MarkOf.E impl_MarkOf.con Try.f29 ((x0.1, x0.2.1, x0.2.2.1, x0.2.2.2.1, x0.2.2.2.2.1, x0.2.2.2.2.2.1, x0.2.2.2.2.2.2.1, x0.2.2.2.2.2.2.2.1, x0.2.2.2.2.2.2.2.2.1, x0.2.2.2.2.2.2.2.2.2.1, x0.2.2.2.2.2.2.2.2.2.2.1, x0.2.2.2.2.2.2.2.2.2.2.2.1, x0.2.2.2.2.2.2.2.2.2.2.2.2.1, x0.2.2.2.2.2.2.2.2.2.2.2.2.2.1, x0.2.2.2.2.2.2.2.2.2.2.2.2.2.2.1, x0.2.2.2.2.2.2.2.2.2.2.2.2.2.2.2) : Int × Int × Int × Int × Int × Int × Int × Int × List Int × Int × List Int × Int × Int × List Int × Int × Bool)
theorem impl_MarkOf.eq (x0 : THead) : V.evBody impl_MarkOf.E impl_MarkOf.con Try.f29 ((x0.1, x0.2.1, x0.2.2.1, x0.2.2.2.1, x0.2.2.2.2.1, x0.2.2.2.2.2.1, x0.2.2.2.2.2.2.1, x0.2.2.2.2.2.2.2.1, x0.2.2.2.2.2.2.2.2.1, x0.2.2.2.2.2.2.2.2.2.1, x0.2.2.2.2.2.2.2.2.2.2.1, x0.2.2.2.2.2.2.2.2.2.2.2.1, x0.2.2.2.2.2.2.2.2.2.2.2.2.1, x0.2.2.2.2.2.2.2.2.2.2.2.2.2.1, x0.2.2.2.2.2.2.2.2.2.2.2.2.2.2.1, x0.2.2.2.2.2.2.2.2.2.2.2.2.2.2.2) : Int × Int × Int × Int × Int × Int × Int × Int × List Int × Int × List Int × Int × Int × List Int × Int × Bool) = impl_MarkOf x0 := by kernel_rfl
theorem impl_MarkOf.ok : V.Valid Try.prog 29 impl_MarkOf.con :=
  V.body_ok (V.env_ok V.mixed V.tysOk (V.tab_cons impl_HeadDigest.ok V.tab_nil)) Try.func29 (by kernel_rfl) (by kernel_rfl) (by kernel_rfl) (fun x y h => (show V.evBody impl_MarkOf.E impl_MarkOf.con Try.f29 x = _ from impl_MarkOf.eq x).trans h)
noncomputable abbrev laws_eqMark.con : V.Con := ⟨(.cons (.int .i64) (.cons (.int .i64) (.cons (.int .i64) (.cons (.int .i64) (.cons (.int .i64) (.cons (.int .i64) .nil)))))), (.cons .bool .nil), fun (x : Int × Int × Int × Int × Int × Int) => laws_eqMark (x.1, x.2.1, x.2.2.1) x.2.2.2, [], [(true, 3), (true, 3)], [(false, 1)], [false], []⟩
noncomputable abbrev laws_eqMark.E : V.Env := V.mkE V.tys [] [] [] [] []
noncomputable abbrev laws_eqMark.kt (x0 : TMark) (x1 : TMark) : V.Kt Bool := V.ktOf laws_eqMark.E laws_eqMark.con Try.f30 ((x0.1, x0.2.1, x0.2.2, x1.1, x1.2.1, x1.2.2) : Int × Int × Int × Int × Int × Int)
theorem laws_eqMark.eq (x0 : TMark) (x1 : TMark) : V.evBody laws_eqMark.E laws_eqMark.con Try.f30 ((x0.1, x0.2.1, x0.2.2, x1.1, x1.2.1, x1.2.2) : Int × Int × Int × Int × Int × Int) = laws_eqMark x0 x1 := by kernel_rfl
theorem laws_eqMark.ok : V.Valid Try.prog 30 laws_eqMark.con :=
  V.body_ok (V.env_ok V.mixed V.tysOk V.tab_nil) Try.func30 (by kernel_rfl) (by kernel_rfl) (by kernel_rfl) (fun x y h => (show V.evBody laws_eqMark.E laws_eqMark.con Try.f30 x = _ from laws_eqMark.eq (x.1, x.2.1, x.2.2.1) x.2.2.2).trans h)
noncomputable abbrev laws_eqIntS.con : V.Con := ⟨(.cons (.sl (.cons (.int .i64) .nil)) (.cons (.sl (.cons (.int .i64) .nil)) .nil)), (.cons .bool .nil), fun (x : List Int × List Int) => laws_eqIntS x.1 x.2, [], [(false, 1), (false, 1)], [(false, 1)], [false], []⟩
noncomputable abbrev laws_eqIntS.E : V.Env := V.mkE V.tys [] [(8, [0, 1, 5], [])] [(6, 8)] [] []
noncomputable abbrev laws_eqIntS.kt (x0 : List Int) (x1 : List Int) : V.Kt Bool := V.ktOf laws_eqIntS.E laws_eqIntS.con Try.f16 ((x0, x1) : List Int × List Int)
noncomputable abbrev laws_eqIntS.s8 (x0 : List Int) (x1 : List Int) (v8_2 : Int) : V.St := ⟨[(0, .v false [.val (.sl (.cons (.int .i64) .nil) x0)]), (1, .v false [.val (.sl (.cons (.int .i64) .nil) x1)]), (5, .v false [.val (.int .i64 v8_2)])], []⟩
theorem laws_eqIntS.r8 (x0 : List Int) (x1 : List Int) (R : V.St → Option Bool) (v8_2 : Int) : V.loopF laws_eqIntS.E Try.f16.ntmps [1, 1, 0, 1, 0] [] (V.codeOf Try.f16) (laws_eqIntS.kt x0 x1) R (laws_eqIntS.s8 x0 x1 v8_2) = laws_eqIntS.g8 x0 x1 (fun v8_2 => R (laws_eqIntS.s8 x0 x1 v8_2)) v8_2 := by kernel_rfl
theorem laws_eqIntS.e8 (x0 : List Int) (x1 : List Int) : ∀ (n : Nat) (v8_2 : Int), V.loopN (V.loopF laws_eqIntS.E Try.f16.ntmps [1, 1, 0, 1, 0] [] (V.codeOf Try.f16) (laws_eqIntS.kt x0 x1)) n (laws_eqIntS.s8 x0 x1 v8_2) = laws_eqIntS.l8 x0 x1 n v8_2 := by
  intro n
  induction n with
  | zero => intros; rfl
  | succ n ih =>
    intro v8_2
    show V.loopF laws_eqIntS.E Try.f16.ntmps [1, 1, 0, 1, 0] [] (V.codeOf Try.f16) (laws_eqIntS.kt x0 x1) (V.loopN (V.loopF laws_eqIntS.E Try.f16.ntmps [1, 1, 0, 1, 0] [] (V.codeOf Try.f16) (laws_eqIntS.kt x0 x1)) n) (laws_eqIntS.s8 x0 x1 v8_2) = _
    rw [laws_eqIntS.r8]
    simp only [ih]
    rfl
theorem laws_eqIntS.v (x0 : List Int) (x1 : List Int) : V.evBody laws_eqIntS.E laws_eqIntS.con Try.f16 ((x0, x1) : List Int × List Int) = laws_eqIntS.b x0 x1 (fun v8_2 => V.loopN (V.loopF laws_eqIntS.E Try.f16.ntmps [1, 1, 0, 1, 0] [] (V.codeOf Try.f16) (laws_eqIntS.kt x0 x1)) V.KK (laws_eqIntS.s8 x0 x1 v8_2)) := by kernel_rfl
theorem laws_eqIntS.eq (x0 : List Int) (x1 : List Int) : V.evBody laws_eqIntS.E laws_eqIntS.con Try.f16 ((x0, x1) : List Int × List Int) = laws_eqIntS x0 x1 := by
  rw [laws_eqIntS.v]
  simp only [laws_eqIntS.e8]
  rfl
theorem laws_eqIntS.ok : V.Valid Try.prog 16 laws_eqIntS.con :=
  V.body_ok (V.env_ok V.mixed V.tysOk V.tab_nil) Try.func16 (by kernel_rfl) (by kernel_rfl) (by kernel_rfl) (fun x y h => (show V.evBody laws_eqIntS.E laws_eqIntS.con Try.f16 x = _ from laws_eqIntS.eq x.1 x.2).trans h)
noncomputable abbrev laws_eqKeys.con : V.Con := ⟨(.cons (.sl (.cons (.int .i64) .nil)) (.cons (.int .i64) (.cons (.sl (.cons (.int .i64) .nil)) (.cons (.int .i64) .nil)))), (.cons .bool .nil), fun (x : List Int × Int × List Int × Int) => laws_eqKeys (x.1, x.2.1) x.2.2, [], [(true, 2), (true, 2)], [(false, 1)], [false], []⟩
noncomputable abbrev laws_eqKeys.E : V.Env := V.mkE V.tys [(16, laws_eqIntS.con)] [] [] [] []
noncomputable abbrev laws_eqKeys.kt (x0 : TKeys) (x1 : TKeys) : V.Kt Bool := V.ktOf laws_eqKeys.E laws_eqKeys.con Try.f48 ((x0.1, x0.2, x1.1, x1.2) : List Int × Int × List Int × Int)
theorem laws_eqKeys.eq (x0 : TKeys) (x1 : TKeys) : V.evBody laws_eqKeys.E laws_eqKeys.con Try.f48 ((x0.1, x0.2, x1.1, x1.2) : List Int × Int × List Int × Int) = laws_eqKeys x0 x1 := by kernel_rfl
theorem laws_eqKeys.ok : V.Valid Try.prog 48 laws_eqKeys.con :=
  V.body_ok (V.env_ok V.mixed V.tysOk (V.tab_cons laws_eqIntS.ok V.tab_nil)) Try.func48 (by kernel_rfl) (by kernel_rfl) (by kernel_rfl) (fun x y h => (show V.evBody laws_eqKeys.E laws_eqKeys.con Try.f48 x = _ from laws_eqKeys.eq (x.1, x.2.1) x.2.2).trans h)
noncomputable abbrev laws_eqHead.con : V.Con := ⟨(.cons (.int .i64) (.cons (.int .i64) (.cons (.int .i64) (.cons (.int .i64) (.cons (.int .i64) (.cons (.int .i64) (.cons (.int .i64) (.cons (.int .i64) (.cons (.sl (.cons (.int .i64) .nil)) (.cons (.int .i64) (.cons (.sl (.cons (.int .i64) .nil)) (.cons (.int .i64) (.cons (.int .i64) (.cons (.sl (.cons (.int .i64) .nil)) (.cons (.int .i64) (.cons .bool (.cons (.int .i64) (.cons (.int .i64) (.cons (.int .i64) (.cons (.int .i64) (.cons (.int .i64) (.cons (.int .i64) (.cons (.int .i64) (.cons (.int .i64) (.cons (.sl (.cons (.int .i64) .nil)) (.cons (.int .i64) (.cons (.sl (.cons (.int .i64) .nil)) (.cons (.int .i64) (.cons (.int .i64) (.cons (.sl (.cons (.int .i64) .nil)) (.cons (.int .i64) (.cons .bool .nil)))))))))))))))))))))))))))))))), (.cons .bool .nil), fun (x : Int × Int × Int × Int × Int × Int × Int × Int × List Int × Int × List Int × Int × Int × List Int × Int × Bool × Int × Int × Int × Int × Int × Int × Int × Int × List Int × Int × List Int × Int × Int × List Int × Int × Bool) => laws_eqHead (x.1, x.2.1, x.2.2.1, x.2.2.2.1, x.2.2.2.2.1, x.2.2.2.2.2.1, x.2.2.2.2.2.2.1, x.2.2.2.2.2.2.2.1, x.2.2.2.2.2.2.2.2.1, x.2.2.2.2.2.2.2.2.2.1, x.2.2.2.2.2.2.2.2.2.2.1, x.2.2.2.2.2.2.2.2.2.2.2.1, x.2.2.2.2.2.2.2.2.2.2.2.2.1, x.2.2.2.2.2.2.2.2.2.2.2.2.2.1, x.2.2.2.2.2.2.2.2.2.2.2.2.2.2.1, x.2.2.2.2.2.2.2.2.2.2.2.2.2.2.2.1) x.2.2.2.2.2.2.2.2.2.2.2.2.2.2.2.2, [], [(true, 16), (true, 16)], [(false, 1)], [false], []⟩
noncomputable abbrev laws_eqHead.E : V.Env := V.mkE V.tys [(48, laws_eqKeys.con)] [] [] [] []
noncomputable abbrev laws_eqHead.kt (x0 : THead) (x1 : THead) : V.Kt Bool := V.ktOf laws_eqHead.E laws_eqHead.con Try.f31 ((x0.1, x0.2.1, x0.2.2.1, x0.2.2.2.1, x0.2.2.2.2.1, x0.2.2.2.2.2.1, x0.2.2.2.2.2.2.1, x0.2.2.2.2.2.2.2.1, x0.2.2.2.2.2.2.2.2.1, x0.2.2.2.2.2.2.2.2.2.1, x0.2.2.2.2.2.2.2.2.2.2.1, x0.2.2.2.2.2.2.2.2.2.2.2.1, x0.2.2.2.2.2.2.2.2.2.2.2.2.1, x0.2.2.2.2.2.2.2.2.2.2.2.2.2.1, x0.2.2.2.2.2.2.2.2.2.2.2.2.2.2.1, x0.2.2.2.2.2.2.2.2.2.2.2.2.2.2.2, x1.1, x1.2.1, x1.2.2.1, x1.2.2.2.1, x1.2.2.2.2.1, x1.2.2.2.2.2.1, x1.2.2.2.2.2.2.1, x1.2.2.2.2.2.2.2.1, x1.2.2.2.2.2.2.2.2.1, x1.2.2.2.2.2.2.2.2.2.1, x1.2.2.2.2.2.2.2.2.2.2.1, x1.2.2.2.2.2.2.2.2.2.2.2.1, x1.2.2.2.2.2.2.2.2.2.2.2.2.1, x1.2.2.2.2.2.2.2.2.2.2.2.2.2.1, x1.2.2.2.2.2.2.2.2.2.2.2.2.2.2.1, x1.2.2.2.2.2.2.2.2.2.2.2.2.2.2.2) : Int × Int × Int × Int × Int × Int × Int × Int × List Int × Int × List Int × Int × Int × List Int × Int × Bool × Int × Int × Int × Int × Int × Int × Int × Int × List Int × Int × List Int × Int × Int × List Int × Int × Bool)
theorem laws_eqHead.eq (x0 : THead) (x1 : THead) : V.evBody laws_eqHead.E laws_eqHead.con Try.f31 ((x0.1, x0.2.1, x0.2.2.1, x0.2.2.2.1, x0.2.2.2.2.1, x0.2.2.2.2.2.1, x0.2.2.2.2.2.2.1, x0.2.2.2.2.2.2.2.1, x0.2.2.2.2.2.2.2.2.1, x0.2.2.2.2.2.2.2.2.2.1, x0.2.2.2.2.2.2.2.2.2.2.1, x0.2.2.2.2.2.2.2.2.2.2.2.1, x0.2.2.2.2.2.2.2.2.2.2.2.2.1, x0.2.2.2.2.2.2.2.2.2.2.2.2.2.1, x0.2.2.2.2.2.2.2.2.2.2.2.2.2.2.1, x0.2.2.2.2.2.2.2.2.2.2.2.2.2.2.2, x1.1, x1.2.1, x1.2.2.1, x1.2.2.2.1, x1.2.2.2.2.1, x1.2.2.2.2.2.1, x1.2.2.2.2.2.2.1, x1.2.2.2.2.2.2.2.1, x1.2.2.2.2.2.2.2.2.1, x1.2.2.2.2.2.2.2.2.2.1, x1.2.2.2.2.2.2.2.2.2.2.1, x1.2.2.2.2.2.2.2.2.2.2.2.1, x1.2.2.2.2.2.2.2.2.2.2.2.2.1, x1.2.2.2.2.2.2.2.2.2.2.2.2.2.1, x1.2.2.2.2.2.2.2.2.2.2.2.2.2.2.1, x1.2.2.2.2.2.2.2.2.2.2.2.2.2.2.2) : Int × Int × Int × Int × Int × Int × Int × Int × List Int × Int × List Int × Int × Int × List Int × Int × Bool × Int × Int × Int × Int × Int × Int × Int × Int × List Int × Int × List Int × Int × Int × List Int × Int × Bool) = laws_eqHead x0 x1 := by kernel_rfl
theorem laws_eqHead.ok : V.Valid Try.prog 31 laws_eqHead.con :=
  V.body_ok (V.env_ok V.mixed V.tysOk (V.tab_cons laws_eqKeys.ok V.tab_nil)) Try.func31 (by kernel_rfl) (by kernel_rfl) (by kernel_rfl) (fun x y h => (show V.evBody laws_eqHead.E laws_eqHead.con Try.f31 x = _ from laws_eqHead.eq (x.1, x.2.1, x.2.2.1, x.2.2.2.1, x.2.2.2.2.1, x.2.2.2.2.2.1, x.2.2.2.2.2.2.1, x.2.2.2.2.2.2.2.1, x.2.2.2.2.2.2.2.2.1, x.2.2.2.2.2.2.2.2.2.1, x.2.2.2.2.2.2.2.2.2.2.1, x.2.2.2.2.2.2.2.2.2.2.2.1, x.2.2.2.2.2.2.2.2.2.2.2.2.1, x.2.2.2.2.2.2.2.2.2.2.2.2.2.1, x.2.2.2.2.2.2.2.2.2.2.2.2.2.2.1, x.2.2.2.2.2.2.2.2.2.2.2.2.2.2.2.1) x.2.2.2.2.2.2.2.2.2.2.2.2.2.2.2.2).trans h)
noncomputable abbrev laws_FnExactMarkOf.con : V.Con := ⟨(.cons (.int .i64) (.cons (.int .i64) (.cons (.int .i64) (.cons (.int .i64) (.cons (.int .i64) (.cons (.int .i64) (.cons (.int .i64) (.cons (.int .i64) (.cons (.sl (.cons (.int .i64) .nil)) (.cons (.int .i64) (.cons (.sl (.cons (.int .i64) .nil)) (.cons (.int .i64) (.cons (.int .i64) (.cons (.sl (.cons (.int .i64) .nil)) (.cons (.int .i64) (.cons .bool .nil)))))))))))))))), (.cons .bool .nil), fun (x : Int × Int × Int × Int × Int × Int × Int × Int × List Int × Int × List Int × Int × Int × List Int × Int × Bool) => laws_FnExactMarkOf x, [], [(true, 16)], [(false, 1)], [false], []⟩
noncomputable abbrev laws_FnExactMarkOf.E : V.Env := V.mkE V.tys [(26, laws_szHead.con), (27, spec_MarkOf.con), (28, laws_toHead.con), (29, impl_MarkOf.con), (30, laws_eqMark.con), (31, laws_eqHead.con)] [] [(10, 3)] [] []
noncomputable abbrev laws_FnExactMarkOf.kt (x0 : THead) : V.Kt Bool := V.ktOf laws_FnExactMarkOf.E laws_FnExactMarkOf.con Try.f8 ((x0.1, x0.2.1, x0.2.2.1, x0.2.2.2.1, x0.2.2.2.2.1, x0.2.2.2.2.2.1, x0.2.2.2.2.2.2.1, x0.2.2.2.2.2.2.2.1, x0.2.2.2.2.2.2.2.2.1, x0.2.2.2.2.2.2.2.2.2.1, x0.2.2.2.2.2.2.2.2.2.2.1, x0.2.2.2.2.2.2.2.2.2.2.2.1, x0.2.2.2.2.2.2.2.2.2.2.2.2.1, x0.2.2.2.2.2.2.2.2.2.2.2.2.2.1, x0.2.2.2.2.2.2.2.2.2.2.2.2.2.2.1, x0.2.2.2.2.2.2.2.2.2.2.2.2.2.2.2) : Int × Int × Int × Int × Int × Int × Int × Int × List Int × Int × List Int × Int × Int × List Int × Int × Bool)
theorem laws_FnExactMarkOf.eq (x0 : THead) : V.evBody laws_FnExactMarkOf.E laws_FnExactMarkOf.con Try.f8 ((x0.1, x0.2.1, x0.2.2.1, x0.2.2.2.1, x0.2.2.2.2.1, x0.2.2.2.2.2.1, x0.2.2.2.2.2.2.1, x0.2.2.2.2.2.2.2.1, x0.2.2.2.2.2.2.2.2.1, x0.2.2.2.2.2.2.2.2.2.1, x0.2.2.2.2.2.2.2.2.2.2.1, x0.2.2.2.2.2.2.2.2.2.2.2.1, x0.2.2.2.2.2.2.2.2.2.2.2.2.1, x0.2.2.2.2.2.2.2.2.2.2.2.2.2.1, x0.2.2.2.2.2.2.2.2.2.2.2.2.2.2.1, x0.2.2.2.2.2.2.2.2.2.2.2.2.2.2.2) : Int × Int × Int × Int × Int × Int × Int × Int × List Int × Int × List Int × Int × Int × List Int × Int × Bool) = laws_FnExactMarkOf x0 := by kernel_rfl
theorem laws_FnExactMarkOf.ok : V.Valid Try.prog 8 laws_FnExactMarkOf.con :=
  V.body_ok (V.env_ok V.mixed V.tysOk (V.tab_cons laws_szHead.ok (V.tab_cons spec_MarkOf.ok (V.tab_cons laws_toHead.ok (V.tab_cons impl_MarkOf.ok (V.tab_cons laws_eqMark.ok (V.tab_cons laws_eqHead.ok V.tab_nil))))))) Try.func8 (by kernel_rfl) (by kernel_rfl) (by kernel_rfl) (fun x y h => (show V.evBody laws_FnExactMarkOf.E laws_FnExactMarkOf.con Try.f8 x = _ from laws_FnExactMarkOf.eq x).trans h)
end Go.Proofs.Ytchhidcbfladhaa
