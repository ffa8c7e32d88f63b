/- That the functions compute it. -/
import Derived.Test.YtdfchkmfamnocaaXIsConfirmedPure0
import Derived.Test.YtdfchkmfamnocaaProg
namespace Go.Proofs.Ytdfchkmfamnocaa
set_option linter.unusedVariables false
set_option maxRecDepth 100000
namespace V
abbrev tys : List (Nat × TI) := [(3, ⟨.int .i64, false, [.val (.int .i64 (0 : Int))], 8, [], (.cons (.int .i64) .nil)⟩),
  (4, ⟨.bool, false, [.val (.bool false)], 1, [], (.cons .bool .nil)⟩),
  (22, ⟨.sl 3, false, [.nil0], 24, [], (.cons (.sl (.cons (.int .i64) .nil)) .nil)⟩),
  (24, ⟨.st, false, [.nil0, .val (.int .i64 (0 : Int))], 32, [(0, 1, false), (1, 1, false)], (.cons (.sl (.cons (.int .i64) .nil)) (.cons (.int .i64) .nil))⟩),
  (26, ⟨.st, false, [.val (.int .i64 (0 : Int)), .val (.int .i64 (0 : Int)), .val (.int .i64 (0 : Int)), .val (.int .i64 (0 : Int)), .val (.int .i64 (0 : Int)), .val (.int .i64 (0 : Int)), .val (.int .i64 (0 : Int)), .val (.int .i64 (0 : Int)), .nil0, .val (.int .i64 (0 : Int)), .nil0, .val (.int .i64 (0 : Int)), .val (.int .i64 (0 : Int)), .nil0, .val (.int .i64 (0 : Int)), .val (.bool false)], 176, [(0, 1, false), (1, 1, false), (2, 1, false), (3, 1, false), (4, 1, false), (5, 1, false), (6, 1, false), (7, 1, false), (8, 2, true), (10, 2, true), (12, 1, false), (13, 2, true), (15, 1, false)], (.cons (.int .i64) (.cons (.int .i64) (.cons (.int .i64) (.cons (.int .i64) (.cons (.int .i64) (.cons (.int .i64) (.cons (.int .i64) (.cons (.int .i64) (.cons (.sl (.cons (.int .i64) .nil)) (.cons (.int .i64) (.cons (.sl (.cons (.int .i64) .nil)) (.cons (.int .i64) (.cons (.int .i64) (.cons (.sl (.cons (.int .i64) .nil)) (.cons (.int .i64) (.cons .bool .nil))))))))))))))))⟩),
  (27, ⟨.sl 85, false, [.nil0], 24, [], (.cons (.sl (.cons (.int .i64) (.cons (.int .i64) .nil))) .nil)⟩),
  (32, ⟨.st, false, [.nil0, .val (.int .i64 (0 : Int))], 32, [(0, 1, false), (1, 1, false)], (.cons (.sl (.cons (.int .i64) .nil)) (.cons (.int .i64) .nil))⟩),
  (35, ⟨.st, false, [.val (.int .i64 (0 : Int)), .val (.int .i64 (0 : Int)), .val (.int .i64 (0 : Int)), .val (.int .i64 (0 : Int)), .val (.int .i64 (0 : Int)), .val (.int .i64 (0 : Int)), .val (.int .i64 (0 : Int)), .val (.int .i64 (0 : Int)), .nil0, .val (.int .i64 (0 : Int)), .nil0, .val (.int .i64 (0 : Int)), .val (.int .i64 (0 : Int)), .nil0, .val (.int .i64 (0 : Int)), .val (.bool false)], 176, [(0, 1, false), (1, 1, false), (2, 1, false), (3, 1, false), (4, 1, false), (5, 1, false), (6, 1, false), (7, 1, false), (8, 2, true), (10, 2, true), (12, 1, false), (13, 2, true), (15, 1, false)], (.cons (.int .i64) (.cons (.int .i64) (.cons (.int .i64) (.cons (.int .i64) (.cons (.int .i64) (.cons (.int .i64) (.cons (.int .i64) (.cons (.int .i64) (.cons (.sl (.cons (.int .i64) .nil)) (.cons (.int .i64) (.cons (.sl (.cons (.int .i64) .nil)) (.cons (.int .i64) (.cons (.int .i64) (.cons (.sl (.cons (.int .i64) .nil)) (.cons (.int .i64) (.cons .bool .nil))))))))))))))))⟩),
  (37, ⟨.sl 83, false, [.nil0], 24, [], (.cons (.sl (.cons (.int .i64) (.cons (.int .i64) .nil))) .nil)⟩),
  (80, ⟨.st, true, [.val (.int .i64 (0 : Int)), .val (.int .i64 (0 : Int)), .val (.int .i64 (0 : Int))], 24, [(0, 1, false), (1, 1, false), (2, 1, false)], (.cons (.int .i64) (.cons (.int .i64) (.cons (.int .i64) .nil)))⟩),
  (83, ⟨.st, true, [.val (.int .i64 (0 : Int)), .val (.int .i64 (0 : Int))], 16, [(0, 1, false), (1, 1, false)], (.cons (.int .i64) (.cons (.int .i64) .nil))⟩),
  (85, ⟨.st, true, [.val (.int .i64 (0 : Int)), .val (.int .i64 (0 : Int))], 16, [(0, 1, false), (1, 1, false)], (.cons (.int .i64) (.cons (.int .i64) .nil))⟩),
  (120, ⟨.sl 22, false, [.nil0], 24, [], (.cons (.sl (.cons (.sl (.cons (.int .i64) .nil)) .nil)) .nil)⟩)]
theorem tysOk : tyAll Try.prog tys = true := by kernel_rfl
theorem mixed : Try.prog.follows .mixedOrders = true := by kernel_rfl
end V
noncomputable abbrev laws_szIntS.con : V.Con := ⟨(.cons (.sl (.cons (.int .i64) .nil)) (.cons (.int .i64) .nil)), (.cons (.int .i64) .nil), fun (x : List Int × Int) => laws_szIntS x.1 x.2, [], [(false, 1), (false, 1)], [(false, 1)], [false], []⟩
noncomputable abbrev laws_szIntS.E : V.Env := V.mkE V.tys [] [] [] [] []
noncomputable abbrev laws_szIntS.kt (x0 : List Int) (x1 : Int) : V.Kt Int := V.ktOf laws_szIntS.E laws_szIntS.con Try.f56 ((x0, x1) : List Int × Int)
theorem laws_szIntS.eq (x0 : List Int) (x1 : Int) : V.evBody laws_szIntS.E laws_szIntS.con Try.f56 ((x0, x1) : List Int × Int) = laws_szIntS x0 x1 := by kernel_rfl
theorem laws_szIntS.ok : V.Valid Try.prog 56 laws_szIntS.con :=
  V.body_ok (V.env_ok V.mixed V.tysOk V.tab_nil) Try.func56 (by kernel_rfl) (by kernel_rfl) (by kernel_rfl) (fun x y h => (show V.evBody laws_szIntS.E laws_szIntS.con Try.f56 x = _ from laws_szIntS.eq x.1 x.2).trans h)
noncomputable abbrev laws_szKeys.con : V.Con := ⟨(.cons (.sl (.cons (.int .i64) .nil)) (.cons (.int .i64) (.cons (.int .i64) .nil))), (.cons (.int .i64) .nil), fun (x : List Int × Int × Int) => laws_szKeys (x.1, x.2.1) x.2.2, [], [(true, 2), (false, 1)], [(false, 1)], [false], []⟩
noncomputable abbrev laws_szKeys.E : V.Env := V.mkE V.tys [(56, laws_szIntS.con)] [] [] [] []
noncomputable abbrev laws_szKeys.kt (x0 : TKeys) (x1 : Int) : V.Kt Int := V.ktOf laws_szKeys.E laws_szKeys.con Try.f13 ((x0.1, x0.2, x1) : List Int × Int × Int)
theorem laws_szKeys.eq (x0 : TKeys) (x1 : Int) : V.evBody laws_szKeys.E laws_szKeys.con Try.f13 ((x0.1, x0.2, x1) : List Int × Int × Int) = laws_szKeys x0 x1 := by kernel_rfl
theorem laws_szKeys.ok : V.Valid Try.prog 13 laws_szKeys.con :=
  V.body_ok (V.env_ok V.mixed V.tysOk (V.tab_cons laws_szIntS.ok V.tab_nil)) Try.func13 (by kernel_rfl) (by kernel_rfl) (by kernel_rfl) (fun x y h => (show V.evBody laws_szKeys.E laws_szKeys.con Try.f13 x = _ from laws_szKeys.eq (x.1, x.2.1) x.2.2).trans h)
noncomputable abbrev laws_szHead.con : V.Con := ⟨(.cons (.int .i64) (.cons (.int .i64) (.cons (.int .i64) (.cons (.int .i64) (.cons (.int .i64) (.cons (.int .i64) (.cons (.int .i64) (.cons (.int .i64) (.cons (.sl (.cons (.int .i64) .nil)) (.cons (.int .i64) (.cons (.sl (.cons (.int .i64) .nil)) (.cons (.int .i64) (.cons (.int .i64) (.cons (.sl (.cons (.int .i64) .nil)) (.cons (.int .i64) (.cons .bool (.cons (.int .i64) .nil))))))))))))))))), (.cons (.int .i64) .nil), fun (x : Int × Int × Int × Int × Int × Int × Int × Int × List Int × Int × List Int × Int × Int × List Int × Int × Bool × Int) => laws_szHead (x.1, x.2.1, x.2.2.1, x.2.2.2.1, x.2.2.2.2.1, x.2.2.2.2.2.1, x.2.2.2.2.2.2.1, x.2.2.2.2.2.2.2.1, x.2.2.2.2.2.2.2.2.1, x.2.2.2.2.2.2.2.2.2.1, x.2.2.2.2.2.2.2.2.2.2.1, x.2.2.2.2.2.2.2.2.2.2.2.1, x.2.2.2.2.2.2.2.2.2.2.2.2.1, x.2.2.2.2.2.2.2.2.2.2.2.2.2.1, x.2.2.2.2.2.2.2.2.2.2.2.2.2.2.1, x.2.2.2.2.2.2.2.2.2.2.2.2.2.2.2.1) x.2.2.2.2.2.2.2.2.2.2.2.2.2.2.2.2, [], [(true, 16), (false, 1)], [(false, 1)], [false], []⟩
noncomputable abbrev laws_szHead.E : V.Env := V.mkE V.tys [(13, laws_szKeys.con)] [] [] [] []
noncomputable abbrev laws_szHead.kt (x0 : THead) (x1 : Int) : V.Kt Int := V.ktOf laws_szHead.E laws_szHead.con Try.f14 ((x0.1, x0.2.1, x0.2.2.1, x0.2.2.2.1, x0.2.2.2.2.1, x0.2.2.2.2.2.1, x0.2.2.2.2.2.2.1, x0.2.2.2.2.2.2.2.1, x0.2.2.2.2.2.2.2.2.1, x0.2.2.2.2.2.2.2.2.2.1, x0.2.2.2.2.2.2.2.2.2.2.1, x0.2.2.2.2.2.2.2.2.2.2.2.1, x0.2.2.2.2.2.2.2.2.2.2.2.2.1, x0.2.2.2.2.2.2.2.2.2.2.2.2.2.1, x0.2.2.2.2.2.2.2.2.2.2.2.2.2.2.1, x0.2.2.2.2.2.2.2.2.2.2.2.2.2.2.2, x1) : Int × Int × Int × Int × Int × Int × Int × Int × List Int × Int × List Int × Int × Int × List Int × Int × Bool × Int)
theorem laws_szHead.eq (x0 : THead) (x1 : Int) : V.evBody laws_szHead.E laws_szHead.con Try.f14 ((x0.1, x0.2.1, x0.2.2.1, x0.2.2.2.1, x0.2.2.2.2.1, x0.2.2.2.2.2.1, x0.2.2.2.2.2.2.1, x0.2.2.2.2.2.2.2.1, x0.2.2.2.2.2.2.2.2.1, x0.2.2.2.2.2.2.2.2.2.1, x0.2.2.2.2.2.2.2.2.2.2.1, x0.2.2.2.2.2.2.2.2.2.2.2.1, x0.2.2.2.2.2.2.2.2.2.2.2.2.1, x0.2.2.2.2.2.2.2.2.2.2.2.2.2.1, x0.2.2.2.2.2.2.2.2.2.2.2.2.2.2.1, x0.2.2.2.2.2.2.2.2.2.2.2.2.2.2.2, x1) : Int × Int × Int × Int × Int × Int × Int × Int × List Int × Int × List Int × Int × Int × List Int × Int × Bool × Int) = laws_szHead x0 x1 := by kernel_rfl
theorem laws_szHead.ok : V.Valid Try.prog 14 laws_szHead.con :=
  V.body_ok (V.env_ok V.mixed V.tysOk (V.tab_cons laws_szKeys.ok V.tab_nil)) Try.func14 (by kernel_rfl) (by kernel_rfl) (by kernel_rfl) (fun x y h => (show V.evBody laws_szHead.E laws_szHead.con Try.f14 x = _ from laws_szHead.eq (x.1, x.2.1, x.2.2.1, x.2.2.2.1, x.2.2.2.2.1, x.2.2.2.2.2.1, x.2.2.2.2.2.2.1, x.2.2.2.2.2.2.2.1, x.2.2.2.2.2.2.2.2.1, x.2.2.2.2.2.2.2.2.2.1, x.2.2.2.2.2.2.2.2.2.2.1, x.2.2.2.2.2.2.2.2.2.2.2.1, x.2.2.2.2.2.2.2.2.2.2.2.2.1, x.2.2.2.2.2.2.2.2.2.2.2.2.2.1, x.2.2.2.2.2.2.2.2.2.2.2.2.2.2.1, x.2.2.2.2.2.2.2.2.2.2.2.2.2.2.2.1) x.2.2.2.2.2.2.2.2.2.2.2.2.2.2.2.2).trans h)
noncomputable abbrev laws_szSigS.con : V.Con := ⟨(.cons (.sl (.cons (.int .i64) (.cons (.int .i64) .nil))) (.cons (.int .i64) .nil)), (.cons (.int .i64) .nil), fun (x : List TSig × Int) => laws_szSigS x.1 x.2, [], [(false, 1), (false, 1)], [(false, 1)], [false], []⟩
noncomputable abbrev laws_szSigS.E : V.Env := V.mkE V.tys [] [] [] [] []
noncomputable abbrev laws_szSigS.kt (x0 : List TSig) (x1 : Int) : V.Kt Int := V.ktOf laws_szSigS.E laws_szSigS.con Try.f15 ((x0, x1) : List TSig × Int)
theorem laws_szSigS.eq (x0 : List TSig) (x1 : Int) : V.evBody laws_szSigS.E laws_szSigS.con Try.f15 ((x0, x1) : List TSig × Int) = laws_szSigS x0 x1 := by kernel_rfl
theorem laws_szSigS.ok : V.Valid Try.prog 15 laws_szSigS.con :=
  V.body_ok (V.env_ok V.mixed V.tysOk V.tab_nil) Try.func15 (by kernel_rfl) (by kernel_rfl) (by kernel_rfl) (fun x y h => (show V.evBody laws_szSigS.E laws_szSigS.con Try.f15 x = _ from laws_szSigS.eq x.1 x.2).trans h)
noncomputable abbrev laws_toIntS.con : V.Con := ⟨(.cons (.sl (.cons (.int .i64) .nil)) .nil), (.cons (.sl (.cons (.int .i64) .nil)) .nil), fun (x : List Int) => laws_toIntS x, [], [(false, 1)], [(false, 1)], [true], []⟩
noncomputable abbrev laws_toIntS.E : V.Env := V.mkE V.tys [] [(6, [0, 3, 4], [])] [] [] []
noncomputable abbrev laws_toIntS.kt (x0 : List Int) : V.Kt (List Int) := V.ktOf laws_toIntS.E laws_toIntS.con Try.f49 ((x0) : List Int)
noncomputable abbrev laws_toIntS.s6 (x0 : List Int) (v6_1 : Int) (v6_2 : List Int) : V.St := ⟨[(0, .v false [.val (.sl (.cons (.int .i64) .nil) x0)]), (3, .v false [.ref 64000038400192]), (4, .v false [.val (.int .i64 v6_1)])], [(64000038400192, .row (.cons (.int .i64) .nil) true v6_2)]⟩
theorem laws_toIntS.r6 (x0 : List Int) (R : V.St → Option (List Int)) (v6_1 : Int) (v6_2 : List Int) : V.loopF laws_toIntS.E Try.f49.ntmps [1, 1, 0, 1, 0] [] (V.codeOf Try.f49) (laws_toIntS.kt x0) R (laws_toIntS.s6 x0 v6_1 v6_2) = laws_toIntS.g6 x0 (fun v6_1 v6_2 => R (laws_toIntS.s6 x0 v6_1 v6_2)) v6_1 v6_2 := by kernel_rfl
theorem laws_toIntS.e6 (x0 : List Int) : ∀ (n : Nat) (v6_1 : Int) (v6_2 : List Int), V.loopN (V.loopF laws_toIntS.E Try.f49.ntmps [1, 1, 0, 1, 0] [] (V.codeOf Try.f49) (laws_toIntS.kt x0)) n (laws_toIntS.s6 x0 v6_1 v6_2) = laws_toIntS.l6 x0 n v6_1 v6_2 := by
  intro n
  induction n with
  | zero => intros; rfl
  | succ n ih =>
    intro v6_1 v6_2
    show V.loopF laws_toIntS.E Try.f49.ntmps [1, 1, 0, 1, 0] [] (V.codeOf Try.f49) (laws_toIntS.kt x0) (V.loopN (V.loopF laws_toIntS.E Try.f49.ntmps [1, 1, 0, 1, 0] [] (V.codeOf Try.f49) (laws_toIntS.kt x0)) n) (laws_toIntS.s6 x0 v6_1 v6_2) = _
    rw [laws_toIntS.r6]
    simp only [ih]
    rfl
theorem laws_toIntS.v (x0 : List Int) : V.evBody laws_toIntS.E laws_toIntS.con Try.f49 ((x0) : List Int) = laws_toIntS.b x0 (fun v6_1 v6_2 => V.loopN (V.loopF laws_toIntS.E Try.f49.ntmps [1, 1, 0, 1, 0] [] (V.codeOf Try.f49) (laws_toIntS.kt x0)) V.KK (laws_toIntS.s6 x0 v6_1 v6_2)) := by kernel_rfl
theorem laws_toIntS.eq (x0 : List Int) : V.evBody laws_toIntS.E laws_toIntS.con Try.f49 ((x0) : List Int) = laws_toIntS x0 := by
  rw [laws_toIntS.v]
  simp only [laws_toIntS.e6]
  rfl
theorem laws_toIntS.ok : V.Valid Try.prog 49 laws_toIntS.con :=
  V.body_ok (V.env_ok V.mixed V.tysOk V.tab_nil) Try.func49 (by kernel_rfl) (by kernel_rfl) (by kernel_rfl) (fun x y h => (show V.evBody laws_toIntS.E laws_toIntS.con Try.f49 x = _ from laws_toIntS.eq x).trans h)
noncomputable abbrev laws_toKeys.con : V.Con := ⟨(.cons (.sl (.cons (.int .i64) .nil)) (.cons (.int .i64) .nil)), (.cons (.sl (.cons (.int .i64) .nil)) (.cons (.int .i64) .nil)), fun (x : List Int × Int) => laws_toKeys x, [], [(true, 2)], [(true, 2)], [true, false], []⟩
noncomputable abbrev laws_toKeys.E : V.Env := V.mkE V.tys [(49, laws_toIntS.con)] [] [] [] []
noncomputable abbrev laws_toKeys.kt (x0 : TKeys) : V.Kt TKeys := V.ktOf laws_toKeys.E laws_toKeys.con Try.f17 ((x0.1, x0.2) : List Int × Int)
theorem laws_toKeys.eq (x0 : TKeys) : V.evBody laws_toKeys.E laws_toKeys.con Try.f17 ((x0.1, x0.2) : List Int × Int) = laws_toKeys x0 := by kernel_rfl
theorem laws_toKeys.ok : V.Valid Try.prog 17 laws_toKeys.con :=
  V.body_ok (V.env_ok V.mixed V.tysOk (V.tab_cons laws_toIntS.ok V.tab_nil)) Try.func17 (by kernel_rfl) (by kernel_rfl) (by kernel_rfl) (fun x y h => (show V.evBody laws_toKeys.E laws_toKeys.con Try.f17 x = _ from laws_toKeys.eq x).trans h)
noncomputable abbrev laws_toHead.con : V.Con := ⟨(.cons (.int .i64) (.cons (.int .i64) (.cons (.int .i64) (.cons (.int .i64) (.cons (.int .i64) (.cons (.int .i64) (.cons (.int .i64) (.cons (.int .i64) (.cons (.sl (.cons (.int .i64) .nil)) (.cons (.int .i64) (.cons (.sl (.cons (.int .i64) .nil)) (.cons (.int .i64) (.cons (.int .i64) (.cons (.sl (.cons (.int .i64) .nil)) (.cons (.int .i64) (.cons .bool .nil)))))))))))))))), (.cons (.int .i64) (.cons (.int .i64) (.cons (.int .i64) (.cons (.int .i64) (.cons (.int .i64) (.cons (.int .i64) (.cons (.int .i64) (.cons (.int .i64) (.cons (.sl (.cons (.int .i64) .nil)) (.cons (.int .i64) (.cons (.sl (.cons (.int .i64) .nil)) (.cons (.int .i64) (.cons (.int .i64) (.cons (.sl (.cons (.int .i64) .nil)) (.cons (.int .i64) (.cons .bool .nil)))))))))))))))), fun (x : Int × Int × Int × Int × Int × Int × Int × Int × List Int × Int × List Int × Int × Int × List Int × Int × Bool) => laws_toHead x, [], [(true, 16)], [(true, 16)], [false, false, false, false, false, false, false, false, true, false, true, false, false, true, false, false], []⟩
noncomputable abbrev laws_toHead.E : V.Env := V.mkE V.tys [(17, laws_toKeys.con)] [] [] [] []
noncomputable abbrev laws_toHead.kt (x0 : THead) : V.Kt THead := V.ktOf laws_toHead.E laws_toHead.con Try.f18 ((x0.1, x0.2.1, x0.2.2.1, x0.2.2.2.1, x0.2.2.2.2.1, x0.2.2.2.2.2.1, x0.2.2.2.2.2.2.1, x0.2.2.2.2.2.2.2.1, x0.2.2.2.2.2.2.2.2.1, x0.2.2.2.2.2.2.2.2.2.1, x0.2.2.2.2.2.2.2.2.2.2.1, x0.2.2.2.2.2.2.2.2.2.2.2.1, x0.2.2.2.2.2.2.2.2.2.2.2.2.1, x0.2.2.2.2.2.2.2.2.2.2.2.2.2.1, x0.2.2.2.2.2.2.2.2.2.2.2.2.2.2.1, x0.2.2.2.2.2.2.2.2.2.2.2.2.2.2.2) : Int × Int × Int × Int × Int × Int × Int × Int × List Int × Int × List Int × Int × Int × List Int × Int × Bool)
theorem laws_toHead.eq (x0 : THead) : V.evBody laws_toHead.E laws_toHead.con Try.f18 ((x0.1, x0.2.1, x0.2.2.1, x0.2.2.2.1, x0.2.2.2.2.1, x0.2.2.2.2.2.1, x0.2.2.2.2.2.2.1, x0.2.2.2.2.2.2.2.1, x0.2.2.2.2.2.2.2.2.1, x0.2.2.2.2.2.2.2.2.2.1, x0.2.2.2.2.2.2.2.2.2.2.1, x0.2.2.2.2.2.2.2.2.2.2.2.1, x0.2.2.2.2.2.2.2.2.2.2.2.2.1, x0.2.2.2.2.2.2.2.2.2.2.2.2.2.1, x0.2.2.2.2.2.2.2.2.2.2.2.2.2.2.1, x0.2.2.2.2.2.2.2.2.2.2.2.2.2.2.2) : Int × Int × Int × Int × Int × Int × Int × Int × List Int × Int × List Int × Int × Int × List Int × Int × Bool) = laws_toHead x0 := by kernel_rfl
theorem laws_toHead.ok : V.Valid Try.prog 18 laws_toHead.con :=
  V.body_ok (V.env_ok V.mixed V.tysOk (V.tab_cons laws_toKeys.ok V.tab_nil)) Try.func18 (by kernel_rfl) (by kernel_rfl) (by kernel_rfl) (fun x y h => (show V.evBody laws_toHead.E laws_toHead.con Try.f18 x = _ from laws_toHead.eq x).trans h)
noncomputable abbrev laws_toSig.con : V.Con := ⟨(.cons (.int .i64) (.cons (.int .i64) .nil)), (.cons (.int .i64) (.cons (.int .i64) .nil)), fun (x : Int × Int) => laws_toSig x, [], [(true, 2)], [(true, 2)], [false, false], []⟩
noncomputable abbrev laws_toSig.E : V.Env := V.mkE V.tys [] [] [] [] []
noncomputable abbrev laws_toSig.kt (x0 : TSig) : V.Kt TSig := V.ktOf laws_toSig.E laws_toSig.con Try.f60 ((x0.1, x0.2) : Int × Int)
theorem laws_toSig.eq (x0 : TSig) : V.evBody laws_toSig.E laws_toSig.con Try.f60 ((x0.1, x0.2) : Int × Int) = laws_toSig x0 := by kernel_rfl
theorem laws_toSig.ok : V.Valid Try.prog 60 laws_toSig.con :=
  V.body_ok (V.env_ok V.mixed V.tysOk V.tab_nil) Try.func60 (by kernel_rfl) (by kernel_rfl) (by kernel_rfl) (fun x y h => (show V.evBody laws_toSig.E laws_toSig.con Try.f60 x = _ from laws_toSig.eq x).trans h)
noncomputable abbrev laws_toSigS.con : V.Con := ⟨(.cons (.sl (.cons (.int .i64) (.cons (.int .i64) .nil))) .nil), (.cons (.sl (.cons (.int .i64) (.cons (.int .i64) .nil))) .nil), fun (x : List TSig) => laws_toSigS x, [], [(false, 1)], [(false, 1)], [true], []⟩
noncomputable abbrev laws_toSigS.E : V.Env := V.mkE V.tys [(60, laws_toSig.con)] [(6, [0, 3, 4], [])] [] [] []
noncomputable abbrev laws_toSigS.kt (x0 : List TSig) : V.Kt (List TSig) := V.ktOf laws_toSigS.E laws_toSigS.con Try.f19 ((x0) : List TSig)
noncomputable abbrev laws_toSigS.s6 (x0 : List TSig) (v6_1 : Int) (v6_2 : List TSig) : V.St := ⟨[(0, .v false [.val (.sl (.cons (.int .i64) (.cons (.int .i64) .nil)) x0)]), (3, .v false [.ref 64000038400192]), (4, .v false [.val (.int .i64 v6_1)])], [(64000038400192, .row (.cons (.int .i64) (.cons (.int .i64) .nil)) true v6_2)]⟩
theorem laws_toSigS.r6 (x0 : List TSig) (R : V.St → Option (List TSig)) (v6_1 : Int) (v6_2 : List TSig) : V.loopF laws_toSigS.E Try.f19.ntmps [1, 1, 0, 1, 0] [] (V.codeOf Try.f19) (laws_toSigS.kt x0) R (laws_toSigS.s6 x0 v6_1 v6_2) = laws_toSigS.g6 x0 (fun v6_1 v6_2 => R (laws_toSigS.s6 x0 v6_1 v6_2)) v6_1 v6_2 := by kernel_rfl
theorem laws_toSigS.e6 (x0 : List TSig) : ∀ (n : Nat) (v6_1 : Int) (v6_2 : List TSig), V.loopN (V.loopF laws_toSigS.E Try.f19.ntmps [1, 1, 0, 1, 0] [] (V.codeOf Try.f19) (laws_toSigS.kt x0)) n (laws_toSigS.s6 x0 v6_1 v6_2) = laws_toSigS.l6 x0 n v6_1 v6_2 := by
  intro n
  induction n with
  | zero => intros; rfl
  | succ n ih =>
    intro v6_1 v6_2
    show V.loopF laws_toSigS.E Try.f19.ntmps [1, 1, 0, 1, 0] [] (V.codeOf Try.f19) (laws_toSigS.kt x0) (V.loopN (V.loopF laws_toSigS.E Try.f19.ntmps [1, 1, 0, 1, 0] [] (V.codeOf Try.f19) (laws_toSigS.kt x0)) n) (laws_toSigS.s6 x0 v6_1 v6_2) = _
    rw [laws_toSigS.r6]
    simp only [ih]
    rfl
theorem laws_toSigS.v (x0 : List TSig) : V.evBody laws_toSigS.E laws_toSigS.con Try.f19 ((x0) : List TSig) = laws_toSigS.b x0 (fun v6_1 v6_2 => V.loopN (V.loopF laws_toSigS.E Try.f19.ntmps [1, 1, 0, 1, 0] [] (V.codeOf Try.f19) (laws_toSigS.kt x0)) V.KK (laws_toSigS.s6 x0 v6_1 v6_2)) := by kernel_rfl
theorem laws_toSigS.eq (x0 : List TSig) : V.evBody laws_toSigS.E laws_toSigS.con Try.f19 ((x0) : List TSig) = laws_toSigS x0 := by
  rw [laws_toSigS.v]
  simp only [laws_toSigS.e6]
  rfl
theorem laws_toSigS.ok : V.Valid Try.prog 19 laws_toSigS.con :=
  V.body_ok (V.env_ok V.mixed V.tysOk (V.tab_cons laws_toSig.ok V.tab_nil)) Try.func19 (by kernel_rfl) (by kernel_rfl) (by kernel_rfl) (fun x y h => (show V.evBody laws_toSigS.E laws_toSigS.con Try.f19 x = _ from laws_toSigS.eq x).trans h)
noncomputable abbrev spec_l1In.con : V.Con := ⟨(.cons (.int .i64) (.cons (.int .i64) (.cons (.int .i64) .nil))), (.cons .bool .nil), fun (x : Int × Int × Int) => spec_l1In x.1 x.2.1 x.2.2, [], [(false, 1), (false, 1), (false, 1)], [(false, 1)], [false], []⟩
noncomputable abbrev spec_l1In.E : V.Env := V.mkE V.tys [] [] [] [] []
noncomputable abbrev spec_l1In.kt (x0 : Int) (x1 : Int) (x2 : Int) : V.Kt Bool := V.ktOf spec_l1In.E spec_l1In.con Try.f72 ((x0, x1, x2) : Int × Int × Int)
theorem spec_l1In.eq (x0 : Int) (x1 : Int) (x2 : Int) : V.evBody spec_l1In.E spec_l1In.con Try.f72 ((x0, x1, x2) : Int × Int × Int) = spec_l1In x0 x1 x2 := by kernel_rfl
theorem spec_l1In.ok : V.Valid Try.prog 72 spec_l1In.con :=
  V.body_ok (V.env_ok V.mixed V.tysOk V.tab_nil) Try.func72 (by kernel_rfl) (by kernel_rfl) (by kernel_rfl) (fun x y h => (show V.evBody spec_l1In.E spec_l1In.con Try.f72 x = _ from spec_l1In.eq x.1 x.2.1 x.2.2).trans h)
noncomputable abbrev spec_IsKeys.con : V.Con := ⟨(.cons (.sl (.cons (.int .i64) .nil)) (.cons (.int .i64) .nil)), (.cons .bool .nil), fun (x : List Int × Int) => spec_IsKeys x, [], [(true, 2)], [(false, 1)], [false], []⟩
noncomputable abbrev spec_IsKeys.E : V.Env := V.mkE V.tys [(72, spec_l1In.con)] [(4, [1, 3], [])] [(4, 22)] [] []
noncomputable abbrev spec_IsKeys.kt (x0 : TKeys) : V.Kt Bool := V.ktOf spec_IsKeys.E spec_IsKeys.con Try.f65 ((x0.1, x0.2) : List Int × Int)
noncomputable abbrev spec_IsKeys.s4 (x0 : TKeys) (v4_0 : Int) : V.St := ⟨[(1, .v false [.ptr 64000 0]), (3, .v false [.val (.int .i64 v4_0)])], [(64000, .box [.val (.sl (.cons (.int .i64) .nil) x0.1), .val (.int .i64 x0.2)])]⟩
theorem spec_IsKeys.r4 (x0 : TKeys) (R : V.St → Option Bool) (v4_0 : Int) : V.loopF spec_IsKeys.E Try.f65.ntmps [1, 0, 1, 0] [] (V.codeOf Try.f65) (spec_IsKeys.kt x0) R (spec_IsKeys.s4 x0 v4_0) = spec_IsKeys.g4 x0 (fun v4_0 => R (spec_IsKeys.s4 x0 v4_0)) v4_0 := by kernel_rfl
theorem spec_IsKeys.e4 (x0 : TKeys) : ∀ (n : Nat) (v4_0 : Int), V.loopN (V.loopF spec_IsKeys.E Try.f65.ntmps [1, 0, 1, 0] [] (V.codeOf Try.f65) (spec_IsKeys.kt x0)) n (spec_IsKeys.s4 x0 v4_0) = spec_IsKeys.l4 x0 n v4_0 := by
  intro n
  induction n with
  | zero => intros; rfl
  | succ n ih =>
    intro v4_0
    show V.loopF spec_IsKeys.E Try.f65.ntmps [1, 0, 1, 0] [] (V.codeOf Try.f65) (spec_IsKeys.kt x0) (V.loopN (V.loopF spec_IsKeys.E Try.f65.ntmps [1, 0, 1, 0] [] (V.codeOf Try.f65) (spec_IsKeys.kt x0)) n) (spec_IsKeys.s4 x0 v4_0) = _
    rw [spec_IsKeys.r4]
    simp only [ih]
    rfl
theorem spec_IsKeys.v (x0 : TKeys) : V.evBody spec_IsKeys.E spec_IsKeys.con Try.f65 ((x0.1, x0.2) : List Int × Int) = spec_IsKeys.b x0 (fun v4_0 => V.loopN (V.loopF spec_IsKeys.E Try.f65.ntmps [1, 0, 1, 0] [] (V.codeOf Try.f65) (spec_IsKeys.kt x0)) V.KK (spec_IsKeys.s4 x0 v4_0)) := by kernel_rfl
theorem spec_IsKeys.eq (x0 : TKeys) : V.evBody spec_IsKeys.E spec_IsKeys.con Try.f65 ((x0.1, x0.2) : List Int × Int) = spec_IsKeys x0 := by
  rw [spec_IsKeys.v]
  simp only [spec_IsKeys.e4]
  rfl
theorem spec_IsKeys.ok : V.Valid Try.prog 65 spec_IsKeys.con :=
  V.body_ok (V.env_ok V.mixed V.tysOk (V.tab_cons spec_l1In.ok V.tab_nil)) Try.func65 (by kernel_rfl) (by kernel_rfl) (by kernel_rfl) (fun x y h => (show V.evBody spec_IsKeys.E spec_IsKeys.con Try.f65 x = _ from spec_IsKeys.eq x).trans h)
noncomputable abbrev spec_KeysInts.con : V.Con := ⟨(.cons (.sl (.cons (.int .i64) .nil)) (.cons (.int .i64) .nil)), (.cons (.sl (.cons (.int .i64) .nil)) .nil), fun (x : List Int × Int) => spec_KeysInts x, [], [(true, 2)], [(false, 1)], [true], []⟩
noncomputable abbrev spec_KeysInts.E : V.Env := V.mkE V.tys [] [] [] [] []
noncomputable abbrev spec_KeysInts.kt (x0 : TKeys) : V.Kt (List Int) := V.ktOf spec_KeysInts.E spec_KeysInts.con Try.f125 ((x0.1, x0.2) : List Int × Int)
theorem spec_KeysInts.eq (x0 : TKeys) : V.evBody spec_KeysInts.E spec_KeysInts.con Try.f125 ((x0.1, x0.2) : List Int × Int) = spec_KeysInts x0 := by kernel_rfl
theorem spec_KeysInts.ok : V.Valid Try.prog 125 spec_KeysInts.con :=
  V.body_ok (V.env_ok V.mixed V.tysOk V.tab_nil) Try.func125 (by kernel_rfl) (by kernel_rfl) (by kernel_rfl) (fun x y h => (show V.evBody spec_KeysInts.E spec_KeysInts.con Try.f125 x = _ from spec_KeysInts.eq x).trans h)
noncomputable abbrev spec_HeadInts.con : V.Con := ⟨(.cons (.int .i64) (.cons (.int .i64) (.cons (.int .i64) (.cons (.int .i64) (.cons (.int .i64) (.cons (.int .i64) (.cons (.int .i64) (.cons (.int .i64) (.cons (.sl (.cons (.int .i64) .nil)) (.cons (.int .i64) (.cons (.sl (.cons (.int .i64) .nil)) (.cons (.int .i64) (.cons (.int .i64) (.cons (.sl (.cons (.int .i64) .nil)) (.cons (.int .i64) (.cons .bool .nil)))))))))))))))), (.cons (.sl (.cons (.int .i64) .nil)) .nil), fun (x : Int × Int × Int × Int × Int × Int × Int × Int × List Int × Int × List Int × Int × Int × List Int × Int × Bool) => spec_HeadInts x, [], [(true, 16)], [(false, 1)], [true], []⟩
noncomputable abbrev spec_HeadInts.E : V.Env := V.mkE V.tys [(125, spec_KeysInts.con)] [] [] [] []
noncomputable abbrev spec_HeadInts.kt (x0 : THead) : V.Kt (List Int) := V.ktOf spec_HeadInts.E spec_HeadInts.con Try.f107 ((x0.1, x0.2.1, x0.2.2.1, x0.2.2.2.1, x0.2.2.2.2.1, x0.2.2.2.2.2.1, x0.2.2.2.2.2.2.1, x0.2.2.2.2.2.2.2.1, x0.2.2.2.2.2.2.2.2.1, x0.2.2.2.2.2.2.2.2.2.1, x0.2.2.2.2.2.2.2.2.2.2.1, x0.2.2.2.2.2.2.2.2.2.2.2.1, x0.2.2.2.2.2.2.2.2.2.2.2.2.1, x0.2.2.2.2.2.2.2.2.2.2.2.2.2.1, x0.2.2.2.2.2.2.2.2.2.2.2.2.2.2.1, x0.2.2.2.2.2.2.2.2.2.2.2.2.2.2.2) : Int × Int × Int × Int × Int × Int × Int × Int × List Int × Int × List Int × Int × Int × List Int × Int × Bool)
theorem spec_HeadInts.eq (x0 : THead) : V.evBody spec_HeadInts.E spec_HeadInts.con Try.f107 ((x0.1, x0.2.1, x0.2.2.1, x0.2.2.2.1, x0.2.2.2.2.1, x0.2.2.2.2.2.1, x0.2.2.2.2.2.2.1, x0.2.2.2.2.2.2.2.1, x0.2.2.2.2.2.2.2.2.1, x0.2.2.2.2.2.2.2.2.2.1, x0.2.2.2.2.2.2.2.2.2.2.1, x0.2.2.2.2.2.2.2.2.2.2.2.1, x0.2.2.2.2.2.2.2.2.2.2.2.2.1, x0.2.2.2.2.2.2.2.2.2.2.2.2.2.1, x0.2.2.2.2.2.2.2.2.2.2.2.2.2.2.1, x0.2.2.2.2.2.2.2.2.2.2.2.2.2.2.2) : Int × Int × Int × Int × Int × Int × Int × Int × List Int × Int × List Int × Int × Int × List Int × Int × Bool) = spec_HeadInts x0 := by kernel_rfl
theorem spec_HeadInts.ok : V.Valid Try.prog 107 spec_HeadInts.con :=
  V.body_ok (V.env_ok V.mixed V.tysOk (V.tab_cons spec_KeysInts.ok V.tab_nil)) Try.func107 (by kernel_rfl) (by kernel_rfl) (by kernel_rfl) (fun x y h => (show V.evBody spec_HeadInts.E spec_HeadInts.con Try.f107 x = _ from spec_HeadInts.eq x).trans h)
noncomputable abbrev spec_Mod.con : V.Con := ⟨(.cons (.int .i64) (.cons (.int .i64) .nil)), (.cons (.int .i64) .nil), fun (x : Int × Int) => spec_Mod x.1 x.2, [], [(false, 1), (false, 1)], [(false, 1)], [false], []⟩
noncomputable abbrev spec_Mod.E : V.Env := V.mkE V.tys [(72, spec_l1In.con)] [] [] [] []
noncomputable abbrev spec_Mod.kt (x0 : Int) (x1 : Int) : V.Kt Int := V.ktOf spec_Mod.E spec_Mod.con Try.f124 ((x0, x1) : Int × Int)
theorem spec_Mod.eq (x0 : Int) (x1 : Int) : V.evBody spec_Mod.E spec_Mod.con Try.f124 ((x0, x1) : Int × Int) = spec_Mod x0 x1 := by kernel_rfl
theorem spec_Mod.ok : V.Valid Try.prog 124 spec_Mod.con :=
  V.body_ok (V.env_ok V.mixed V.tysOk (V.tab_cons spec_l1In.ok V.tab_nil)) Try.func124 (by kernel_rfl) (by kernel_rfl) (by kernel_rfl) (fun x y h => (show V.evBody spec_Mod.E spec_Mod.con Try.f124 x = _ from spec_Mod.eq x.1 x.2).trans h)
noncomputable abbrev spec_Hash.con : V.Con := ⟨(.cons (.sl (.cons (.int .i64) .nil)) .nil), (.cons (.int .i64) .nil), fun (x : List Int) => spec_Hash x, [], [(false, 1)], [(false, 1)], [false], []⟩
noncomputable abbrev spec_Hash.E : V.Env := V.mkE V.tys [(124, spec_Mod.con)] [(6, [0, 3, 4], [])] [] [] []
noncomputable abbrev spec_Hash.kt (x0 : List Int) : V.Kt Int := V.ktOf spec_Hash.E spec_Hash.con Try.f106 ((x0) : List Int)
noncomputable abbrev spec_Hash.s6 (x0 : List Int) (v6_1 : Int) (v6_2 : Int) : V.St := ⟨[(0, .v false [.val (.sl (.cons (.int .i64) .nil) x0)]), (3, .v false [.val (.int .i64 v6_1)]), (4, .v false [.val (.int .i64 v6_2)])], []⟩
theorem spec_Hash.r6 (x0 : List Int) (R : V.St → Option Int) (v6_1 : Int) (v6_2 : Int) : V.loopF spec_Hash.E Try.f106.ntmps [1, 1, 0, 1, 0] [] (V.codeOf Try.f106) (spec_Hash.kt x0) R (spec_Hash.s6 x0 v6_1 v6_2) = spec_Hash.g6 x0 (fun v6_1 v6_2 => R (spec_Hash.s6 x0 v6_1 v6_2)) v6_1 v6_2 := by kernel_rfl
theorem spec_Hash.e6 (x0 : List Int) : ∀ (n : Nat) (v6_1 : Int) (v6_2 : Int), V.loopN (V.loopF spec_Hash.E Try.f106.ntmps [1, 1, 0, 1, 0] [] (V.codeOf Try.f106) (spec_Hash.kt x0)) n (spec_Hash.s6 x0 v6_1 v6_2) = spec_Hash.l6 x0 n v6_1 v6_2 := by
  intro n
  induction n with
  | zero => intros; rfl
  | succ n ih =>
    intro v6_1 v6_2
    show V.loopF spec_Hash.E Try.f106.ntmps [1, 1, 0, 1, 0] [] (V.codeOf Try.f106) (spec_Hash.kt x0) (V.loopN (V.loopF spec_Hash.E Try.f106.ntmps [1, 1, 0, 1, 0] [] (V.codeOf Try.f106) (spec_Hash.kt x0)) n) (spec_Hash.s6 x0 v6_1 v6_2) = _
    rw [spec_Hash.r6]
    simp only [ih]
    rfl
theorem spec_Hash.v (x0 : List Int) : V.evBody spec_Hash.E spec_Hash.con Try.f106 ((x0) : List Int) = spec_Hash.b x0 (fun v6_1 v6_2 => V.loopN (V.loopF spec_Hash.E Try.f106.ntmps [1, 1, 0, 1, 0] [] (V.codeOf Try.f106) (spec_Hash.kt x0)) V.KK (spec_Hash.s6 x0 v6_1 v6_2)) := by kernel_rfl
theorem spec_Hash.eq (x0 : List Int) : V.evBody spec_Hash.E spec_Hash.con Try.f106 ((x0) : List Int) = spec_Hash x0 := by
  rw [spec_Hash.v]
  simp only [spec_Hash.e6]
  rfl
theorem spec_Hash.ok : V.Valid Try.prog 106 spec_Hash.con :=
  V.body_ok (V.env_ok V.mixed V.tysOk (V.tab_cons spec_Mod.ok V.tab_nil)) Try.func106 (by kernel_rfl) (by kernel_rfl) (by kernel_rfl) (fun x y h => (show V.evBody spec_Hash.E spec_Hash.con Try.f106 x = _ from spec_Hash.eq x).trans h)
noncomputable abbrev spec_HeadDigest.con : V.Con := ⟨(.cons (.int .i64) (.cons (.int .i64) (.cons (.int .i64) (.cons (.int .i64) (.cons (.int .i64) (.cons (.int .i64) (.cons (.int .i64) (.cons (.int .i64) (.cons (.sl (.cons (.int .i64) .nil)) (.cons (.int .i64) (.cons (.sl (.cons (.int .i64) .nil)) (.cons (.int .i64) (.cons (.int .i64) (.cons (.sl (.cons (.int .i64) .nil)) (.cons (.int .i64) (.cons .bool .nil)))))))))))))))), (.cons (.int .i64) .nil), fun (x : Int × Int × Int × Int × Int × Int × Int × Int × List Int × Int × List Int × Int × Int × List Int × Int × Bool) => spec_HeadDigest x, [], [(true, 16)], [(false, 1)], [false], []⟩
noncomputable abbrev spec_HeadDigest.E : V.Env := V.mkE V.tys [(106, spec_Hash.con), (107, spec_HeadInts.con)] [] [] [] []
noncomputable abbrev spec_HeadDigest.kt (x0 : THead) : V.Kt Int := V.ktOf spec_HeadDigest.E spec_HeadDigest.con Try.f74 ((x0.1, x0.2.1, x0.2.2.1, x0.2.2.2.1, x0.2.2.2.2.1, x0.2.2.2.2.2.1, x0.2.2.2.2.2.2.1, x0.2.2.2.2.2.2.2.1, x0.2.2.2.2.2.2.2.2.1, x0.2.2.2.2.2.2.2.2.2.1, x0.2.2.2.2.2.2.2.2.2.2.1, x0.2.2.2.2.2.2.2.2.2.2.2.1, x0.2.2.2.2.2.2.2.2.2.2.2.2.1, x0.2.2.2.2.2.2.2.2.2.2.2.2.2.1, x0.2.2.2.2.2.2.2.2.2.2.2.2.2.2.1, x0.2.2.2.2.2.2.2.2.2.2.2.2.2.2.2) : Int × Int × Int × Int × Int × Int × Int × Int × List Int × Int × List Int × Int × Int × List Int × Int × Bool)
theorem spec_HeadDigest.eq (x0 : THead) : V.evBody spec_HeadDigest.E spec_HeadDigest.con Try.f74 ((x0.1, x0.2.1, x0.2.2.1, x0.2.2.2.1, x0.2.2.2.2.1, x0.2.2.2.2.2.1, x0.2.2.2.2.2.2.1, x0.2.2.2.2.2.2.2.1, x0.2.2.2.2.2.2.2.2.1, x0.2.2.2.2.2.2.2.2.2.1, x0.2.2.2.2.2.2.2.2.2.2.1, x0.2.2.2.2.2.2.2.2.2.2.2.1, x0.2.2.2.2.2.2.2.2.2.2.2.2.1, x0.2.2.2.2.2.2.2.2.2.2.2.2.2.1, x0.2.2.2.2.2.2.2.2.2.2.2.2.2.2.1, x0.2.2.2.2.2.2.2.2.2.2.2.2.2.2.2) : Int × Int × Int × Int × Int × Int × Int × Int × List Int × Int × List Int × Int × Int × List Int × Int × Bool) = spec_HeadDigest x0 := by kernel_rfl
theorem spec_HeadDigest.ok : V.Valid Try.prog 74 spec_HeadDigest.con :=
  V.body_ok (V.env_ok V.mixed V.tysOk (V.tab_cons spec_Hash.ok (V.tab_cons spec_HeadInts.ok V.tab_nil))) Try.func74 (by kernel_rfl) (by kernel_rfl) (by kernel_rfl) (fun x y h => (show V.evBody spec_HeadDigest.E spec_HeadDigest.con Try.f74 x = _ from spec_HeadDigest.eq x).trans h)
noncomputable abbrev spec_MarkOf.con : V.Con := ⟨(.cons (.int .i64) (.cons (.int .i64) (.cons (.int .i64) (.cons (.int .i64) (.cons (.int .i64) (.cons (.int .i64) (.cons (.int .i64) (.cons (.int .i64) (.cons (.sl (.cons (.int .i64) .nil)) (.cons (.int .i64) (.cons (.sl (.cons (.int .i64) .nil)) (.cons (.int .i64) (.cons (.int .i64) (.cons (.sl (.cons (.int .i64) .nil)) (.cons (.int .i64) (.cons .bool .nil)))))))))))))))), (.cons (.int .i64) (.cons (.int .i64) (.cons (.int .i64) .nil))), fun (x : Int × Int × Int × Int × Int × Int × Int × Int × List Int × Int × List Int × Int × Int × List Int × Int × Bool) => spec_MarkOf x, [], [(true, 16)], [(true, 3)], [false, false, false], []⟩
noncomputable abbrev spec_MarkOf.E : V.Env := V.mkE V.tys [(74, spec_HeadDigest.con)] [] [(1, 6)] [] []
noncomputable abbrev spec_MarkOf.kt (x0 : THead) : V.Kt TMark := V.ktOf spec_MarkOf.E spec_MarkOf.con Try.f59 ((x0.1, x0.2.1, x0.2.2.1, x0.2.2.2.1, x0.2.2.2.2.1, x0.2.2.2.2.2.1, x0.2.2.2.2.2.2.1, x0.2.2.2.2.2.2.2.1, x0.2.2.2.2.2.2.2.2.1, x0.2.2.2.2.2.2.2.2.2.1, x0.2.2.2.2.2.2.2.2.2.2.1, x0.2.2.2.2.2.2.2.2.2.2.2.1, x0.2.2.2.2.2.2.2.2.2.2.2.2.1, x0.2.2.2.2.2.2.2.2.2.2.2.2.2.1, x0.2.2.2.2.2.2.2.2.2.2.2.2.2.2.1, x0.2.2.2.2.2.2.2.2.2.2.2.2.2.2.2) : Int × Int × Int × Int × Int × Int × Int × Int × List Int × Int × List Int × Int × Int × List Int × Int × Bool)
theorem spec_MarkOf.eq (x0 : THead) : V.evBody spec_MarkOf.E spec_MarkOf.con Try.f59 ((x0.1, x0.2.1, x0.2.2.1, x0.2.2.2.1, x0.2.2.2.2.1, x0.2.2.2.2.2.1, x0.2.2.2.2.2.2.1, x0.2.2.2.2.2.2.2.1, x0.2.2.2.2.2.2.2.2.1, x0.2.2.2.2.2.2.2.2.2.1, x0.2.2.2.2.2.2.2.2.2.2.1, x0.2.2.2.2.2.2.2.2.2.2.2.1, x0.2.2.2.2.2.2.2.2.2.2.2.2.1, x0.2.2.2.2.2.2.2.2.2.2.2.2.2.1, x0.2.2.2.2.2.2.2.2.2.2.2.2.2.2.1, x0.2.2.2.2.2.2.2.2.2.2.2.2.2.2.2) : Int × Int × Int × Int × Int × Int × Int × Int × List Int × Int × List Int × Int × Int × List Int × Int × Bool) = spec_MarkOf x0 := by kernel_rfl
theorem spec_MarkOf.ok : V.Valid Try.prog 59 spec_MarkOf.con :=
  V.body_ok (V.env_ok V.mixed V.tysOk (V.tab_cons spec_HeadDigest.ok V.tab_nil)) Try.func59 (by kernel_rfl) (by kernel_rfl) (by kernel_rfl) (fun x y h => (show V.evBody spec_MarkOf.E spec_MarkOf.con Try.f59 x = _ from spec_MarkOf.eq x).trans h)
noncomputable abbrev spec_MarkInts.con : V.Con := ⟨(.cons (.int .i64) (.cons (.int .i64) (.cons (.int .i64) .nil))), (.cons (.sl (.cons (.int .i64) .nil)) .nil), fun (x : Int × Int × Int) => spec_MarkInts x, [], [(true, 3)], [(false, 1)], [true], []⟩
noncomputable abbrev spec_MarkInts.E : V.Env := V.mkE V.tys [] [] [] [] []
noncomputable abbrev spec_MarkInts.kt (x0 : TMark) : V.Kt (List Int) := V.ktOf spec_MarkInts.E spec_MarkInts.con Try.f58 ((x0.1, x0.2.1, x0.2.2) : Int × Int × Int)
theorem spec_MarkInts.eq (x0 : TMark) : V.evBody spec_MarkInts.E spec_MarkInts.con Try.f58 ((x0.1, x0.2.1, x0.2.2) : Int × Int × Int) = spec_MarkInts x0 := by kernel_rfl
theorem spec_MarkInts.ok : V.Valid Try.prog 58 spec_MarkInts.con :=
  V.body_ok (V.env_ok V.mixed V.tysOk V.tab_nil) Try.func58 (by kernel_rfl) (by kernel_rfl) (by kernel_rfl) (fun x y h => (show V.evBody spec_MarkInts.E spec_MarkInts.con Try.f58 x = _ from spec_MarkInts.eq x).trans h)
noncomputable abbrev spec_KeyedHash.con : V.Con := ⟨(.cons (.int .i64) (.cons (.sl (.cons (.int .i64) .nil)) .nil)), (.cons (.int .i64) .nil), fun (x : Int × List Int) => spec_KeyedHash x.1 x.2, [], [(false, 1), (false, 1)], [(false, 1)], [false], []⟩
noncomputable abbrev spec_KeyedHash.E : V.Env := V.mkE V.tys [(106, spec_Hash.con)] [] [] [] []
noncomputable abbrev spec_KeyedHash.kt (x0 : Int) (x1 : List Int) : V.Kt Int := V.ktOf spec_KeyedHash.E spec_KeyedHash.con Try.f136 ((x0, x1) : Int × List Int)
theorem spec_KeyedHash.eq (x0 : Int) (x1 : List Int) : V.evBody spec_KeyedHash.E spec_KeyedHash.con Try.f136 ((x0, x1) : Int × List Int) = spec_KeyedHash x0 x1 := by kernel_rfl
theorem spec_KeyedHash.ok : V.Valid Try.prog 136 spec_KeyedHash.con :=
  V.body_ok (V.env_ok V.mixed V.tysOk (V.tab_cons spec_Hash.ok V.tab_nil)) Try.func136 (by kernel_rfl) (by kernel_rfl) (by kernel_rfl) (fun x y h => (show V.evBody spec_KeyedHash.E spec_KeyedHash.con Try.f136 x = _ from spec_KeyedHash.eq x.1 x.2).trans h)
noncomputable abbrev spec_TagOf.con : V.Con := ⟨(.cons (.int .i64) (.cons (.sl (.cons (.int .i64) .nil)) .nil)), (.cons (.int .i64) .nil), fun (x : Int × List Int) => spec_TagOf x.1 x.2, [], [(false, 1), (false, 1)], [(false, 1)], [false], []⟩
noncomputable abbrev spec_TagOf.E : V.Env := V.mkE V.tys [(136, spec_KeyedHash.con)] [] [] [] []
noncomputable abbrev spec_TagOf.kt (x0 : Int) (x1 : List Int) : V.Kt Int := V.ktOf spec_TagOf.E spec_TagOf.con Try.f117 ((x0, x1) : Int × List Int)
theorem spec_TagOf.eq (x0 : Int) (x1 : List Int) : V.evBody spec_TagOf.E spec_TagOf.con Try.f117 ((x0, x1) : Int × List Int) = spec_TagOf x0 x1 := by kernel_rfl
theorem spec_TagOf.ok : V.Valid Try.prog 117 spec_TagOf.con :=
  V.body_ok (V.env_ok V.mixed V.tysOk (V.tab_cons spec_KeyedHash.ok V.tab_nil)) Try.func117 (by kernel_rfl) (by kernel_rfl) (by kernel_rfl) (fun x y h => (show V.evBody spec_TagOf.E spec_TagOf.con Try.f117 x = _ from spec_TagOf.eq x.1 x.2).trans h)
noncomputable abbrev spec_IsSigBy.con : V.Con := ⟨(.cons (.int .i64) (.cons (.int .i64) (.cons (.sl (.cons (.int .i64) .nil)) .nil))), (.cons .bool .nil), fun (x : Int × Int × List Int) => spec_IsSigBy (x.1, x.2.1) x.2.2, [], [(true, 2), (false, 1)], [(false, 1)], [false], []⟩
noncomputable abbrev spec_IsSigBy.E : V.Env := V.mkE V.tys [(72, spec_l1In.con), (117, spec_TagOf.con)] [] [(1, 10)] [] []
noncomputable abbrev spec_IsSigBy.kt (x0 : TSig) (x1 : List Int) : V.Kt Bool := V.ktOf spec_IsSigBy.E spec_IsSigBy.con Try.f95 ((x0.1, x0.2, x1) : Int × Int × List Int)
theorem spec_IsSigBy.eq (x0 : TSig) (x1 : List Int) : V.evBody spec_IsSigBy.E spec_IsSigBy.con Try.f95 ((x0.1, x0.2, x1) : Int × Int × List Int) = spec_IsSigBy x0 x1 := by kernel_rfl
theorem spec_IsSigBy.ok : V.Valid Try.prog 95 spec_IsSigBy.con :=
  V.body_ok (V.env_ok V.mixed V.tysOk (V.tab_cons spec_l1In.ok (V.tab_cons spec_TagOf.ok V.tab_nil))) Try.func95 (by kernel_rfl) (by kernel_rfl) (by kernel_rfl) (fun x y h => (show V.evBody spec_IsSigBy.E spec_IsSigBy.con Try.f95 x = _ from spec_IsSigBy.eq (x.1, x.2.1) x.2.2).trans h)
noncomputable abbrev spec_CountSigs.con : V.Con := ⟨(.cons (.sl (.cons (.int .i64) .nil)) (.cons (.int .i64) (.cons (.sl (.cons (.int .i64) .nil)) (.cons (.sl (.cons (.int .i64) (.cons (.int .i64) .nil))) .nil)))), (.cons (.int .i64) .nil), fun (x : List Int × Int × List Int × List TSig) => spec_CountSigs (x.1, x.2.1) x.2.2.1 x.2.2.2, [], [(true, 2), (false, 1), (false, 1)], [(false, 1)], [false], []⟩
noncomputable abbrev spec_CountSigs.E : V.Env := V.mkE V.tys [(95, spec_IsSigBy.con)] [(6, [1, 2, 3, 7, 8], []), (12, [1, 2, 3, 7, 8, 9], []), (19, [1, 2, 3, 7, 8, 9, 41], [])] [(8, 17)] [] []
noncomputable abbrev spec_CountSigs.kt (x0 : TKeys) (x1 : List Int) (x2 : List TSig) : V.Kt Int := V.ktOf spec_CountSigs.E spec_CountSigs.con Try.f57 ((x0.1, x0.2, x1, x2) : List Int × Int × List Int × List TSig)
noncomputable abbrev spec_CountSigs.s19 (x0 : TKeys) (x1 : List Int) (x2 : List TSig) (v6_2 : Int) (v6_3 : Int) (v12_4 : Int) (v19_5 : Bool) : V.St := ⟨[(1, .v false [.val (.sl (.cons (.int .i64) .nil) x1)]), (2, .v false [.val (.sl (.cons (.int .i64) (.cons (.int .i64) .nil)) x2)]), (3, .v false [.ptr 64000 0]), (7, .v false [.val (.int .i64 v6_2)]), (8, .v false [.val (.int .i64 v6_3)]), (9, .v false [.val (.int .i64 v12_4)]), (41, .v false [.val (.bool v19_5)])], [(64000, .box [.val (.sl (.cons (.int .i64) .nil) x0.1), .val (.int .i64 x0.2)])]⟩
noncomputable abbrev spec_CountSigs.s12 (x0 : TKeys) (x1 : List Int) (x2 : List TSig) (v6_2 : Int) (v6_3 : Int) (v12_4 : Int) : V.St := ⟨[(1, .v false [.val (.sl (.cons (.int .i64) .nil) x1)]), (2, .v false [.val (.sl (.cons (.int .i64) (.cons (.int .i64) .nil)) x2)]), (3, .v false [.ptr 64000 0]), (7, .v false [.val (.int .i64 v6_2)]), (8, .v false [.val (.int .i64 v6_3)]), (9, .v false [.val (.int .i64 v12_4)])], [(64000, .box [.val (.sl (.cons (.int .i64) .nil) x0.1), .val (.int .i64 x0.2)])]⟩
noncomputable abbrev spec_CountSigs.s6 (x0 : TKeys) (x1 : List Int) (x2 : List TSig) (v6_2 : Int) (v6_3 : Int) : V.St := ⟨[(1, .v false [.val (.sl (.cons (.int .i64) .nil) x1)]), (2, .v false [.val (.sl (.cons (.int .i64) (.cons (.int .i64) .nil)) x2)]), (3, .v false [.ptr 64000 0]), (7, .v false [.val (.int .i64 v6_2)]), (8, .v false [.val (.int .i64 v6_3)])], [(64000, .box [.val (.sl (.cons (.int .i64) .nil) x0.1), .val (.int .i64 x0.2)])]⟩
theorem spec_CountSigs.r19 (x0 : TKeys) (x1 : List Int) (x2 : List TSig) (v12_4 : Int) (v6_2 : Int) (v6_3 : Int) (R6 : V.St → Option Int) (R12 : V.St → Option Int) (v19_5 : Bool) : V.joinF spec_CountSigs.E Try.f57.ntmps [1, 1, 0, 1, 0, 0, 1, 0, 0, 1, 0, 0, 1, 0, 0] [R6, R12] (V.codeOf Try.f57) (spec_CountSigs.kt x0 x1 x2) (spec_CountSigs.s19 x0 x1 x2 v6_2 v6_3 v12_4 v19_5) = spec_CountSigs.g19 x0 x1 x2 v6_2 v6_3 v12_4 (fun v6_2 v6_3 => R6 (spec_CountSigs.s6 x0 x1 x2 v6_2 v6_3)) (fun v12_4 => R12 (spec_CountSigs.s12 x0 x1 x2 v6_2 v6_3 v12_4)) v19_5 := by kernel_rfl
theorem spec_CountSigs.e19 (x0 : TKeys) (x1 : List Int) (x2 : List TSig) (v12_4 : Int) (v6_2 : Int) (v6_3 : Int) (R6 : V.St → Option Int) (R12 : V.St → Option Int) (v19_5 : Bool) : V.joinF spec_CountSigs.E Try.f57.ntmps [1, 1, 0, 1, 0, 0, 1, 0, 0, 1, 0, 0, 1, 0, 0] [R6, R12] (V.codeOf Try.f57) (spec_CountSigs.kt x0 x1 x2) (spec_CountSigs.s19 x0 x1 x2 v6_2 v6_3 v12_4 v19_5) = spec_CountSigs.l19 x0 x1 x2 v6_2 v6_3 v12_4 (fun v6_2 v6_3 => R6 (spec_CountSigs.s6 x0 x1 x2 v6_2 v6_3)) (fun v12_4 => R12 (spec_CountSigs.s12 x0 x1 x2 v6_2 v6_3 v12_4)) v19_5 := by
  rw [spec_CountSigs.r19]
  rfl
theorem spec_CountSigs.r12 (x0 : TKeys) (x1 : List Int) (x2 : List TSig) (v6_2 : Int) (v6_3 : Int) (R6 : V.St → Option Int) (R : V.St → Option Int) (v12_4 : Int) : V.loopF spec_CountSigs.E Try.f57.ntmps [1, 1, 0, 1, 0, 0, 1, 0, 0, 1, 0] [R6] (V.codeOf Try.f57) (spec_CountSigs.kt x0 x1 x2) R (spec_CountSigs.s12 x0 x1 x2 v6_2 v6_3 v12_4) = spec_CountSigs.g12 x0 x1 x2 v6_2 v6_3 (fun v6_2 v6_3 => R6 (spec_CountSigs.s6 x0 x1 x2 v6_2 v6_3)) (fun v12_4 => R (spec_CountSigs.s12 x0 x1 x2 v6_2 v6_3 v12_4)) (fun v19_5 => V.joinF spec_CountSigs.E Try.f57.ntmps [1, 1, 0, 1, 0, 0, 1, 0, 0, 1, 0, 0, 1, 0, 0] [R6, R] (V.codeOf Try.f57) (spec_CountSigs.kt x0 x1 x2) (spec_CountSigs.s19 x0 x1 x2 v6_2 v6_3 v12_4 v19_5)) v12_4 := by kernel_rfl
theorem spec_CountSigs.e12 (x0 : TKeys) (x1 : List Int) (x2 : List TSig) (v6_2 : Int) (v6_3 : Int) (R6 : V.St → Option Int) : ∀ (n : Nat) (v12_4 : Int), V.loopN (V.loopF spec_CountSigs.E Try.f57.ntmps [1, 1, 0, 1, 0, 0, 1, 0, 0, 1, 0] [R6] (V.codeOf Try.f57) (spec_CountSigs.kt x0 x1 x2)) n (spec_CountSigs.s12 x0 x1 x2 v6_2 v6_3 v12_4) = spec_CountSigs.l12 x0 x1 x2 v6_2 v6_3 (fun v6_2 v6_3 => R6 (spec_CountSigs.s6 x0 x1 x2 v6_2 v6_3)) n v12_4 := by
  intro n
  induction n with
  | zero => intros; rfl
  | succ n ih =>
    intro v12_4
    show V.loopF spec_CountSigs.E Try.f57.ntmps [1, 1, 0, 1, 0, 0, 1, 0, 0, 1, 0] [R6] (V.codeOf Try.f57) (spec_CountSigs.kt x0 x1 x2) (V.loopN (V.loopF spec_CountSigs.E Try.f57.ntmps [1, 1, 0, 1, 0, 0, 1, 0, 0, 1, 0] [R6] (V.codeOf Try.f57) (spec_CountSigs.kt x0 x1 x2)) n) (spec_CountSigs.s12 x0 x1 x2 v6_2 v6_3 v12_4) = _
    rw [spec_CountSigs.r12]
    simp only [spec_CountSigs.e19, ih]
    rfl
theorem spec_CountSigs.r6 (x0 : TKeys) (x1 : List Int) (x2 : List TSig) (R : V.St → Option Int) (v6_2 : Int) (v6_3 : Int) : V.loopF spec_CountSigs.E Try.f57.ntmps [1, 1, 0, 1, 0] [] (V.codeOf Try.f57) (spec_CountSigs.kt x0 x1 x2) R (spec_CountSigs.s6 x0 x1 x2 v6_2 v6_3) = spec_CountSigs.g6 x0 x1 x2 (fun v6_2 v6_3 => R (spec_CountSigs.s6 x0 x1 x2 v6_2 v6_3)) (fun v12_4 => V.loopN (V.loopF spec_CountSigs.E Try.f57.ntmps [1, 1, 0, 1, 0, 0, 1, 0, 0, 1, 0] [R] (V.codeOf Try.f57) (spec_CountSigs.kt x0 x1 x2)) V.KK (spec_CountSigs.s12 x0 x1 x2 v6_2 v6_3 v12_4)) v6_2 v6_3 := by kernel_rfl
theorem spec_CountSigs.e6 (x0 : TKeys) (x1 : List Int) (x2 : List TSig) : ∀ (n : Nat) (v6_2 : Int) (v6_3 : Int), V.loopN (V.loopF spec_CountSigs.E Try.f57.ntmps [1, 1, 0, 1, 0] [] (V.codeOf Try.f57) (spec_CountSigs.kt x0 x1 x2)) n (spec_CountSigs.s6 x0 x1 x2 v6_2 v6_3) = spec_CountSigs.l6 x0 x1 x2 n v6_2 v6_3 := by
  intro n
  induction n with
  | zero => intros; rfl
  | succ n ih =>
    intro v6_2 v6_3
    show V.loopF spec_CountSigs.E Try.f57.ntmps [1, 1, 0, 1, 0] [] (V.codeOf Try.f57) (spec_CountSigs.kt x0 x1 x2) (V.loopN (V.loopF spec_CountSigs.E Try.f57.ntmps [1, 1, 0, 1, 0] [] (V.codeOf Try.f57) (spec_CountSigs.kt x0 x1 x2)) n) (spec_CountSigs.s6 x0 x1 x2 v6_2 v6_3) = _
    rw [spec_CountSigs.r6]
    simp only [spec_CountSigs.e12, ih]
    rfl
theorem spec_CountSigs.v (x0 : TKeys) (x1 : List Int) (x2 : List TSig) : V.evBody spec_CountSigs.E spec_CountSigs.con Try.f57 ((x0.1, x0.2, x1, x2) : List Int × Int × List Int × List TSig) = spec_CountSigs.b x0 x1 x2 (fun v6_2 v6_3 => V.loopN (V.loopF spec_CountSigs.E Try.f57.ntmps [1, 1, 0, 1, 0] [] (V.codeOf Try.f57) (spec_CountSigs.kt x0 x1 x2)) V.KK (spec_CountSigs.s6 x0 x1 x2 v6_2 v6_3)) := by kernel_rfl
theorem spec_CountSigs.eq (x0 : TKeys) (x1 : List Int) (x2 : List TSig) : V.evBody spec_CountSigs.E spec_CountSigs.con Try.f57 ((x0.1, x0.2, x1, x2) : List Int × Int × List Int × List TSig) = spec_CountSigs x0 x1 x2 := by
  rw [spec_CountSigs.v]
  simp only [spec_CountSigs.e6]
  rfl
theorem spec_CountSigs.ok : V.Valid Try.prog 57 spec_CountSigs.con :=
  V.body_ok (V.env_ok V.mixed V.tysOk (V.tab_cons spec_IsSigBy.ok V.tab_nil)) Try.func57 (by kernel_rfl) (by kernel_rfl) (by kernel_rfl) (fun x y h => (show V.evBody spec_CountSigs.E spec_CountSigs.con Try.f57 x = _ from spec_CountSigs.eq (x.1, x.2.1) x.2.2.1 x.2.2.2).trans h)
noncomputable abbrev spec_CountConfirms.con : V.Con := ⟨(.cons (.sl (.cons (.int .i64) .nil)) (.cons (.int .i64) (.cons (.int .i64) (.cons (.int .i64) (.cons (.int .i64) (.cons (.int .i64) (.cons (.int .i64) (.cons (.int .i64) (.cons (.int .i64) (.cons (.int .i64) (.cons (.sl (.cons (.int .i64) .nil)) (.cons (.int .i64) (.cons (.sl (.cons (.int .i64) .nil)) (.cons (.int .i64) (.cons (.int .i64) (.cons (.sl (.cons (.int .i64) .nil)) (.cons (.int .i64) (.cons .bool (.cons (.sl (.cons (.int .i64) (.cons (.int .i64) .nil))) .nil))))))))))))))))))), (.cons (.int .i64) .nil), fun (x : List Int × Int × Int × Int × Int × Int × Int × Int × Int × Int × List Int × Int × List Int × Int × Int × List Int × Int × Bool × List TSig) => spec_CountConfirms (x.1, x.2.1) (x.2.2.1, x.2.2.2.1, x.2.2.2.2.1, x.2.2.2.2.2.1, x.2.2.2.2.2.2.1, x.2.2.2.2.2.2.2.1, x.2.2.2.2.2.2.2.2.1, x.2.2.2.2.2.2.2.2.2.1, x.2.2.2.2.2.2.2.2.2.2.1, x.2.2.2.2.2.2.2.2.2.2.2.1, x.2.2.2.2.2.2.2.2.2.2.2.2.1, x.2.2.2.2.2.2.2.2.2.2.2.2.2.1, x.2.2.2.2.2.2.2.2.2.2.2.2.2.2.1, x.2.2.2.2.2.2.2.2.2.2.2.2.2.2.2.1, x.2.2.2.2.2.2.2.2.2.2.2.2.2.2.2.2.1, x.2.2.2.2.2.2.2.2.2.2.2.2.2.2.2.2.2.1) x.2.2.2.2.2.2.2.2.2.2.2.2.2.2.2.2.2.2, [], [(true, 2), (true, 16), (false, 1)], [(false, 1)], [false], []⟩
noncomputable abbrev spec_CountConfirms.E : V.Env := V.mkE V.tys [(57, spec_CountSigs.con), (58, spec_MarkInts.con), (59, spec_MarkOf.con)] [] [(1, 5)] [] []
noncomputable abbrev spec_CountConfirms.kt (x0 : TKeys) (x1 : THead) (x2 : List TSig) : V.Kt Int := V.ktOf spec_CountConfirms.E spec_CountConfirms.con Try.f16 ((x0.1, x0.2, x1.1, x1.2.1, x1.2.2.1, x1.2.2.2.1, x1.2.2.2.2.1, x1.2.2.2.2.2.1, x1.2.2.2.2.2.2.1, x1.2.2.2.2.2.2.2.1, x1.2.2.2.2.2.2.2.2.1, x1.2.2.2.2.2.2.2.2.2.1, x1.2.2.2.2.2.2.2.2.2.2.1, x1.2.2.2.2.2.2.2.2.2.2.2.1, x1.2.2.2.2.2.2.2.2.2.2.2.2.1, x1.2.2.2.2.2.2.2.2.2.2.2.2.2.1, x1.2.2.2.2.2.2.2.2.2.2.2.2.2.2.1, x1.2.2.2.2.2.2.2.2.2.2.2.2.2.2.2, x2) : List Int × Int × Int × Int × Int × Int × Int × Int × Int × Int × List Int × Int × List Int × Int × Int × List Int × Int × Bool × List TSig)
theorem spec_CountConfirms.eq (x0 : TKeys) (x1 : THead) (x2 : List TSig) : V.evBody spec_CountConfirms.E spec_CountConfirms.con Try.f16 ((x0.1, x0.2, x1.1, x1.2.1, x1.2.2.1, x1.2.2.2.1, x1.2.2.2.2.1, x1.2.2.2.2.2.1, x1.2.2.2.2.2.2.1, x1.2.2.2.2.2.2.2.1, x1.2.2.2.2.2.2.2.2.1, x1.2.2.2.2.2.2.2.2.2.1, x1.2.2.2.2.2.2.2.2.2.2.1, x1.2.2.2.2.2.2.2.2.2.2.2.1, x1.2.2.2.2.2.2.2.2.2.2.2.2.1, x1.2.2.2.2.2.2.2.2.2.2.2.2.2.1, x1.2.2.2.2.2.2.2.2.2.2.2.2.2.2.1, x1.2.2.2.2.2.2.2.2.2.2.2.2.2.2.2, x2) : List Int × Int × Int × Int × Int × Int × Int × Int × Int × Int × List Int × Int × List Int × Int × Int × List Int × Int × Bool × List TSig) = spec_CountConfirms x0 x1 x2 := by kernel_rfl
theorem spec_CountConfirms.ok : V.Valid Try.prog 16 spec_CountConfirms.con :=
  V.body_ok (V.env_ok V.mixed V.tysOk (V.tab_cons spec_CountSigs.ok (V.tab_cons spec_MarkInts.ok (V.tab_cons spec_MarkOf.ok V.tab_nil)))) Try.func16 (by kernel_rfl) (by kernel_rfl) (by kernel_rfl) (fun x y h => (show V.evBody spec_CountConfirms.E spec_CountConfirms.con Try.f16 x = _ from spec_CountConfirms.eq (x.1, x.2.1) (x.2.2.1, x.2.2.2.1, x.2.2.2.2.1, x.2.2.2.2.2.1, x.2.2.2.2.2.2.1, x.2.2.2.2.2.2.2.1, x.2.2.2.2.2.2.2.2.1, x.2.2.2.2.2.2.2.2.2.1, x.2.2.2.2.2.2.2.2.2.2.1, x.2.2.2.2.2.2.2.2.2.2.2.1, x.2.2.2.2.2.2.2.2.2.2.2.2.1, x.2.2.2.2.2.2.2.2.2.2.2.2.2.1, x.2.2.2.2.2.2.2.2.2.2.2.2.2.2.1, x.2.2.2.2.2.2.2.2.2.2.2.2.2.2.2.1, x.2.2.2.2.2.2.2.2.2.2.2.2.2.2.2.2.1, x.2.2.2.2.2.2.2.2.2.2.2.2.2.2.2.2.2.1) x.2.2.2.2.2.2.2.2.2.2.2.2.2.2.2.2.2.2).trans h)
noncomputable abbrev spec_IsConfirmed.con : V.Con := ⟨(.cons (.sl (.cons (.int .i64) .nil)) (.cons (.int .i64) (.cons (.int .i64) (.cons (.int .i64) (.cons (.int .i64) (.cons (.int .i64) (.cons (.int .i64) (.cons (.int .i64) (.cons (.int .i64) (.cons (.int .i64) (.cons (.sl (.cons (.int .i64) .nil)) (.cons (.int .i64) (.cons (.sl (.cons (.int .i64) .nil)) (.cons (.int .i64) (.cons (.int .i64) (.cons (.sl (.cons (.int .i64) .nil)) (.cons (.int .i64) (.cons .bool (.cons (.sl (.cons (.int .i64) (.cons (.int .i64) .nil))) .nil))))))))))))))))))), (.cons .bool .nil), fun (x : List Int × Int × Int × Int × Int × Int × Int × Int × Int × Int × List Int × Int × List Int × Int × Int × List Int × Int × Bool × List TSig) => spec_IsConfirmed (x.1, x.2.1) (x.2.2.1, x.2.2.2.1, x.2.2.2.2.1, x.2.2.2.2.2.1, x.2.2.2.2.2.2.1, x.2.2.2.2.2.2.2.1, x.2.2.2.2.2.2.2.2.1, x.2.2.2.2.2.2.2.2.2.1, x.2.2.2.2.2.2.2.2.2.2.1, x.2.2.2.2.2.2.2.2.2.2.2.1, x.2.2.2.2.2.2.2.2.2.2.2.2.1, x.2.2.2.2.2.2.2.2.2.2.2.2.2.1, x.2.2.2.2.2.2.2.2.2.2.2.2.2.2.1, x.2.2.2.2.2.2.2.2.2.2.2.2.2.2.2.1, x.2.2.2.2.2.2.2.2.2.2.2.2.2.2.2.2.1, x.2.2.2.2.2.2.2.2.2.2.2.2.2.2.2.2.2.1) x.2.2.2.2.2.2.2.2.2.2.2.2.2.2.2.2.2.2, [], [(true, 2), (true, 16), (false, 1)], [(false, 1)], [false], []⟩
noncomputable abbrev spec_IsConfirmed.E : V.Env := V.mkE V.tys [(16, spec_CountConfirms.con), (65, spec_IsKeys.con)] [] [(1, 9)] [] []
noncomputable abbrev spec_IsConfirmed.kt (x0 : TKeys) (x1 : THead) (x2 : List TSig) : V.Kt Bool := V.ktOf spec_IsConfirmed.E spec_IsConfirmed.con Try.f24 ((x0.1, x0.2, x1.1, x1.2.1, x1.2.2.1, x1.2.2.2.1, x1.2.2.2.2.1, x1.2.2.2.2.2.1, x1.2.2.2.2.2.2.1, x1.2.2.2.2.2.2.2.1, x1.2.2.2.2.2.2.2.2.1, x1.2.2.2.2.2.2.2.2.2.1, x1.2.2.2.2.2.2.2.2.2.2.1, x1.2.2.2.2.2.2.2.2.2.2.2.1, x1.2.2.2.2.2.2.2.2.2.2.2.2.1, x1.2.2.2.2.2.2.2.2.2.2.2.2.2.1, x1.2.2.2.2.2.2.2.2.2.2.2.2.2.2.1, x1.2.2.2.2.2.2.2.2.2.2.2.2.2.2.2, x2) : List Int × Int × Int × Int × Int × Int × Int × Int × Int × Int × List Int × Int × List Int × Int × Int × List Int × Int × Bool × List TSig)
theorem spec_IsConfirmed.eq (x0 : TKeys) (x1 : THead) (x2 : List TSig) : V.evBody spec_IsConfirmed.E spec_IsConfirmed.con Try.f24 ((x0.1, x0.2, x1.1, x1.2.1, x1.2.2.1, x1.2.2.2.1, x1.2.2.2.2.1, x1.2.2.2.2.2.1, x1.2.2.2.2.2.2.1, x1.2.2.2.2.2.2.2.1, x1.2.2.2.2.2.2.2.2.1, x1.2.2.2.2.2.2.2.2.2.1, x1.2.2.2.2.2.2.2.2.2.2.1, x1.2.2.2.2.2.2.2.2.2.2.2.1, x1.2.2.2.2.2.2.2.2.2.2.2.2.1, x1.2.2.2.2.2.2.2.2.2.2.2.2.2.1, x1.2.2.2.2.2.2.2.2.2.2.2.2.2.2.1, x1.2.2.2.2.2.2.2.2.2.2.2.2.2.2.2, x2) : List Int × Int × Int × Int × Int × Int × Int × Int × Int × Int × List Int × Int × List Int × Int × Int × List Int × Int × Bool × List TSig) = spec_IsConfirmed x0 x1 x2 := by kernel_rfl
theorem spec_IsConfirmed.ok : V.Valid Try.prog 24 spec_IsConfirmed.con :=
  V.body_ok (V.env_ok V.mixed V.tysOk (V.tab_cons spec_CountConfirms.ok (V.tab_cons spec_IsKeys.ok V.tab_nil))) Try.func24 (by kernel_rfl) (by kernel_rfl) (by kernel_rfl) (fun x y h => (show V.evBody spec_IsConfirmed.E spec_IsConfirmed.con Try.f24 x = _ from spec_IsConfirmed.eq (x.1, x.2.1) (x.2.2.1, x.2.2.2.1, x.2.2.2.2.1, x.2.2.2.2.2.1, x.2.2.2.2.2.2.1, x.2.2.2.2.2.2.2.1, x.2.2.2.2.2.2.2.2.1, x.2.2.2.2.2.2.2.2.2.1, x.2.2.2.2.2.2.2.2.2.2.1, x.2.2.2.2.2.2.2.2.2.2.2.1, x.2.2.2.2.2.2.2.2.2.2.2.2.1, x.2.2.2.2.2.2.2.2.2.2.2.2.2.1, x.2.2.2.2.2.2.2.2.2.2.2.2.2.2.1, x.2.2.2.2.2.2.2.2.2.2.2.2.2.2.2.1, x.2.2.2.2.2.2.2.2.2.2.2.2.2.2.2.2.1, x.2.2.2.2.2.2.2.2.2.2.2.2.2.2.2.2.2.1) x.2.2.2.2.2.2.2.2.2.2.2.2.2.2.2.2.2.2).trans h)
noncomputable abbrev impl_InRange.con : V.Con := ⟨(.cons (.int .i64) (.cons (.int .i64) (.cons (.int .i64) .nil))), (.cons .bool .nil), fun (x : Int × Int × Int) => impl_InRange x.1 x.2.1 x.2.2, [], [(false, 1), (false, 1), (false, 1)], [(false, 1)], [false], []⟩
noncomputable abbrev impl_InRange.E : V.Env := V.mkE V.tys [] [] [] [] []
noncomputable abbrev impl_InRange.kt (x0 : Int) (x1 : Int) (x2 : Int) : V.Kt Bool := V.ktOf impl_InRange.E impl_InRange.con Try.f100 ((x0, x1, x2) : Int × Int × Int)
theorem impl_InRange.eq (x0 : Int) (x1 : Int) (x2 : Int) : V.evBody impl_InRange.E impl_InRange.con Try.f100 ((x0, x1, x2) : Int × Int × Int) = impl_InRange x0 x1 x2 := by kernel_rfl
theorem impl_InRange.ok : V.Valid Try.prog 100 impl_InRange.con :=
  V.body_ok (V.env_ok V.mixed V.tysOk V.tab_nil) Try.func100 (by kernel_rfl) (by kernel_rfl) (by kernel_rfl) (fun x y h => (show V.evBody impl_InRange.E impl_InRange.con Try.f100 x = _ from impl_InRange.eq x.1 x.2.1 x.2.2).trans h)
noncomputable abbrev impl_ascending.con : V.Con := ⟨(.cons (.sl (.cons (.int .i64) .nil)) .nil), (.cons .bool .nil), fun (x : List Int) => impl_ascending x, [], [(false, 1)], [(false, 1)], [false], []⟩
noncomputable abbrev impl_ascending.E : V.Env := V.mkE V.tys [] [(4, [0, 5, 6], [])] [(4, 12)] [] []
noncomputable abbrev impl_ascending.kt (x0 : List Int) : V.Kt Bool := V.ktOf impl_ascending.E impl_ascending.con Try.f101 ((x0) : List Int)
noncomputable abbrev impl_ascending.s4 (x0 : List Int) (v4_1 : Int) (v4_2 : Int) : V.St := ⟨[(0, .v false [.val (.sl (.cons (.int .i64) .nil) x0)]), (5, .v false [.val (.int .i64 v4_1)]), (6, .v false [.val (.int .i64 v4_2)])], []⟩
theorem impl_ascending.r4 (x0 : List Int) (R : V.St → Option Bool) (v4_1 : Int) (v4_2 : Int) : V.loopF impl_ascending.E Try.f101.ntmps [1, 0, 1, 0] [] (V.codeOf Try.f101) (impl_ascending.kt x0) R (impl_ascending.s4 x0 v4_1 v4_2) = impl_ascending.g4 x0 (fun v4_1 v4_2 => R (impl_ascending.s4 x0 v4_1 v4_2)) v4_1 v4_2 := by kernel_rfl
theorem impl_ascending.e4 (x0 : List Int) : ∀ (n : Nat) (v4_1 : Int) (v4_2 : Int), V.loopN (V.loopF impl_ascending.E Try.f101.ntmps [1, 0, 1, 0] [] (V.codeOf Try.f101) (impl_ascending.kt x0)) n (impl_ascending.s4 x0 v4_1 v4_2) = impl_ascending.l4 x0 n v4_1 v4_2 := by
  intro n
  induction n with
  | zero => intros; rfl
  | succ n ih =>
    intro v4_1 v4_2
    show V.loopF impl_ascending.E Try.f101.ntmps [1, 0, 1, 0] [] (V.codeOf Try.f101) (impl_ascending.kt x0) (V.loopN (V.loopF impl_ascending.E Try.f101.ntmps [1, 0, 1, 0] [] (V.codeOf Try.f101) (impl_ascending.kt x0)) n) (impl_ascending.s4 x0 v4_1 v4_2) = _
    rw [impl_ascending.r4]
    simp only [ih]
    rfl
theorem impl_ascending.v (x0 : List Int) : V.evBody impl_ascending.E impl_ascending.con Try.f101 ((x0) : List Int) = impl_ascending.b x0 (fun v4_1 v4_2 => V.loopN (V.loopF impl_ascending.E Try.f101.ntmps [1, 0, 1, 0] [] (V.codeOf Try.f101) (impl_ascending.kt x0)) V.KK (impl_ascending.s4 x0 v4_1 v4_2)) := by kernel_rfl
theorem impl_ascending.eq (x0 : List Int) : V.evBody impl_ascending.E impl_ascending.con Try.f101 ((x0) : List Int) = impl_ascending x0 := by
  rw [impl_ascending.v]
  simp only [impl_ascending.e4]
  rfl
theorem impl_ascending.ok : V.Valid Try.prog 101 impl_ascending.con :=
  V.body_ok (V.env_ok V.mixed V.tysOk V.tab_nil) Try.func101 (by kernel_rfl) (by kernel_rfl) (by kernel_rfl) (fun x y h => (show V.evBody impl_ascending.E impl_ascending.con Try.f101 x = _ from impl_ascending.eq x).trans h)
noncomputable abbrev impl_isKey.con : V.Con := ⟨(.cons (.int .i64) .nil), (.cons .bool .nil), fun (x : Int) => impl_isKey x, [], [(false, 1)], [(false, 1)], [false], []⟩
noncomputable abbrev impl_isKey.E : V.Env := V.mkE V.tys [(100, impl_InRange.con)] [] [] [] []
noncomputable abbrev impl_isKey.kt (x0 : Int) : V.Kt Bool := V.ktOf impl_isKey.E impl_isKey.con Try.f102 ((x0) : Int)
theorem impl_isKey.eq (x0 : Int) : V.evBody impl_isKey.E impl_isKey.con Try.f102 ((x0) : Int) = impl_isKey x0 := by kernel_rfl
theorem impl_isKey.ok : V.Valid Try.prog 102 impl_isKey.con :=
  V.body_ok (V.env_ok V.mixed V.tysOk (V.tab_cons impl_InRange.ok V.tab_nil)) Try.func102 (by kernel_rfl) (by kernel_rfl) (by kernel_rfl) (fun x y h => (show V.evBody impl_isKey.E impl_isKey.con Try.f102 x = _ from impl_isKey.eq x).trans h)
noncomputable abbrev impl_IsKeys.con : V.Con := ⟨(.cons (.sl (.cons (.int .i64) .nil)) (.cons (.int .i64) .nil)), (.cons .bool .nil), fun (x : List Int × Int) => impl_IsKeys x, [], [(true, 2)], [(false, 1)], [false], []⟩
noncomputable abbrev impl_IsKeys.E : V.Env := V.mkE V.tys [(100, impl_InRange.con), (101, impl_ascending.con), (102, impl_isKey.con)] [] [] [] []
noncomputable abbrev impl_IsKeys.kt (x0 : TKeys) : V.Kt Bool := V.ktOf impl_IsKeys.E impl_IsKeys.con Try.f66 ((x0.1, x0.2) : List Int × Int)
theorem impl_IsKeys.eq (x0 : TKeys) : V.evBody impl_IsKeys.E impl_IsKeys.con Try.f66 ((x0.1, x0.2) : List Int × Int) = impl_IsKeys x0 := by kernel_rfl
theorem impl_IsKeys.ok : V.Valid Try.prog 66 impl_IsKeys.con :=
  V.body_ok (V.env_ok V.mixed V.tysOk (V.tab_cons impl_InRange.ok (V.tab_cons impl_ascending.ok (V.tab_cons impl_isKey.ok V.tab_nil)))) Try.func66 (by kernel_rfl) (by kernel_rfl) (by kernel_rfl) (fun x y h => (show V.evBody impl_IsKeys.E impl_IsKeys.con Try.f66 x = _ from impl_IsKeys.eq x).trans h)
noncomputable abbrev impl_KeysInts.con : V.Con := ⟨(.cons (.sl (.cons (.int .i64) .nil)) (.cons (.int .i64) .nil)), (.cons (.sl (.cons (.int .i64) .nil)) .nil), fun (x : List Int × Int) => impl_KeysInts x, [], [(true, 2)], [(false, 1)], [true], []⟩
noncomputable abbrev impl_KeysInts.E : V.Env := V.mkE V.tys [] [] [] [] []
noncomputable abbrev impl_KeysInts.kt (x0 : TKeys) : V.Kt (List Int) := V.ktOf impl_KeysInts.E impl_KeysInts.con Try.f134 ((x0.1, x0.2) : List Int × Int)
theorem impl_KeysInts.eq (x0 : TKeys) : V.evBody impl_KeysInts.E impl_KeysInts.con Try.f134 ((x0.1, x0.2) : List Int × Int) = impl_KeysInts x0 := by kernel_rfl
theorem impl_KeysInts.ok : V.Valid Try.prog 134 impl_KeysInts.con :=
  V.body_ok (V.env_ok V.mixed V.tysOk V.tab_nil) Try.func134 (by kernel_rfl) (by kernel_rfl) (by kernel_rfl) (fun x y h => (show V.evBody impl_KeysInts.E impl_KeysInts.con Try.f134 x = _ from impl_KeysInts.eq x).trans h)
noncomputable abbrev impl_bit.con : V.Con := ⟨(.cons .bool .nil), (.cons (.int .i64) .nil), fun (x : Bool) => impl_bit x, [], [(false, 1)], [(false, 1)], [false], []⟩
noncomputable abbrev impl_bit.E : V.Env := V.mkE V.tys [] [] [] [] []
noncomputable abbrev impl_bit.kt (x0 : Bool) : V.Kt Int := V.ktOf impl_bit.E impl_bit.con Try.f135 ((x0) : Bool)
theorem impl_bit.eq (x0 : Bool) : V.evBody impl_bit.E impl_bit.con Try.f135 ((x0) : Bool) = impl_bit x0 := by kernel_rfl
theorem impl_bit.ok : V.Valid Try.prog 135 impl_bit.con :=
  V.body_ok (V.env_ok V.mixed V.tysOk V.tab_nil) Try.func135 (by kernel_rfl) (by kernel_rfl) (by kernel_rfl) (fun x y h => (show V.evBody impl_bit.E impl_bit.con Try.f135 x = _ from impl_bit.eq x).trans h)
noncomputable abbrev slices_Grow_int.con : V.Con := ⟨(.cons (.sl (.cons (.int .i64) .nil)) (.cons (.int .i64) .nil)), (.cons (.sl (.cons (.int .i64) .nil)) .nil), fun (x : List Int × Int) => slices_Grow_int x.1 x.2, [], [(false, 1), (false, 1)], [(false, 1)], [true], [0]⟩
noncomputable abbrev slices_Grow_int.E : V.Env := V.mkE V.tys [] [(7, [0, 1], [])] [] [] []
noncomputable abbrev slices_Grow_int.kt (x0 : List Int) (x1 : Int) : V.Kt (List Int) := V.ktOf slices_Grow_int.E slices_Grow_int.con Try.f140 ((x0, x1) : List Int × Int)
noncomputable abbrev slices_Grow_int.s7 (x1 : Int) : V.St := ⟨[(0, .v false [.nil0]), (1, .v false [.val (.int .i64 x1)])], []⟩
theorem slices_Grow_int.r7 (x0 : List Int) (x1 : Int) : V.joinF slices_Grow_int.E Try.f140.ntmps [1] [] (V.codeOf Try.f140) (slices_Grow_int.kt x0 x1) (slices_Grow_int.s7 x1) = slices_Grow_int.g7 x1 := by kernel_rfl
theorem slices_Grow_int.e7 (x0 : List Int) (x1 : Int) : V.joinF slices_Grow_int.E Try.f140.ntmps [1] [] (V.codeOf Try.f140) (slices_Grow_int.kt x0 x1) (slices_Grow_int.s7 x1) = slices_Grow_int.l7 x1 := by
  rw [slices_Grow_int.r7]
  rfl
theorem slices_Grow_int.v (x0 : List Int) (x1 : Int) : V.evBody slices_Grow_int.E slices_Grow_int.con Try.f140 ((x0, x1) : List Int × Int) = slices_Grow_int.b x0 x1 (V.joinF slices_Grow_int.E Try.f140.ntmps [1] [] (V.codeOf Try.f140) (slices_Grow_int.kt x0 x1) (slices_Grow_int.s7 x1)) := by kernel_rfl
theorem slices_Grow_int.eq (x0 : List Int) (x1 : Int) : V.evBody slices_Grow_int.E slices_Grow_int.con Try.f140 ((x0, x1) : List Int × Int) = slices_Grow_int x0 x1 := by
  rw [slices_Grow_int.v]
  simp only [slices_Grow_int.e7]
  rfl
theorem slices_Grow_int.ok : V.Valid Try.prog 140 slices_Grow_int.con :=
  V.body_ok (V.env_ok V.mixed V.tysOk V.tab_nil) Try.func140 (by kernel_rfl) (by kernel_rfl) (by kernel_rfl) (fun x y h => (show V.evBody slices_Grow_int.E slices_Grow_int.con Try.f140 x = _ from slices_Grow_int.eq x.1 x.2).trans h)
noncomputable abbrev slices_Concat_int.con : V.Con := ⟨(.cons (.sl (.cons (.sl (.cons (.int .i64) .nil)) .nil)) .nil), (.cons (.sl (.cons (.int .i64) .nil)) .nil), fun (x : List (List Int)) => slices_Concat_int x, [], [(false, 1)], [(false, 1)], [true], []⟩
noncomputable abbrev slices_Concat_int.E : V.Env := V.mkE V.tys [(140, slices_Grow_int.con)] [(6, [0, 3, 9, 10, 11], []), (22, [6, 25, 26, 27], [])] [] [] []
noncomputable abbrev slices_Concat_int.kt (x0 : List (List Int)) : V.Kt (List Int) := V.ktOf slices_Concat_int.E slices_Concat_int.con Try.f133 ((x0) : List (List Int))
noncomputable abbrev slices_Concat_int.s22 (x0 : List (List Int)) (v22_1 : Int) (v22_2 : Int) (v22_3 : List Int) : V.St := ⟨[(6, .v false [.ref 64000140800384]), (25, .v false [.val (.sl (.cons (.sl (.cons (.int .i64) .nil)) .nil) x0)]), (26, .v false [.val (.int .i64 v22_1)]), (27, .v false [.val (.int .i64 v22_2)])], [(64000140800384, .row (.cons (.int .i64) .nil) true v22_3)]⟩
noncomputable abbrev slices_Concat_int.s6 (x0 : List (List Int)) (v6_1 : Int) (v6_3 : Int) (v6_4 : Int) : V.St := ⟨[(0, .v false [.val (.sl (.cons (.sl (.cons (.int .i64) .nil)) .nil) x0)]), (3, .v false [.val (.int .i64 v6_1)]), (9, .v false [.val (.sl (.cons (.sl (.cons (.int .i64) .nil)) .nil) x0)]), (10, .v false [.val (.int .i64 v6_3)]), (11, .v false [.val (.int .i64 v6_4)])], []⟩
theorem slices_Concat_int.r22 (x0 : List (List Int)) (R : V.St → Option (List Int)) (v22_1 : Int) (v22_2 : Int) (v22_3 : List Int) : V.loopF slices_Concat_int.E Try.f133.ntmps [1, 1, 1, 1, 0, 1, 0] [] (V.codeOf Try.f133) (slices_Concat_int.kt x0) R (slices_Concat_int.s22 x0 v22_1 v22_2 v22_3) = slices_Concat_int.g22 x0 (fun v22_1 v22_2 v22_3 => R (slices_Concat_int.s22 x0 v22_1 v22_2 v22_3)) v22_1 v22_2 v22_3 := by kernel_rfl
theorem slices_Concat_int.e22 (x0 : List (List Int)) : ∀ (n : Nat) (v22_1 : Int) (v22_2 : Int) (v22_3 : List Int), V.loopN (V.loopF slices_Concat_int.E Try.f133.ntmps [1, 1, 1, 1, 0, 1, 0] [] (V.codeOf Try.f133) (slices_Concat_int.kt x0)) n (slices_Concat_int.s22 x0 v22_1 v22_2 v22_3) = slices_Concat_int.l22 x0 n v22_1 v22_2 v22_3 := by
  intro n
  induction n with
  | zero => intros; rfl
  | succ n ih =>
    intro v22_1 v22_2 v22_3
    show V.loopF slices_Concat_int.E Try.f133.ntmps [1, 1, 1, 1, 0, 1, 0] [] (V.codeOf Try.f133) (slices_Concat_int.kt x0) (V.loopN (V.loopF slices_Concat_int.E Try.f133.ntmps [1, 1, 1, 1, 0, 1, 0] [] (V.codeOf Try.f133) (slices_Concat_int.kt x0)) n) (slices_Concat_int.s22 x0 v22_1 v22_2 v22_3) = _
    rw [slices_Concat_int.r22]
    simp only [ih]
    rfl
theorem slices_Concat_int.r6 (x0 : List (List Int)) (R : V.St → Option (List Int)) (v6_1 : Int) (v6_3 : Int) (v6_4 : Int) : V.loopF slices_Concat_int.E Try.f133.ntmps [1, 1, 0, 1, 0] [] (V.codeOf Try.f133) (slices_Concat_int.kt x0) R (slices_Concat_int.s6 x0 v6_1 v6_3 v6_4) = slices_Concat_int.g6 x0 (fun v6_1 v6_3 v6_4 => R (slices_Concat_int.s6 x0 v6_1 v6_3 v6_4)) (fun v22_1 v22_2 v22_3 => V.loopN (V.loopF slices_Concat_int.E Try.f133.ntmps [1, 1, 1, 1, 0, 1, 0] [] (V.codeOf Try.f133) (slices_Concat_int.kt x0)) V.KK (slices_Concat_int.s22 x0 v22_1 v22_2 v22_3)) v6_1 v6_3 v6_4 := by kernel_rfl
theorem slices_Concat_int.e6 (x0 : List (List Int)) : ∀ (n : Nat) (v6_1 : Int) (v6_3 : Int) (v6_4 : Int), V.loopN (V.loopF slices_Concat_int.E Try.f133.ntmps [1, 1, 0, 1, 0] [] (V.codeOf Try.f133) (slices_Concat_int.kt x0)) n (slices_Concat_int.s6 x0 v6_1 v6_3 v6_4) = slices_Concat_int.l6 x0 n v6_1 v6_3 v6_4 := by
  intro n
  induction n with
  | zero => intros; rfl
  | succ n ih =>
    intro v6_1 v6_3 v6_4
    show V.loopF slices_Concat_int.E Try.f133.ntmps [1, 1, 0, 1, 0] [] (V.codeOf Try.f133) (slices_Concat_int.kt x0) (V.loopN (V.loopF slices_Concat_int.E Try.f133.ntmps [1, 1, 0, 1, 0] [] (V.codeOf Try.f133) (slices_Concat_int.kt x0)) n) (slices_Concat_int.s6 x0 v6_1 v6_3 v6_4) = _
    rw [slices_Concat_int.r6]
    simp only [slices_Concat_int.e22, ih]
    rfl
theorem slices_Concat_int.v (x0 : List (List Int)) : V.evBody slices_Concat_int.E slices_Concat_int.con Try.f133 ((x0) : List (List Int)) = slices_Concat_int.b x0 (fun v6_1 v6_3 v6_4 => V.loopN (V.loopF slices_Concat_int.E Try.f133.ntmps [1, 1, 0, 1, 0] [] (V.codeOf Try.f133) (slices_Concat_int.kt x0)) V.KK (slices_Concat_int.s6 x0 v6_1 v6_3 v6_4)) := by kernel_rfl
theorem slices_Concat_int.eq (x0 : List (List Int)) : V.evBody slices_Concat_int.E slices_Concat_int.con Try.f133 ((x0) : List (List Int)) = slices_Concat_int x0 := by
  rw [slices_Concat_int.v]
  simp only [slices_Concat_int.e6]
  rfl
theorem slices_Concat_int.ok : V.Valid Try.prog 133 slices_Concat_int.con :=
  V.body_ok (V.env_ok V.mixed V.tysOk (V.tab_cons slices_Grow_int.ok V.tab_nil)) Try.func133 (by kernel_rfl) (by kernel_rfl) (by kernel_rfl) (fun x y h => (show V.evBody slices_Concat_int.E slices_Concat_int.con Try.f133 x = _ from slices_Concat_int.eq x).trans h)
noncomputable abbrev impl_HeadInts.con : V.Con := ⟨(.cons (.int .i64) (.cons (.int .i64) (.cons (.int .i64) (.cons (.int .i64) (.cons (.int .i64) (.cons (.int .i64) (.cons (.int .i64) (.cons (.int .i64) (.cons (.sl (.cons (.int .i64) .nil)) (.cons (.int .i64) (.cons (.sl (.cons (.int .i64) .nil)) (.cons (.int .i64) (.cons (.int .i64) (.cons (.sl (.cons (.int .i64) .nil)) (.cons (.int .i64) (.cons .bool .nil)))))))))))))))), (.cons (.sl (.cons (.int .i64) .nil)) .nil), fun (x : Int × Int × Int × Int × Int × Int × Int × Int × List Int × Int × List Int × Int × Int × List Int × Int × Bool) => impl_HeadInts x, [], [(true, 16)], [(false, 1)], [true], []⟩
noncomputable abbrev impl_HeadInts.E : V.Env := V.mkE V.tys [(133, slices_Concat_int.con), (134, impl_KeysInts.con), (135, impl_bit.con)] [] [(1, 33)] [] []
noncomputable abbrev impl_HeadInts.kt (x0 : THead) : V.Kt (List Int) := V.ktOf impl_HeadInts.E impl_HeadInts.con Try.f116 ((x0.1, x0.2.1, x0.2.2.1, x0.2.2.2.1, x0.2.2.2.2.1, x0.2.2.2.2.2.1, x0.2.2.2.2.2.2.1, x0.2.2.2.2.2.2.2.1, x0.2.2.2.2.2.2.2.2.1, x0.2.2.2.2.2.2.2.2.2.1, x0.2.2.2.2.2.2.2.2.2.2.1, x0.2.2.2.2.2.2.2.2.2.2.2.1, x0.2.2.2.2.2.2.2.2.2.2.2.2.1, x0.2.2.2.2.2.2.2.2.2.2.2.2.2.1, x0.2.2.2.2.2.2.2.2.2.2.2.2.2.2.1, x0.2.2.2.2.2.2.2.2.2.2.2.2.2.2.2) : Int × Int × Int × Int × Int × Int × Int × Int × List Int × Int × List Int × Int × Int × List Int × Int × Bool)
theorem impl_HeadInts.eq (x0 : THead) : V.evBody impl_HeadInts.E impl_HeadInts.con Try.f116 ((x0.1, x0.2.1, x0.2.2.1, x0.2.2.2.1, x0.2.2.2.2.1, x0.2.2.2.2.2.1, x0.2.2.2.2.2.2.1, x0.2.2.2.2.2.2.2.1, x0.2.2.2.2.2.2.2.2.1, x0.2.2.2.2.2.2.2.2.2.1, x0.2.2.2.2.2.2.2.2.2.2.1, x0.2.2.2.2.2.2.2.2.2.2.2.1, x0.2.2.2.2.2.2.2.2.2.2.2.2.1, x0.2.2.2.2.2.2.2.2.2.2.2.2.2.1, x0.2.2.2.2.2.2.2.2.2.2.2.2.2.2.1, x0.2.2.2.2.2.2.2.2.2.2.2.2.2.2.2) : Int × Int × Int × Int × Int × Int × Int × Int × List Int × Int × List Int × Int × Int × List Int × Int × Bool) = impl_HeadInts x0 := by kernel_rfl
theorem impl_HeadInts.ok : V.Valid Try.prog 116 impl_HeadInts.con :=
  V.body_ok (V.env_ok V.mixed V.tysOk (V.tab_cons slices_Concat_int.ok (V.tab_cons impl_KeysInts.ok (V.tab_cons impl_bit.ok V.tab_nil)))) Try.func116 (by kernel_rfl) (by kernel_rfl) (by kernel_rfl) (fun x y h => (show V.evBody impl_HeadInts.E impl_HeadInts.con Try.f116 x = _ from impl_HeadInts.eq x).trans h)
noncomputable abbrev impl_Mod.con : V.Con := ⟨(.cons (.int .i64) (.cons (.int .i64) .nil)), (.cons (.int .i64) .nil), fun (x : Int × Int) => impl_Mod x.1 x.2, [], [(false, 1), (false, 1)], [(false, 1)], [false], []⟩
noncomputable abbrev impl_Mod.E : V.Env := V.mkE V.tys [(100, impl_InRange.con)] [] [] [] []
noncomputable abbrev impl_Mod.kt (x0 : Int) (x1 : Int) : V.Kt Int := V.ktOf impl_Mod.E impl_Mod.con Try.f138 ((x0, x1) : Int × Int)
theorem impl_Mod.eq (x0 : Int) (x1 : Int) : V.evBody impl_Mod.E impl_Mod.con Try.f138 ((x0, x1) : Int × Int) = impl_Mod x0 x1 := by kernel_rfl
theorem impl_Mod.ok : V.Valid Try.prog 138 impl_Mod.con :=
  V.body_ok (V.env_ok V.mixed V.tysOk (V.tab_cons impl_InRange.ok V.tab_nil)) Try.func138 (by kernel_rfl) (by kernel_rfl) (by kernel_rfl) (fun x y h => (show V.evBody impl_Mod.E impl_Mod.con Try.f138 x = _ from impl_Mod.eq x.1 x.2).trans h)
noncomputable abbrev impl_Hash.con : V.Con := ⟨(.cons (.sl (.cons (.int .i64) .nil)) .nil), (.cons (.int .i64) .nil), fun (x : List Int) => impl_Hash x, [], [(false, 1)], [(false, 1)], [false], []⟩
noncomputable abbrev impl_Hash.E : V.Env := V.mkE V.tys [(138, impl_Mod.con)] [(6, [3, 6, 7, 8], [])] [] [] []
noncomputable abbrev impl_Hash.kt (x0 : List Int) : V.Kt Int := V.ktOf impl_Hash.E impl_Hash.con Try.f120 ((x0) : List Int)
noncomputable abbrev impl_Hash.s6 (x0 : List Int) (v6_0 : Int) (v6_2 : Int) (v6_3 : Int) : V.St := ⟨[(3, .v false [.val (.int .i64 v6_0)]), (6, .v false [.val (.sl (.cons (.int .i64) .nil) x0)]), (7, .v false [.val (.int .i64 v6_2)]), (8, .v false [.val (.int .i64 v6_3)])], []⟩
theorem impl_Hash.r6 (x0 : List Int) (R : V.St → Option Int) (v6_0 : Int) (v6_2 : Int) (v6_3 : Int) : V.loopF impl_Hash.E Try.f120.ntmps [1, 1, 0, 1, 0] [] (V.codeOf Try.f120) (impl_Hash.kt x0) R (impl_Hash.s6 x0 v6_0 v6_2 v6_3) = impl_Hash.g6 x0 (fun v6_0 v6_2 v6_3 => R (impl_Hash.s6 x0 v6_0 v6_2 v6_3)) v6_0 v6_2 v6_3 := by kernel_rfl
theorem impl_Hash.e6 (x0 : List Int) : ∀ (n : Nat) (v6_0 : Int) (v6_2 : Int) (v6_3 : Int), V.loopN (V.loopF impl_Hash.E Try.f120.ntmps [1, 1, 0, 1, 0] [] (V.codeOf Try.f120) (impl_Hash.kt x0)) n (impl_Hash.s6 x0 v6_0 v6_2 v6_3) = impl_Hash.l6 x0 n v6_0 v6_2 v6_3 := by
  intro n
  induction n with
  | zero => intros; rfl
  | succ n ih =>
    intro v6_0 v6_2 v6_3
    show V.loopF impl_Hash.E Try.f120.ntmps [1, 1, 0, 1, 0] [] (V.codeOf Try.f120) (impl_Hash.kt x0) (V.loopN (V.loopF impl_Hash.E Try.f120.ntmps [1, 1, 0, 1, 0] [] (V.codeOf Try.f120) (impl_Hash.kt x0)) n) (impl_Hash.s6 x0 v6_0 v6_2 v6_3) = _
    rw [impl_Hash.r6]
    simp only [ih]
    rfl
theorem impl_Hash.v (x0 : List Int) : V.evBody impl_Hash.E impl_Hash.con Try.f120 ((x0) : List Int) = impl_Hash.b x0 (fun v6_0 v6_2 v6_3 => V.loopN (V.loopF impl_Hash.E Try.f120.ntmps [1, 1, 0, 1, 0] [] (V.codeOf Try.f120) (impl_Hash.kt x0)) V.KK (impl_Hash.s6 x0 v6_0 v6_2 v6_3)) := by kernel_rfl
theorem impl_Hash.eq (x0 : List Int) : V.evBody impl_Hash.E impl_Hash.con Try.f120 ((x0) : List Int) = impl_Hash x0 := by
  rw [impl_Hash.v]
  simp only [impl_Hash.e6]
  rfl
theorem impl_Hash.ok : V.Valid Try.prog 120 impl_Hash.con :=
  V.body_ok (V.env_ok V.mixed V.tysOk (V.tab_cons impl_Mod.ok V.tab_nil)) Try.func120 (by kernel_rfl) (by kernel_rfl) (by kernel_rfl) (fun x y h => (show V.evBody impl_Hash.E impl_Hash.con Try.f120 x = _ from impl_Hash.eq x).trans h)
noncomputable abbrev impl_HeadDigest.con : V.Con := ⟨(.cons (.int .i64) (.cons (.int .i64) (.cons (.int .i64) (.cons (.int .i64) (.cons (.int .i64) (.cons (.int .i64) (.cons (.int .i64) (.cons (.int .i64) (.cons (.sl (.cons (.int .i64) .nil)) (.cons (.int .i64) (.cons (.sl (.cons (.int .i64) .nil)) (.cons (.int .i64) (.cons (.int .i64) (.cons (.sl (.cons (.int .i64) .nil)) (.cons (.int .i64) (.cons .bool .nil)))))))))))))))), (.cons (.int .i64) .nil), fun (x : Int × Int × Int × Int × Int × Int × Int × Int × List Int × Int × List Int × Int × Int × List Int × Int × Bool) => impl_HeadDigest x, [], [(true, 16)], [(false, 1)], [false], []⟩
noncomputable abbrev impl_HeadDigest.E : V.Env := V.mkE V.tys [(116, impl_HeadInts.con), (120, impl_Hash.con)] [] [] [] []
noncomputable abbrev impl_HeadDigest.kt (x0 : THead) : V.Kt Int := V.ktOf impl_HeadDigest.E impl_HeadDigest.con Try.f99 ((x0.1, x0.2.1, x0.2.2.1, x0.2.2.2.1, x0.2.2.2.2.1, x0.2.2.2.2.2.1, x0.2.2.2.2.2.2.1, x0.2.2.2.2.2.2.2.1, x0.2.2.2.2.2.2.2.2.1, x0.2.2.2.2.2.2.2.2.2.1, x0.2.2.2.2.2.2.2.2.2.2.1, x0.2.2.2.2.2.2.2.2.2.2.2.1, x0.2.2.2.2.2.2.2.2.2.2.2.2.1, x0.2.2.2.2.2.2.2.2.2.2.2.2.2.1, x0.2.2.2.2.2.2.2.2.2.2.2.2.2.2.1, x0.2.2.2.2.2.2.2.2.2.2.2.2.2.2.2) : Int × Int × Int × Int × Int × Int × Int × Int × List Int × Int × List Int × Int × Int × List Int × Int × Bool)
theorem impl_HeadDigest.eq (x0 : THead) : V.evBody impl_HeadDigest.E impl_HeadDigest.con Try.f99 ((x0.1, x0.2.1, x0.2.2.1, x0.2.2.2.1, x0.2.2.2.2.1, x0.2.2.2.2.2.1, x0.2.2.2.2.2.2.1, x0.2.2.2.2.2.2.2.1, x0.2.2.2.2.2.2.2.2.1, x0.2.2.2.2.2.2.2.2.2.1, x0.2.2.2.2.2.2.2.2.2.2.1, x0.2.2.2.2.2.2.2.2.2.2.2.1, x0.2.2.2.2.2.2.2.2.2.2.2.2.1, x0.2.2.2.2.2.2.2.2.2.2.2.2.2.1, x0.2.2.2.2.2.2.2.2.2.2.2.2.2.2.1, x0.2.2.2.2.2.2.2.2.2.2.2.2.2.2.2) : Int × Int × Int × Int × Int × Int × Int × Int × List Int × Int × List Int × Int × Int × List Int × Int × Bool) = impl_HeadDigest x0 := by kernel_rfl
theorem impl_HeadDigest.ok : V.Valid Try.prog 99 impl_HeadDigest.con :=
  V.body_ok (V.env_ok V.mixed V.tysOk (V.tab_cons impl_HeadInts.ok (V.tab_cons impl_Hash.ok V.tab_nil))) Try.func99 (by kernel_rfl) (by kernel_rfl) (by kernel_rfl) (fun x y h => (show V.evBody impl_HeadDigest.E impl_HeadDigest.con Try.f99 x = _ from impl_HeadDigest.eq x).trans h)
noncomputable abbrev impl_MarkOf.con : V.Con := ⟨(.cons (.int .i64) (.cons (.int .i64) (.cons (.int .i64) (.cons (.int .i64) (.cons (.int .i64) (.cons (.int .i64) (.cons (.int .i64) (.cons (.int .i64) (.cons (.sl (.cons (.int .i64) .nil)) (.cons (.int .i64) (.cons (.sl (.cons (.int .i64) .nil)) (.cons (.int .i64) (.cons (.int .i64) (.cons (.sl (.cons (.int .i64) .nil)) (.cons (.int .i64) (.cons .bool .nil)))))))))))))))), (.cons (.int .i64) (.cons (.int .i64) (.cons (.int .i64) .nil))), fun (x : Int × Int × Int × Int × Int × Int × Int × Int × List Int × Int × List Int × Int × Int × List Int × Int × Bool) => impl_MarkOf x, [], [(true, 16)], [(true, 3)], [false, false, false], []⟩
noncomputable abbrev impl_MarkOf.E : V.Env := V.mkE V.tys [(99, impl_HeadDigest.con)] [] [(1, 6)] [] []
noncomputable abbrev impl_MarkOf.kt (x0 : THead) : V.Kt TMark := V.ktOf impl_MarkOf.E impl_MarkOf.con Try.f63 ((x0.1, x0.2.1, x0.2.2.1, x0.2.2.2.1, x0.2.2.2.2.1, x0.2.2.2.2.2.1, x0.2.2.2.2.2.2.1, x0.2.2.2.2.2.2.2.1, x0.2.2.2.2.2.2.2.2.1, x0.2.2.2.2.2.2.2.2.2.1, x0.2.2.2.2.2.2.2.2.2.2.1, x0.2.2.2.2.2.2.2.2.2.2.2.1, x0.2.2.2.2.2.2.2.2.2.2.2.2.1, x0.2.2.2.2.2.2.2.2.2.2.2.2.2.1, x0.2.2.2.2.2.2.2.2.2.2.2.2.2.2.1, x0.2.2.2.2.2.2.2.2.2.2.2.2.2.2.2) : Int × Int × Int × Int × Int × Int × Int × Int × List Int × Int × List Int × Int × Int × List Int × Int × Bool)
theorem impl_MarkOf.eq (x0 : THead) : V.evBody impl_MarkOf.E impl_MarkOf.con Try.f63 ((x0.1, x0.2.1, x0.2.2.1, x0.2.2.2.1, x0.2.2.2.2.1, x0.2.2.2.2.2.1, x0.2.2.2.2.2.2.1, x0.2.2.2.2.2.2.2.1, x0.2.2.2.2.2.2.2.2.1, x0.2.2.2.2.2.2.2.2.2.1, x0.2.2.2.2.2.2.2.2.2.2.1, x0.2.2.2.2.2.2.2.2.2.2.2.1, x0.2.2.2.2.2.2.2.2.2.2.2.2.1, x0.2.2.2.2.2.2.2.2.2.2.2.2.2.1, x0.2.2.2.2.2.2.2.2.2.2.2.2.2.2.1, x0.2.2.2.2.2.2.2.2.2.2.2.2.2.2.2) : Int × Int × Int × Int × Int × Int × Int × Int × List Int × Int × List Int × Int × Int × List Int × Int × Bool) = impl_MarkOf x0 := by kernel_rfl
theorem impl_MarkOf.ok : V.Valid Try.prog 63 impl_MarkOf.con :=
  V.body_ok (V.env_ok V.mixed V.tysOk (V.tab_cons impl_HeadDigest.ok V.tab_nil)) Try.func63 (by kernel_rfl) (by kernel_rfl) (by kernel_rfl) (fun x y h => (show V.evBody impl_MarkOf.E impl_MarkOf.con Try.f63 x = _ from impl_MarkOf.eq x).trans h)
noncomputable abbrev impl_MarkInts.con : V.Con := ⟨(.cons (.int .i64) (.cons (.int .i64) (.cons (.int .i64) .nil))), (.cons (.sl (.cons (.int .i64) .nil)) .nil), fun (x : Int × Int × Int) => impl_MarkInts x, [], [(true, 3)], [(false, 1)], [true], []⟩
noncomputable abbrev impl_MarkInts.E : V.Env := V.mkE V.tys [] [] [] [] []
noncomputable abbrev impl_MarkInts.kt (x0 : TMark) : V.Kt (List Int) := V.ktOf impl_MarkInts.E impl_MarkInts.con Try.f62 ((x0.1, x0.2.1, x0.2.2) : Int × Int × Int)
theorem impl_MarkInts.eq (x0 : TMark) : V.evBody impl_MarkInts.E impl_MarkInts.con Try.f62 ((x0.1, x0.2.1, x0.2.2) : Int × Int × Int) = impl_MarkInts x0 := by kernel_rfl
theorem impl_MarkInts.ok : V.Valid Try.prog 62 impl_MarkInts.con :=
  V.body_ok (V.env_ok V.mixed V.tysOk V.tab_nil) Try.func62 (by kernel_rfl) (by kernel_rfl) (by kernel_rfl) (fun x y h => (show V.evBody impl_MarkInts.E impl_MarkInts.con Try.f62 x = _ from impl_MarkInts.eq x).trans h)
noncomputable abbrev impl_KeyedHash.con : V.Con := ⟨(.cons (.int .i64) (.cons (.sl (.cons (.int .i64) .nil)) .nil)), (.cons (.int .i64) .nil), fun (x : Int × List Int) => impl_KeyedHash x.1 x.2, [], [(false, 1), (false, 1)], [(false, 1)], [false], []⟩
noncomputable abbrev impl_KeyedHash.E : V.Env := V.mkE V.tys [(120, impl_Hash.con), (133, slices_Concat_int.con)] [] [] [128320] []
noncomputable abbrev impl_KeyedHash.kt (x0 : Int) (x1 : List Int) : V.Kt Int := V.ktOf impl_KeyedHash.E impl_KeyedHash.con Try.f137 ((x0, x1) : Int × List Int)
theorem impl_KeyedHash.eq (x0 : Int) (x1 : List Int) : V.evBody impl_KeyedHash.E impl_KeyedHash.con Try.f137 ((x0, x1) : Int × List Int) = impl_KeyedHash x0 x1 := by kernel_rfl
theorem impl_KeyedHash.ok : V.Valid Try.prog 137 impl_KeyedHash.con :=
  V.body_ok (V.env_ok V.mixed V.tysOk (V.tab_cons impl_Hash.ok (V.tab_cons slices_Concat_int.ok V.tab_nil))) Try.func137 (by kernel_rfl) (by kernel_rfl) (by kernel_rfl) (fun x y h => (show V.evBody impl_KeyedHash.E impl_KeyedHash.con Try.f137 x = _ from impl_KeyedHash.eq x.1 x.2).trans h)
noncomputable abbrev impl_TagOf.con : V.Con := ⟨(.cons (.int .i64) (.cons (.sl (.cons (.int .i64) .nil)) .nil)), (.cons (.int .i64) .nil), fun (x : Int × List Int) => impl_TagOf x.1 x.2, [], [(false, 1), (false, 1)], [(false, 1)], [false], []⟩
noncomputable abbrev impl_TagOf.E : V.Env := V.mkE V.tys [(137, impl_KeyedHash.con)] [] [] [] []
noncomputable abbrev impl_TagOf.kt (x0 : Int) (x1 : List Int) : V.Kt Int := V.ktOf impl_TagOf.E impl_TagOf.con Try.f119 ((x0, x1) : Int × List Int)
theorem impl_TagOf.eq (x0 : Int) (x1 : List Int) : V.evBody impl_TagOf.E impl_TagOf.con Try.f119 ((x0, x1) : Int × List Int) = impl_TagOf x0 x1 := by kernel_rfl
theorem impl_TagOf.ok : V.Valid Try.prog 119 impl_TagOf.con :=
  V.body_ok (V.env_ok V.mixed V.tysOk (V.tab_cons impl_KeyedHash.ok V.tab_nil)) Try.func119 (by kernel_rfl) (by kernel_rfl) (by kernel_rfl) (fun x y h => (show V.evBody impl_TagOf.E impl_TagOf.con Try.f119 x = _ from impl_TagOf.eq x.1 x.2).trans h)
noncomputable abbrev impl_IsSigBy.con : V.Con := ⟨(.cons (.int .i64) (.cons (.int .i64) (.cons (.sl (.cons (.int .i64) .nil)) .nil))), (.cons .bool .nil), fun (x : Int × Int × List Int) => impl_IsSigBy (x.1, x.2.1) x.2.2, [], [(true, 2), (false, 1)], [(false, 1)], [false], []⟩
noncomputable abbrev impl_IsSigBy.E : V.Env := V.mkE V.tys [(102, impl_isKey.con), (119, impl_TagOf.con)] [] [(1, 10)] [] []
noncomputable abbrev impl_IsSigBy.kt (x0 : TSig) (x1 : List Int) : V.Kt Bool := V.ktOf impl_IsSigBy.E impl_IsSigBy.con Try.f98 ((x0.1, x0.2, x1) : Int × Int × List Int)
theorem impl_IsSigBy.eq (x0 : TSig) (x1 : List Int) : V.evBody impl_IsSigBy.E impl_IsSigBy.con Try.f98 ((x0.1, x0.2, x1) : Int × Int × List Int) = impl_IsSigBy x0 x1 := by kernel_rfl
theorem impl_IsSigBy.ok : V.Valid Try.prog 98 impl_IsSigBy.con :=
  V.body_ok (V.env_ok V.mixed V.tysOk (V.tab_cons impl_isKey.ok (V.tab_cons impl_TagOf.ok V.tab_nil))) Try.func98 (by kernel_rfl) (by kernel_rfl) (by kernel_rfl) (fun x y h => (show V.evBody impl_IsSigBy.E impl_IsSigBy.con Try.f98 x = _ from impl_IsSigBy.eq (x.1, x.2.1) x.2.2).trans h)
noncomputable abbrev impl_CountSigs_1.con : V.Con := ⟨(.cons (.int .i64) (.cons (.int .i64) (.cons (.ptr (.cons (.int .i64) .nil)) (.cons (.ptr (.cons (.sl (.cons (.int .i64) .nil)) .nil)) .nil)))), (.cons .bool .nil), fun (x : Int × Int × Int × List Int) => impl_CountSigs_1 (x.1, x.2.1) x.2.2.1 x.2.2.2, [], [(true, 2), (false, 1), (false, 1)], [(false, 1)], [false], []⟩
noncomputable abbrev impl_CountSigs_1.E : V.Env := V.mkE V.tys [(98, impl_IsSigBy.con)] [] [] [] []
noncomputable abbrev impl_CountSigs_1.kt (x0 : TSig) (x1 : Int) (x2 : List Int) : V.Kt Bool := V.ktOf impl_CountSigs_1.E impl_CountSigs_1.con Try.f97 ((x0.1, x0.2, x1, x2) : Int × Int × Int × List Int)
theorem impl_CountSigs_1.eq (x0 : TSig) (x1 : Int) (x2 : List Int) : V.evBody impl_CountSigs_1.E impl_CountSigs_1.con Try.f97 ((x0.1, x0.2, x1, x2) : Int × Int × Int × List Int) = impl_CountSigs_1 x0 x1 x2 := by kernel_rfl
theorem impl_CountSigs_1.ok : V.Valid Try.prog 97 impl_CountSigs_1.con :=
  V.body_ok (V.env_ok V.mixed V.tysOk (V.tab_cons impl_IsSigBy.ok V.tab_nil)) Try.func97 (by kernel_rfl) (by kernel_rfl) (by kernel_rfl) (fun x y h => (show V.evBody impl_CountSigs_1.E impl_CountSigs_1.con Try.f97 x = _ from impl_CountSigs_1.eq (x.1, x.2.1) x.2.2.1 x.2.2.2).trans h)
noncomputable abbrev slices_IndexFunc_impl_Sig.con : V.Con := ⟨(.cons (.sl (.cons (.int .i64) (.cons (.int .i64) .nil))) (.cons (.fn 97 false .nil (.cons (.ptr (.cons (.int .i64) .nil)) (.cons (.ptr (.cons (.sl (.cons (.int .i64) .nil)) .nil)) .nil))) .nil)), (.cons (.int .i64) .nil), fun (x : List TSig × (Unit) × (Int × List Int)) => slices_IndexFunc_impl_Sig x.1 x.2, [], [(false, 1), (false, 1)], [(false, 1)], [false], []⟩
noncomputable abbrev slices_IndexFunc_impl_Sig.E : V.Env := V.mkE V.tys [(97, impl_CountSigs_1.con)] [(4, [0, 1, 7, 8], [])] [] [] []
noncomputable abbrev slices_IndexFunc_impl_Sig.kt (x0 : List TSig) (x1 : (Unit) × (Int × List Int)) : V.Kt Int := V.ktOf slices_IndexFunc_impl_Sig.E slices_IndexFunc_impl_Sig.con Try.f118 ((x0, x1) : List TSig × (Unit) × (Int × List Int))
noncomputable abbrev slices_IndexFunc_impl_Sig.s4 (x0 : List TSig) (x1 : (Unit) × (Int × List Int)) (v4_2 : Int) (v4_3 : Int) : V.St := ⟨[(0, .v false [.val (.sl (.cons (.int .i64) (.cons (.int .i64) .nil)) x0)]), (1, .v false [.val (.fn 97 false .nil (.cons (.ptr (.cons (.int .i64) .nil)) (.cons (.ptr (.cons (.sl (.cons (.int .i64) .nil)) .nil)) .nil)) x1.1 x1.2)]), (7, .v false [.val (.int .i64 v4_2)]), (8, .v false [.val (.int .i64 v4_3)])], []⟩
theorem slices_IndexFunc_impl_Sig.r4 (x0 : List TSig) (x1 : (Unit) × (Int × List Int)) (R : V.St → Option Int) (v4_2 : Int) (v4_3 : Int) : V.loopF slices_IndexFunc_impl_Sig.E Try.f118.ntmps [1, 0, 1, 0] [] (V.codeOf Try.f118) (slices_IndexFunc_impl_Sig.kt x0 x1) R (slices_IndexFunc_impl_Sig.s4 x0 x1 v4_2 v4_3) = slices_IndexFunc_impl_Sig.g4 x0 x1 (fun v4_2 v4_3 => R (slices_IndexFunc_impl_Sig.s4 x0 x1 v4_2 v4_3)) v4_2 v4_3 := by kernel_rfl
theorem slices_IndexFunc_impl_Sig.e4 (x0 : List TSig) (x1 : (Unit) × (Int × List Int)) : ∀ (n : Nat) (v4_2 : Int) (v4_3 : Int), V.loopN (V.loopF slices_IndexFunc_impl_Sig.E Try.f118.ntmps [1, 0, 1, 0] [] (V.codeOf Try.f118) (slices_IndexFunc_impl_Sig.kt x0 x1)) n (slices_IndexFunc_impl_Sig.s4 x0 x1 v4_2 v4_3) = slices_IndexFunc_impl_Sig.l4 x0 x1 n v4_2 v4_3 := by
  intro n
  induction n with
  | zero => intros; rfl
  | succ n ih =>
    intro v4_2 v4_3
    show V.loopF slices_IndexFunc_impl_Sig.E Try.f118.ntmps [1, 0, 1, 0] [] (V.codeOf Try.f118) (slices_IndexFunc_impl_Sig.kt x0 x1) (V.loopN (V.loopF slices_IndexFunc_impl_Sig.E Try.f118.ntmps [1, 0, 1, 0] [] (V.codeOf Try.f118) (slices_IndexFunc_impl_Sig.kt x0 x1)) n) (slices_IndexFunc_impl_Sig.s4 x0 x1 v4_2 v4_3) = _
    rw [slices_IndexFunc_impl_Sig.r4]
    simp only [ih]
    rfl
theorem slices_IndexFunc_impl_Sig.v (x0 : List TSig) (x1 : (Unit) × (Int × List Int)) : V.evBody slices_IndexFunc_impl_Sig.E slices_IndexFunc_impl_Sig.con Try.f118 ((x0, x1) : List TSig × (Unit) × (Int × List Int)) = slices_IndexFunc_impl_Sig.b x0 x1 (fun v4_2 v4_3 => V.loopN (V.loopF slices_IndexFunc_impl_Sig.E Try.f118.ntmps [1, 0, 1, 0] [] (V.codeOf Try.f118) (slices_IndexFunc_impl_Sig.kt x0 x1)) V.KK (slices_IndexFunc_impl_Sig.s4 x0 x1 v4_2 v4_3)) := by kernel_rfl
theorem slices_IndexFunc_impl_Sig.eq (x0 : List TSig) (x1 : (Unit) × (Int × List Int)) : V.evBody slices_IndexFunc_impl_Sig.E slices_IndexFunc_impl_Sig.con Try.f118 ((x0, x1) : List TSig × (Unit) × (Int × List Int)) = slices_IndexFunc_impl_Sig x0 x1 := by
  rw [slices_IndexFunc_impl_Sig.v]
  simp only [slices_IndexFunc_impl_Sig.e4]
  rfl
theorem slices_IndexFunc_impl_Sig.ok : V.Valid Try.prog 118 slices_IndexFunc_impl_Sig.con :=
  V.body_ok (V.env_ok V.mixed V.tysOk (V.tab_cons impl_CountSigs_1.ok V.tab_nil)) Try.func118 (by kernel_rfl) (by kernel_rfl) (by kernel_rfl) (fun x y h => (show V.evBody slices_IndexFunc_impl_Sig.E slices_IndexFunc_impl_Sig.con Try.f118 x = _ from slices_IndexFunc_impl_Sig.eq x.1 x.2).trans h)
noncomputable abbrev slices_ContainsFunc_impl_Sig.con : V.Con := ⟨(.cons (.sl (.cons (.int .i64) (.cons (.int .i64) .nil))) (.cons (.fn 97 false .nil (.cons (.ptr (.cons (.int .i64) .nil)) (.cons (.ptr (.cons (.sl (.cons (.int .i64) .nil)) .nil)) .nil))) .nil)), (.cons .bool .nil), fun (x : List TSig × (Unit) × (Int × List Int)) => slices_ContainsFunc_impl_Sig x.1 x.2, [], [(false, 1), (false, 1)], [(false, 1)], [false], []⟩
noncomputable abbrev slices_ContainsFunc_impl_Sig.E : V.Env := V.mkE V.tys [(118, slices_IndexFunc_impl_Sig.con)] [] [] [] []
noncomputable abbrev slices_ContainsFunc_impl_Sig.kt (x0 : List TSig) (x1 : (Unit) × (Int × List Int)) : V.Kt Bool := V.ktOf slices_ContainsFunc_impl_Sig.E slices_ContainsFunc_impl_Sig.con Try.f96 ((x0, x1) : List TSig × (Unit) × (Int × List Int))
theorem slices_ContainsFunc_impl_Sig.eq (x0 : List TSig) (x1 : (Unit) × (Int × List Int)) : V.evBody slices_ContainsFunc_impl_Sig.E slices_ContainsFunc_impl_Sig.con Try.f96 ((x0, x1) : List TSig × (Unit) × (Int × List Int)) = slices_ContainsFunc_impl_Sig x0 x1 := by kernel_rfl
theorem slices_ContainsFunc_impl_Sig.ok : V.Valid Try.prog 96 slices_ContainsFunc_impl_Sig.con :=
  V.body_ok (V.env_ok V.mixed V.tysOk (V.tab_cons slices_IndexFunc_impl_Sig.ok V.tab_nil)) Try.func96 (by kernel_rfl) (by kernel_rfl) (by kernel_rfl) (fun x y h => (show V.evBody slices_ContainsFunc_impl_Sig.E slices_ContainsFunc_impl_Sig.con Try.f96 x = _ from slices_ContainsFunc_impl_Sig.eq x.1 x.2).trans h)
noncomputable abbrev impl_CountSigs.con : V.Con := ⟨(.cons (.sl (.cons (.int .i64) .nil)) (.cons (.int .i64) (.cons (.sl (.cons (.int .i64) .nil)) (.cons (.sl (.cons (.int .i64) (.cons (.int .i64) .nil))) .nil)))), (.cons (.int .i64) .nil), fun (x : List Int × Int × List Int × List TSig) => impl_CountSigs (x.1, x.2.1) x.2.2.1 x.2.2.2, [], [(true, 2), (false, 1), (false, 1)], [(false, 1)], [false], []⟩
noncomputable abbrev impl_CountSigs.E : V.Env := V.mkE V.tys [(96, slices_ContainsFunc_impl_Sig.con)] [(6, [2, 4, 7, 11, 12, 13], [])] [] [] []
noncomputable abbrev impl_CountSigs.kt (x0 : TKeys) (x1 : List Int) (x2 : List TSig) : V.Kt Int := V.ktOf impl_CountSigs.E impl_CountSigs.con Try.f61 ((x0.1, x0.2, x1, x2) : List Int × Int × List Int × List TSig)
noncomputable abbrev impl_CountSigs.s6 (x0 : TKeys) (x1 : List Int) (x2 : List TSig) (v6_1 : Int) (v6_3 : Int) (v6_4 : Int) : V.St := ⟨[(2, .v false [.val (.sl (.cons (.int .i64) (.cons (.int .i64) .nil)) x2)]), (4, .v false [.ptr 64064 0]), (7, .v false [.val (.int .i64 v6_1)]), (11, .v false [.val (.sl (.cons (.int .i64) .nil) x0.1)]), (12, .v false [.val (.int .i64 v6_3)]), (13, .v false [.val (.int .i64 v6_4)])], [(64064, .box [.val (.sl (.cons (.int .i64) .nil) x1)])]⟩
theorem impl_CountSigs.r6 (x0 : TKeys) (x1 : List Int) (x2 : List TSig) (R : V.St → Option Int) (v6_1 : Int) (v6_3 : Int) (v6_4 : Int) : V.loopF impl_CountSigs.E Try.f61.ntmps [1, 1, 0, 1, 0] [] (V.codeOf Try.f61) (impl_CountSigs.kt x0 x1 x2) R (impl_CountSigs.s6 x0 x1 x2 v6_1 v6_3 v6_4) = impl_CountSigs.g6 x0 x1 x2 (fun v6_1 v6_3 v6_4 => R (impl_CountSigs.s6 x0 x1 x2 v6_1 v6_3 v6_4)) v6_1 v6_3 v6_4 := by kernel_rfl
theorem impl_CountSigs.e6 (x0 : TKeys) (x1 : List Int) (x2 : List TSig) : ∀ (n : Nat) (v6_1 : Int) (v6_3 : Int) (v6_4 : Int), V.loopN (V.loopF impl_CountSigs.E Try.f61.ntmps [1, 1, 0, 1, 0] [] (V.codeOf Try.f61) (impl_CountSigs.kt x0 x1 x2)) n (impl_CountSigs.s6 x0 x1 x2 v6_1 v6_3 v6_4) = impl_CountSigs.l6 x0 x1 x2 n v6_1 v6_3 v6_4 := by
  intro n
  induction n with
  | zero => intros; rfl
  | succ n ih =>
    intro v6_1 v6_3 v6_4
    show V.loopF impl_CountSigs.E Try.f61.ntmps [1, 1, 0, 1, 0] [] (V.codeOf Try.f61) (impl_CountSigs.kt x0 x1 x2) (V.loopN (V.loopF impl_CountSigs.E Try.f61.ntmps [1, 1, 0, 1, 0] [] (V.codeOf Try.f61) (impl_CountSigs.kt x0 x1 x2)) n) (impl_CountSigs.s6 x0 x1 x2 v6_1 v6_3 v6_4) = _
    rw [impl_CountSigs.r6]
    simp only [ih]
    rfl
theorem impl_CountSigs.v (x0 : TKeys) (x1 : List Int) (x2 : List TSig) : V.evBody impl_CountSigs.E impl_CountSigs.con Try.f61 ((x0.1, x0.2, x1, x2) : List Int × Int × List Int × List TSig) = impl_CountSigs.b x0 x1 x2 (fun v6_1 v6_3 v6_4 => V.loopN (V.loopF impl_CountSigs.E Try.f61.ntmps [1, 1, 0, 1, 0] [] (V.codeOf Try.f61) (impl_CountSigs.kt x0 x1 x2)) V.KK (impl_CountSigs.s6 x0 x1 x2 v6_1 v6_3 v6_4)) := by kernel_rfl
theorem impl_CountSigs.eq (x0 : TKeys) (x1 : List Int) (x2 : List TSig) : V.evBody impl_CountSigs.E impl_CountSigs.con Try.f61 ((x0.1, x0.2, x1, x2) : List Int × Int × List Int × List TSig) = impl_CountSigs x0 x1 x2 := by
  rw [impl_CountSigs.v]
  simp only [impl_CountSigs.e6]
  rfl
theorem impl_CountSigs.ok : V.Valid Try.prog 61 impl_CountSigs.con :=
  V.body_ok (V.env_ok V.mixed V.tysOk (V.tab_cons slices_ContainsFunc_impl_Sig.ok V.tab_nil)) Try.func61 (by kernel_rfl) (by kernel_rfl) (by kernel_rfl) (fun x y h => (show V.evBody impl_CountSigs.E impl_CountSigs.con Try.f61 x = _ from impl_CountSigs.eq (x.1, x.2.1) x.2.2.1 x.2.2.2).trans h)
noncomputable abbrev impl_CountConfirms.con : V.Con := ⟨(.cons (.sl (.cons (.int .i64) .nil)) (.cons (.int .i64) (.cons (.int .i64) (.cons (.int .i64) (.cons (.int .i64) (.cons (.int .i64) (.cons (.int .i64) (.cons (.int .i64) (.cons (.int .i64) (.cons (.int .i64) (.cons (.sl (.cons (.int .i64) .nil)) (.cons (.int .i64) (.cons (.sl (.cons (.int .i64) .nil)) (.cons (.int .i64) (.cons (.int .i64) (.cons (.sl (.cons (.int .i64) .nil)) (.cons (.int .i64) (.cons .bool (.cons (.sl (.cons (.int .i64) (.cons (.int .i64) .nil))) .nil))))))))))))))))))), (.cons (.int .i64) .nil), fun (x : List Int × Int × Int × Int × Int × Int × Int × Int × Int × Int × List Int × Int × List Int × Int × Int × List Int × Int × Bool × List TSig) => impl_CountConfirms (x.1, x.2.1) (x.2.2.1, x.2.2.2.1, x.2.2.2.2.1, x.2.2.2.2.2.1, x.2.2.2.2.2.2.1, x.2.2.2.2.2.2.2.1, x.2.2.2.2.2.2.2.2.1, x.2.2.2.2.2.2.2.2.2.1, x.2.2.2.2.2.2.2.2.2.2.1, x.2.2.2.2.2.2.2.2.2.2.2.1, x.2.2.2.2.2.2.2.2.2.2.2.2.1, x.2.2.2.2.2.2.2.2.2.2.2.2.2.1, x.2.2.2.2.2.2.2.2.2.2.2.2.2.2.1, x.2.2.2.2.2.2.2.2.2.2.2.2.2.2.2.1, x.2.2.2.2.2.2.2.2.2.2.2.2.2.2.2.2.1, x.2.2.2.2.2.2.2.2.2.2.2.2.2.2.2.2.2.1) x.2.2.2.2.2.2.2.2.2.2.2.2.2.2.2.2.2.2, [], [(true, 2), (true, 16), (false, 1)], [(false, 1)], [false], []⟩
noncomputable abbrev impl_CountConfirms.E : V.Env := V.mkE V.tys [(61, impl_CountSigs.con), (62, impl_MarkInts.con), (63, impl_MarkOf.con)] [] [(1, 5)] [] []
noncomputable abbrev impl_CountConfirms.kt (x0 : TKeys) (x1 : THead) (x2 : List TSig) : V.Kt Int := V.ktOf impl_CountConfirms.E impl_CountConfirms.con Try.f20 ((x0.1, x0.2, x1.1, x1.2.1, x1.2.2.1, x1.2.2.2.1, x1.2.2.2.2.1, x1.2.2.2.2.2.1, x1.2.2.2.2.2.2.1, x1.2.2.2.2.2.2.2.1, x1.2.2.2.2.2.2.2.2.1, x1.2.2.2.2.2.2.2.2.2.1, x1.2.2.2.2.2.2.2.2.2.2.1, x1.2.2.2.2.2.2.2.2.2.2.2.1, x1.2.2.2.2.2.2.2.2.2.2.2.2.1, x1.2.2.2.2.2.2.2.2.2.2.2.2.2.1, x1.2.2.2.2.2.2.2.2.2.2.2.2.2.2.1, x1.2.2.2.2.2.2.2.2.2.2.2.2.2.2.2, x2) : List Int × Int × Int × Int × Int × Int × Int × Int × Int × Int × List Int × Int × List Int × Int × Int × List Int × Int × Bool × List TSig)
theorem impl_CountConfirms.eq (x0 : TKeys) (x1 : THead) (x2 : List TSig) : V.evBody impl_CountConfirms.E impl_CountConfirms.con Try.f20 ((x0.1, x0.2, x1.1, x1.2.1, x1.2.2.1, x1.2.2.2.1, x1.2.2.2.2.1, x1.2.2.2.2.2.1, x1.2.2.2.2.2.2.1, x1.2.2.2.2.2.2.2.1, x1.2.2.2.2.2.2.2.2.1, x1.2.2.2.2.2.2.2.2.2.1, x1.2.2.2.2.2.2.2.2.2.2.1, x1.2.2.2.2.2.2.2.2.2.2.2.1, x1.2.2.2.2.2.2.2.2.2.2.2.2.1, x1.2.2.2.2.2.2.2.2.2.2.2.2.2.1, x1.2.2.2.2.2.2.2.2.2.2.2.2.2.2.1, x1.2.2.2.2.2.2.2.2.2.2.2.2.2.2.2, x2) : List Int × Int × Int × Int × Int × Int × Int × Int × Int × Int × List Int × Int × List Int × Int × Int × List Int × Int × Bool × List TSig) = impl_CountConfirms x0 x1 x2 := by kernel_rfl
theorem impl_CountConfirms.ok : V.Valid Try.prog 20 impl_CountConfirms.con :=
  V.body_ok (V.env_ok V.mixed V.tysOk (V.tab_cons impl_CountSigs.ok (V.tab_cons impl_MarkInts.ok (V.tab_cons impl_MarkOf.ok V.tab_nil)))) Try.func20 (by kernel_rfl) (by kernel_rfl) (by kernel_rfl) (fun x y h => (show V.evBody impl_CountConfirms.E impl_CountConfirms.con Try.f20 x = _ from impl_CountConfirms.eq (x.1, x.2.1) (x.2.2.1, x.2.2.2.1, x.2.2.2.2.1, x.2.2.2.2.2.1, x.2.2.2.2.2.2.1, x.2.2.2.2.2.2.2.1, x.2.2.2.2.2.2.2.2.1, x.2.2.2.2.2.2.2.2.2.1, x.2.2.2.2.2.2.2.2.2.2.1, x.2.2.2.2.2.2.2.2.2.2.2.1, x.2.2.2.2.2.2.2.2.2.2.2.2.1, x.2.2.2.2.2.2.2.2.2.2.2.2.2.1, x.2.2.2.2.2.2.2.2.2.2.2.2.2.2.1, x.2.2.2.2.2.2.2.2.2.2.2.2.2.2.2.1, x.2.2.2.2.2.2.2.2.2.2.2.2.2.2.2.2.1, x.2.2.2.2.2.2.2.2.2.2.2.2.2.2.2.2.2.1) x.2.2.2.2.2.2.2.2.2.2.2.2.2.2.2.2.2.2).trans h)
noncomputable abbrev impl_IsConfirmed.con : V.Con := ⟨(.cons (.sl (.cons (.int .i64) .nil)) (.cons (.int .i64) (.cons (.int .i64) (.cons (.int .i64) (.cons (.int .i64) (.cons (.int .i64) (.cons (.int .i64) (.cons (.int .i64) (.cons (.int .i64) (.cons (.int .i64) (.cons (.sl (.cons (.int .i64) .nil)) (.cons (.int .i64) (.cons (.sl (.cons (.int .i64) .nil)) (.cons (.int .i64) (.cons (.int .i64) (.cons (.sl (.cons (.int .i64) .nil)) (.cons (.int .i64) (.cons .bool (.cons (.sl (.cons (.int .i64) (.cons (.int .i64) .nil))) .nil))))))))))))))))))), (.cons .bool .nil), fun (x : List Int × Int × Int × Int × Int × Int × Int × Int × Int × Int × List Int × Int × List Int × Int × Int × List Int × Int × Bool × List TSig) => impl_IsConfirmed (x.1, x.2.1) (x.2.2.1, x.2.2.2.1, x.2.2.2.2.1, x.2.2.2.2.2.1, x.2.2.2.2.2.2.1, x.2.2.2.2.2.2.2.1, x.2.2.2.2.2.2.2.2.1, x.2.2.2.2.2.2.2.2.2.1, x.2.2.2.2.2.2.2.2.2.2.1, x.2.2.2.2.2.2.2.2.2.2.2.1, x.2.2.2.2.2.2.2.2.2.2.2.2.1, x.2.2.2.2.2.2.2.2.2.2.2.2.2.1, x.2.2.2.2.2.2.2.2.2.2.2.2.2.2.1, x.2.2.2.2.2.2.2.2.2.2.2.2.2.2.2.1, x.2.2.2.2.2.2.2.2.2.2.2.2.2.2.2.2.1, x.2.2.2.2.2.2.2.2.2.2.2.2.2.2.2.2.2.1) x.2.2.2.2.2.2.2.2.2.2.2.2.2.2.2.2.2.2, [], [(true, 2), (true, 16), (false, 1)], [(false, 1)], [false], []⟩
noncomputable abbrev impl_IsConfirmed.E : V.Env := V.mkE V.tys [(20, impl_CountConfirms.con), (66, impl_IsKeys.con)] [] [(1, 9)] [] []
noncomputable abbrev impl_IsConfirmed.kt (x0 : TKeys) (x1 : THead) (x2 : List TSig) : V.Kt Bool := V.ktOf impl_IsConfirmed.E impl_IsConfirmed.con Try.f25 ((x0.1, x0.2, x1.1, x1.2.1, x1.2.2.1, x1.2.2.2.1, x1.2.2.2.2.1, x1.2.2.2.2.2.1, x1.2.2.2.2.2.2.1, x1.2.2.2.2.2.2.2.1, x1.2.2.2.2.2.2.2.2.1, x1.2.2.2.2.2.2.2.2.2.1, x1.2.2.2.2.2.2.2.2.2.2.1, x1.2.2.2.2.2.2.2.2.2.2.2.1, x1.2.2.2.2.2.2.2.2.2.2.2.2.1, x1.2.2.2.2.2.2.2.2.2.2.2.2.2.1, x1.2.2.2.2.2.2.2.2.2.2.2.2.2.2.1, x1.2.2.2.2.2.2.2.2.2.2.2.2.2.2.2, x2) : List Int × Int × Int × Int × Int × Int × Int × Int × Int × Int × List Int × Int × List Int × Int × Int × List Int × Int × Bool × List TSig)
theorem impl_IsConfirmed.eq (x0 : TKeys) (x1 : THead) (x2 : List TSig) : V.evBody impl_IsConfirmed.E impl_IsConfirmed.con Try.f25 ((x0.1, x0.2, x1.1, x1.2.1, x1.2.2.1, x1.2.2.2.1, x1.2.2.2.2.1, x1.2.2.2.2.2.1, x1.2.2.2.2.2.2.1, x1.2.2.2.2.2.2.2.1, x1.2.2.2.2.2.2.2.2.1, x1.2.2.2.2.2.2.2.2.2.1, x1.2.2.2.2.2.2.2.2.2.2.1, x1.2.2.2.2.2.2.2.2.2.2.2.1, x1.2.2.2.2.2.2.2.2.2.2.2.2.1, x1.2.2.2.2.2.2.2.2.2.2.2.2.2.1, x1.2.2.2.2.2.2.2.2.2.2.2.2.2.2.1, x1.2.2.2.2.2.2.2.2.2.2.2.2.2.2.2, x2) : List Int × Int × Int × Int × Int × Int × Int × Int × Int × Int × List Int × Int × List Int × Int × Int × List Int × Int × Bool × List TSig) = impl_IsConfirmed x0 x1 x2 := by kernel_rfl
theorem impl_IsConfirmed.ok : V.Valid Try.prog 25 impl_IsConfirmed.con :=
  V.body_ok (V.env_ok V.mixed V.tysOk (V.tab_cons impl_CountConfirms.ok (V.tab_cons impl_IsKeys.ok V.tab_nil))) Try.func25 (by kernel_rfl) (by kernel_rfl) (by kernel_rfl) (fun x y h => (show V.evBody impl_IsConfirmed.E impl_IsConfirmed.con Try.f25 x = _ from impl_IsConfirmed.eq (x.1, x.2.1) (x.2.2.1, x.2.2.2.1, x.2.2.2.2.1, x.2.2.2.2.2.1, x.2.2.2.2.2.2.1, x.2.2.2.2.2.2.2.1, x.2.2.2.2.2.2.2.2.1, x.2.2.2.2.2.2.2.2.2.1, x.2.2.2.2.2.2.2.2.2.2.1, x.2.2.2.2.2.2.2.2.2.2.2.1, x.2.2.2.2.2.2.2.2.2.2.2.2.1, x.2.2.2.2.2.2.2.2.2.2.2.2.2.1, x.2.2.2.2.2.2.2.2.2.2.2.2.2.2.1, x.2.2.2.2.2.2.2.2.2.2.2.2.2.2.2.1, x.2.2.2.2.2.2.2.2.2.2.2.2.2.2.2.2.1, x.2.2.2.2.2.2.2.2.2.2.2.2.2.2.2.2.2.1) x.2.2.2.2.2.2.2.2.2.2.2.2.2.2.2.2.2.2).trans h)
noncomputable abbrev laws_eqIntS.con : V.Con := ⟨(.cons (.sl (.cons (.int .i64) .nil)) (.cons (.sl (.cons (.int .i64) .nil)) .nil)), (.cons .bool .nil), fun (x : List Int × List Int) => laws_eqIntS x.1 x.2, [], [(false, 1), (false, 1)], [(false, 1)], [false], []⟩
noncomputable abbrev laws_eqIntS.E : V.Env := V.mkE V.tys [] [(8, [0, 1, 5], [])] [(6, 8)] [] []
noncomputable abbrev laws_eqIntS.kt (x0 : List Int) (x1 : List Int) : V.Kt Bool := V.ktOf laws_eqIntS.E laws_eqIntS.con Try.f52 ((x0, x1) : List Int × List Int)
noncomputable abbrev laws_eqIntS.s8 (x0 : List Int) (x1 : List Int) (v8_2 : Int) : V.St := ⟨[(0, .v false [.val (.sl (.cons (.int .i64) .nil) x0)]), (1, .v false [.val (.sl (.cons (.int .i64) .nil) x1)]), (5, .v false [.val (.int .i64 v8_2)])], []⟩
theorem laws_eqIntS.r8 (x0 : List Int) (x1 : List Int) (R : V.St → Option Bool) (v8_2 : Int) : V.loopF laws_eqIntS.E Try.f52.ntmps [1, 1, 0, 1, 0] [] (V.codeOf Try.f52) (laws_eqIntS.kt x0 x1) R (laws_eqIntS.s8 x0 x1 v8_2) = laws_eqIntS.g8 x0 x1 (fun v8_2 => R (laws_eqIntS.s8 x0 x1 v8_2)) v8_2 := by kernel_rfl
theorem laws_eqIntS.e8 (x0 : List Int) (x1 : List Int) : ∀ (n : Nat) (v8_2 : Int), V.loopN (V.loopF laws_eqIntS.E Try.f52.ntmps [1, 1, 0, 1, 0] [] (V.codeOf Try.f52) (laws_eqIntS.kt x0 x1)) n (laws_eqIntS.s8 x0 x1 v8_2) = laws_eqIntS.l8 x0 x1 n v8_2 := by
  intro n
  induction n with
  | zero => intros; rfl
  | succ n ih =>
    intro v8_2
    show V.loopF laws_eqIntS.E Try.f52.ntmps [1, 1, 0, 1, 0] [] (V.codeOf Try.f52) (laws_eqIntS.kt x0 x1) (V.loopN (V.loopF laws_eqIntS.E Try.f52.ntmps [1, 1, 0, 1, 0] [] (V.codeOf Try.f52) (laws_eqIntS.kt x0 x1)) n) (laws_eqIntS.s8 x0 x1 v8_2) = _
    rw [laws_eqIntS.r8]
    simp only [ih]
    rfl
theorem laws_eqIntS.v (x0 : List Int) (x1 : List Int) : V.evBody laws_eqIntS.E laws_eqIntS.con Try.f52 ((x0, x1) : List Int × List Int) = laws_eqIntS.b x0 x1 (fun v8_2 => V.loopN (V.loopF laws_eqIntS.E Try.f52.ntmps [1, 1, 0, 1, 0] [] (V.codeOf Try.f52) (laws_eqIntS.kt x0 x1)) V.KK (laws_eqIntS.s8 x0 x1 v8_2)) := by kernel_rfl
theorem laws_eqIntS.eq (x0 : List Int) (x1 : List Int) : V.evBody laws_eqIntS.E laws_eqIntS.con Try.f52 ((x0, x1) : List Int × List Int) = laws_eqIntS x0 x1 := by
  rw [laws_eqIntS.v]
  simp only [laws_eqIntS.e8]
  rfl
theorem laws_eqIntS.ok : V.Valid Try.prog 52 laws_eqIntS.con :=
  V.body_ok (V.env_ok V.mixed V.tysOk V.tab_nil) Try.func52 (by kernel_rfl) (by kernel_rfl) (by kernel_rfl) (fun x y h => (show V.evBody laws_eqIntS.E laws_eqIntS.con Try.f52 x = _ from laws_eqIntS.eq x.1 x.2).trans h)
noncomputable abbrev laws_eqKeys.con : V.Con := ⟨(.cons (.sl (.cons (.int .i64) .nil)) (.cons (.int .i64) (.cons (.sl (.cons (.int .i64) .nil)) (.cons (.int .i64) .nil)))), (.cons .bool .nil), fun (x : List Int × Int × List Int × Int) => laws_eqKeys (x.1, x.2.1) x.2.2, [], [(true, 2), (true, 2)], [(false, 1)], [false], []⟩
noncomputable abbrev laws_eqKeys.E : V.Env := V.mkE V.tys [(52, laws_eqIntS.con)] [] [] [] []
noncomputable abbrev laws_eqKeys.kt (x0 : TKeys) (x1 : TKeys) : V.Kt Bool := V.ktOf laws_eqKeys.E laws_eqKeys.con Try.f21 ((x0.1, x0.2, x1.1, x1.2) : List Int × Int × List Int × Int)
theorem laws_eqKeys.eq (x0 : TKeys) (x1 : TKeys) : V.evBody laws_eqKeys.E laws_eqKeys.con Try.f21 ((x0.1, x0.2, x1.1, x1.2) : List Int × Int × List Int × Int) = laws_eqKeys x0 x1 := by kernel_rfl
theorem laws_eqKeys.ok : V.Valid Try.prog 21 laws_eqKeys.con :=
  V.body_ok (V.env_ok V.mixed V.tysOk (V.tab_cons laws_eqIntS.ok V.tab_nil)) Try.func21 (by kernel_rfl) (by kernel_rfl) (by kernel_rfl) (fun x y h => (show V.evBody laws_eqKeys.E laws_eqKeys.con Try.f21 x = _ from laws_eqKeys.eq (x.1, x.2.1) x.2.2).trans h)
noncomputable abbrev laws_eqHead.con : V.Con := ⟨(.cons (.int .i64) (.cons (.int .i64) (.cons (.int .i64) (.cons (.int .i64) (.cons (.int .i64) (.cons (.int .i64) (.cons (.int .i64) (.cons (.int .i64) (.cons (.sl (.cons (.int .i64) .nil)) (.cons (.int .i64) (.cons (.sl (.cons (.int .i64) .nil)) (.cons (.int .i64) (.cons (.int .i64) (.cons (.sl (.cons (.int .i64) .nil)) (.cons (.int .i64) (.cons .bool (.cons (.int .i64) (.cons (.int .i64) (.cons (.int .i64) (.cons (.int .i64) (.cons (.int .i64) (.cons (.int .i64) (.cons (.int .i64) (.cons (.int .i64) (.cons (.sl (.cons (.int .i64) .nil)) (.cons (.int .i64) (.cons (.sl (.cons (.int .i64) .nil)) (.cons (.int .i64) (.cons (.int .i64) (.cons (.sl (.cons (.int .i64) .nil)) (.cons (.int .i64) (.cons .bool .nil)))))))))))))))))))))))))))))))), (.cons .bool .nil), fun (x : Int × Int × Int × Int × Int × Int × Int × Int × List Int × Int × List Int × Int × Int × List Int × Int × Bool × Int × Int × Int × Int × Int × Int × Int × Int × List Int × Int × List Int × Int × Int × List Int × Int × Bool) => laws_eqHead (x.1, x.2.1, x.2.2.1, x.2.2.2.1, x.2.2.2.2.1, x.2.2.2.2.2.1, x.2.2.2.2.2.2.1, x.2.2.2.2.2.2.2.1, x.2.2.2.2.2.2.2.2.1, x.2.2.2.2.2.2.2.2.2.1, x.2.2.2.2.2.2.2.2.2.2.1, x.2.2.2.2.2.2.2.2.2.2.2.1, x.2.2.2.2.2.2.2.2.2.2.2.2.1, x.2.2.2.2.2.2.2.2.2.2.2.2.2.1, x.2.2.2.2.2.2.2.2.2.2.2.2.2.2.1, x.2.2.2.2.2.2.2.2.2.2.2.2.2.2.2.1) x.2.2.2.2.2.2.2.2.2.2.2.2.2.2.2.2, [], [(true, 16), (true, 16)], [(false, 1)], [false], []⟩
noncomputable abbrev laws_eqHead.E : V.Env := V.mkE V.tys [(21, laws_eqKeys.con)] [] [] [] []
noncomputable abbrev laws_eqHead.kt (x0 : THead) (x1 : THead) : V.Kt Bool := V.ktOf laws_eqHead.E laws_eqHead.con Try.f22 ((x0.1, x0.2.1, x0.2.2.1, x0.2.2.2.1, x0.2.2.2.2.1, x0.2.2.2.2.2.1, x0.2.2.2.2.2.2.1, x0.2.2.2.2.2.2.2.1, x0.2.2.2.2.2.2.2.2.1, x0.2.2.2.2.2.2.2.2.2.1, x0.2.2.2.2.2.2.2.2.2.2.1, x0.2.2.2.2.2.2.2.2.2.2.2.1, x0.2.2.2.2.2.2.2.2.2.2.2.2.1, x0.2.2.2.2.2.2.2.2.2.2.2.2.2.1, x0.2.2.2.2.2.2.2.2.2.2.2.2.2.2.1, x0.2.2.2.2.2.2.2.2.2.2.2.2.2.2.2, x1.1, x1.2.1, x1.2.2.1, x1.2.2.2.1, x1.2.2.2.2.1, x1.2.2.2.2.2.1, x1.2.2.2.2.2.2.1, x1.2.2.2.2.2.2.2.1, x1.2.2.2.2.2.2.2.2.1, x1.2.2.2.2.2.2.2.2.2.1, x1.2.2.2.2.2.2.2.2.2.2.1, x1.2.2.2.2.2.2.2.2.2.2.2.1, x1.2.2.2.2.2.2.2.2.2.2.2.2.1, x1.2.2.2.2.2.2.2.2.2.2.2.2.2.1, x1.2.2.2.2.2.2.2.2.2.2.2.2.2.2.1, x1.2.2.2.2.2.2.2.2.2.2.2.2.2.2.2) : Int × Int × Int × Int × Int × Int × Int × Int × List Int × Int × List Int × Int × Int × List Int × Int × Bool × Int × Int × Int × Int × Int × Int × Int × Int × List Int × Int × List Int × Int × Int × List Int × Int × Bool)
theorem laws_eqHead.eq (x0 : THead) (x1 : THead) : V.evBody laws_eqHead.E laws_eqHead.con Try.f22 ((x0.1, x0.2.1, x0.2.2.1, x0.2.2.2.1, x0.2.2.2.2.1, x0.2.2.2.2.2.1, x0.2.2.2.2.2.2.1, x0.2.2.2.2.2.2.2.1, x0.2.2.2.2.2.2.2.2.1, x0.2.2.2.2.2.2.2.2.2.1, x0.2.2.2.2.2.2.2.2.2.2.1, x0.2.2.2.2.2.2.2.2.2.2.2.1, x0.2.2.2.2.2.2.2.2.2.2.2.2.1, x0.2.2.2.2.2.2.2.2.2.2.2.2.2.1, x0.2.2.2.2.2.2.2.2.2.2.2.2.2.2.1, x0.2.2.2.2.2.2.2.2.2.2.2.2.2.2.2, x1.1, x1.2.1, x1.2.2.1, x1.2.2.2.1, x1.2.2.2.2.1, x1.2.2.2.2.2.1, x1.2.2.2.2.2.2.1, x1.2.2.2.2.2.2.2.1, x1.2.2.2.2.2.2.2.2.1, x1.2.2.2.2.2.2.2.2.2.1, x1.2.2.2.2.2.2.2.2.2.2.1, x1.2.2.2.2.2.2.2.2.2.2.2.1, x1.2.2.2.2.2.2.2.2.2.2.2.2.1, x1.2.2.2.2.2.2.2.2.2.2.2.2.2.1, x1.2.2.2.2.2.2.2.2.2.2.2.2.2.2.1, x1.2.2.2.2.2.2.2.2.2.2.2.2.2.2.2) : Int × Int × Int × Int × Int × Int × Int × Int × List Int × Int × List Int × Int × Int × List Int × Int × Bool × Int × Int × Int × Int × Int × Int × Int × Int × List Int × Int × List Int × Int × Int × List Int × Int × Bool) = laws_eqHead x0 x1 := by kernel_rfl
theorem laws_eqHead.ok : V.Valid Try.prog 22 laws_eqHead.con :=
  V.body_ok (V.env_ok V.mixed V.tysOk (V.tab_cons laws_eqKeys.ok V.tab_nil)) Try.func22 (by kernel_rfl) (by kernel_rfl) (by kernel_rfl) (fun x y h => (show V.evBody laws_eqHead.E laws_eqHead.con Try.f22 x = _ from laws_eqHead.eq (x.1, x.2.1, x.2.2.1, x.2.2.2.1, x.2.2.2.2.1, x.2.2.2.2.2.1, x.2.2.2.2.2.2.1, x.2.2.2.2.2.2.2.1, x.2.2.2.2.2.2.2.2.1, x.2.2.2.2.2.2.2.2.2.1, x.2.2.2.2.2.2.2.2.2.2.1, x.2.2.2.2.2.2.2.2.2.2.2.1, x.2.2.2.2.2.2.2.2.2.2.2.2.1, x.2.2.2.2.2.2.2.2.2.2.2.2.2.1, x.2.2.2.2.2.2.2.2.2.2.2.2.2.2.1, x.2.2.2.2.2.2.2.2.2.2.2.2.2.2.2.1) x.2.2.2.2.2.2.2.2.2.2.2.2.2.2.2.2).trans h)
noncomputable abbrev laws_eqSig.con : V.Con := ⟨(.cons (.int .i64) (.cons (.int .i64) (.cons (.int .i64) (.cons (.int .i64) .nil)))), (.cons .bool .nil), fun (x : Int × Int × Int × Int) => laws_eqSig (x.1, x.2.1) x.2.2, [], [(true, 2), (true, 2)], [(false, 1)], [false], []⟩
noncomputable abbrev laws_eqSig.E : V.Env := V.mkE V.tys [] [] [] [] []
noncomputable abbrev laws_eqSig.kt (x0 : TSig) (x1 : TSig) : V.Kt Bool := V.ktOf laws_eqSig.E laws_eqSig.con Try.f64 ((x0.1, x0.2, x1.1, x1.2) : Int × Int × Int × Int)
theorem laws_eqSig.eq (x0 : TSig) (x1 : TSig) : V.evBody laws_eqSig.E laws_eqSig.con Try.f64 ((x0.1, x0.2, x1.1, x1.2) : Int × Int × Int × Int) = laws_eqSig x0 x1 := by kernel_rfl
theorem laws_eqSig.ok : V.Valid Try.prog 64 laws_eqSig.con :=
  V.body_ok (V.env_ok V.mixed V.tysOk V.tab_nil) Try.func64 (by kernel_rfl) (by kernel_rfl) (by kernel_rfl) (fun x y h => (show V.evBody laws_eqSig.E laws_eqSig.con Try.f64 x = _ from laws_eqSig.eq (x.1, x.2.1) x.2.2).trans h)
noncomputable abbrev laws_eqSigS.con : V.Con := ⟨(.cons (.sl (.cons (.int .i64) (.cons (.int .i64) .nil))) (.cons (.sl (.cons (.int .i64) (.cons (.int .i64) .nil))) .nil)), (.cons .bool .nil), fun (x : List TSig × List TSig) => laws_eqSigS x.1 x.2, [], [(false, 1), (false, 1)], [(false, 1)], [false], []⟩
noncomputable abbrev laws_eqSigS.E : V.Env := V.mkE V.tys [(64, laws_eqSig.con)] [(8, [0, 1, 5], [])] [(6, 8)] [] []
noncomputable abbrev laws_eqSigS.kt (x0 : List TSig) (x1 : List TSig) : V.Kt Bool := V.ktOf laws_eqSigS.E laws_eqSigS.con Try.f23 ((x0, x1) : List TSig × List TSig)
noncomputable abbrev laws_eqSigS.s8 (x0 : List TSig) (x1 : List TSig) (v8_2 : Int) : V.St := ⟨[(0, .v false [.val (.sl (.cons (.int .i64) (.cons (.int .i64) .nil)) x0)]), (1, .v false [.val (.sl (.cons (.int .i64) (.cons (.int .i64) .nil)) x1)]), (5, .v false [.val (.int .i64 v8_2)])], []⟩
theorem laws_eqSigS.r8 (x0 : List TSig) (x1 : List TSig) (R : V.St → Option Bool) (v8_2 : Int) : V.loopF laws_eqSigS.E Try.f23.ntmps [1, 1, 0, 1, 0] [] (V.codeOf Try.f23) (laws_eqSigS.kt x0 x1) R (laws_eqSigS.s8 x0 x1 v8_2) = laws_eqSigS.g8 x0 x1 (fun v8_2 => R (laws_eqSigS.s8 x0 x1 v8_2)) v8_2 := by kernel_rfl
theorem laws_eqSigS.e8 (x0 : List TSig) (x1 : List TSig) : ∀ (n : Nat) (v8_2 : Int), V.loopN (V.loopF laws_eqSigS.E Try.f23.ntmps [1, 1, 0, 1, 0] [] (V.codeOf Try.f23) (laws_eqSigS.kt x0 x1)) n (laws_eqSigS.s8 x0 x1 v8_2) = laws_eqSigS.l8 x0 x1 n v8_2 := by
  intro n
  induction n with
  | zero => intros; rfl
  | succ n ih =>
    intro v8_2
    show V.loopF laws_eqSigS.E Try.f23.ntmps [1, 1, 0, 1, 0] [] (V.codeOf Try.f23) (laws_eqSigS.kt x0 x1) (V.loopN (V.loopF laws_eqSigS.E Try.f23.ntmps [1, 1, 0, 1, 0] [] (V.codeOf Try.f23) (laws_eqSigS.kt x0 x1)) n) (laws_eqSigS.s8 x0 x1 v8_2) = _
    rw [laws_eqSigS.r8]
    simp only [ih]
    rfl
theorem laws_eqSigS.v (x0 : List TSig) (x1 : List TSig) : V.evBody laws_eqSigS.E laws_eqSigS.con Try.f23 ((x0, x1) : List TSig × List TSig) = laws_eqSigS.b x0 x1 (fun v8_2 => V.loopN (V.loopF laws_eqSigS.E Try.f23.ntmps [1, 1, 0, 1, 0] [] (V.codeOf Try.f23) (laws_eqSigS.kt x0 x1)) V.KK (laws_eqSigS.s8 x0 x1 v8_2)) := by kernel_rfl
theorem laws_eqSigS.eq (x0 : List TSig) (x1 : List TSig) : V.evBody laws_eqSigS.E laws_eqSigS.con Try.f23 ((x0, x1) : List TSig × List TSig) = laws_eqSigS x0 x1 := by
  rw [laws_eqSigS.v]
  simp only [laws_eqSigS.e8]
  rfl
theorem laws_eqSigS.ok : V.Valid Try.prog 23 laws_eqSigS.con :=
  V.body_ok (V.env_ok V.mixed V.tysOk (V.tab_cons laws_eqSig.ok V.tab_nil)) Try.func23 (by kernel_rfl) (by kernel_rfl) (by kernel_rfl) (fun x y h => (show V.evBody laws_eqSigS.E laws_eqSigS.con Try.f23 x = _ from laws_eqSigS.eq x.1 x.2).trans h)
noncomputable abbrev laws_FnExactIsConfirmed.con : V.Con := ⟨(.cons (.sl (.cons (.int .i64) .nil)) (.cons (.int .i64) (.cons (.int .i64) (.cons (.int .i64) (.cons (.int .i64) (.cons (.int .i64) (.cons (.int .i64) (.cons (.int .i64) (.cons (.int .i64) (.cons (.int .i64) (.cons (.sl (.cons (.int .i64) .nil)) (.cons (.int .i64) (.cons (.sl (.cons (.int .i64) .nil)) (.cons (.int .i64) (.cons (.int .i64) (.cons (.sl (.cons (.int .i64) .nil)) (.cons (.int .i64) (.cons .bool (.cons (.sl (.cons (.int .i64) (.cons (.int .i64) .nil))) .nil))))))))))))))))))), (.cons .bool .nil), fun (x : List Int × Int × Int × Int × Int × Int × Int × Int × Int × Int × List Int × Int × List Int × Int × Int × List Int × Int × Bool × List TSig) => laws_FnExactIsConfirmed (x.1, x.2.1) (x.2.2.1, x.2.2.2.1, x.2.2.2.2.1, x.2.2.2.2.2.1, x.2.2.2.2.2.2.1, x.2.2.2.2.2.2.2.1, x.2.2.2.2.2.2.2.2.1, x.2.2.2.2.2.2.2.2.2.1, x.2.2.2.2.2.2.2.2.2.2.1, x.2.2.2.2.2.2.2.2.2.2.2.1, x.2.2.2.2.2.2.2.2.2.2.2.2.1, x.2.2.2.2.2.2.2.2.2.2.2.2.2.1, x.2.2.2.2.2.2.2.2.2.2.2.2.2.2.1, x.2.2.2.2.2.2.2.2.2.2.2.2.2.2.2.1, x.2.2.2.2.2.2.2.2.2.2.2.2.2.2.2.2.1, x.2.2.2.2.2.2.2.2.2.2.2.2.2.2.2.2.2.1) x.2.2.2.2.2.2.2.2.2.2.2.2.2.2.2.2.2.2, [], [(true, 2), (true, 16), (false, 1)], [(false, 1)], [false], []⟩
noncomputable abbrev laws_FnExactIsConfirmed.E : V.Env := V.mkE V.tys [(13, laws_szKeys.con), (14, laws_szHead.con), (15, laws_szSigS.con), (17, laws_toKeys.con), (18, laws_toHead.con), (19, laws_toSigS.con), (21, laws_eqKeys.con), (22, laws_eqHead.con), (23, laws_eqSigS.con), (24, spec_IsConfirmed.con), (25, impl_IsConfirmed.con)] [] [(11, 5), (18, 3), (20, 3)] [] []
noncomputable abbrev laws_FnExactIsConfirmed.kt (x0 : TKeys) (x1 : THead) (x2 : List TSig) : V.Kt Bool := V.ktOf laws_FnExactIsConfirmed.E laws_FnExactIsConfirmed.con Try.f4 ((x0.1, x0.2, x1.1, x1.2.1, x1.2.2.1, x1.2.2.2.1, x1.2.2.2.2.1, x1.2.2.2.2.2.1, x1.2.2.2.2.2.2.1, x1.2.2.2.2.2.2.2.1, x1.2.2.2.2.2.2.2.2.1, x1.2.2.2.2.2.2.2.2.2.1, x1.2.2.2.2.2.2.2.2.2.2.1, x1.2.2.2.2.2.2.2.2.2.2.2.1, x1.2.2.2.2.2.2.2.2.2.2.2.2.1, x1.2.2.2.2.2.2.2.2.2.2.2.2.2.1, x1.2.2.2.2.2.2.2.2.2.2.2.2.2.2.1, x1.2.2.2.2.2.2.2.2.2.2.2.2.2.2.2, x2) : List Int × Int × Int × Int × Int × Int × Int × Int × Int × Int × List Int × Int × List Int × Int × Int × List Int × Int × Bool × List TSig)
theorem laws_FnExactIsConfirmed.eq (x0 : TKeys) (x1 : THead) (x2 : List TSig) : V.evBody laws_FnExactIsConfirmed.E laws_FnExactIsConfirmed.con Try.f4 ((x0.1, x0.2, x1.1, x1.2.1, x1.2.2.1, x1.2.2.2.1, x1.2.2.2.2.1, x1.2.2.2.2.2.1, x1.2.2.2.2.2.2.1, x1.2.2.2.2.2.2.2.1, x1.2.2.2.2.2.2.2.2.1, x1.2.2.2.2.2.2.2.2.2.1, x1.2.2.2.2.2.2.2.2.2.2.1, x1.2.2.2.2.2.2.2.2.2.2.2.1, x1.2.2.2.2.2.2.2.2.2.2.2.2.1, x1.2.2.2.2.2.2.2.2.2.2.2.2.2.1, x1.2.2.2.2.2.2.2.2.2.2.2.2.2.2.1, x1.2.2.2.2.2.2.2.2.2.2.2.2.2.2.2, x2) : List Int × Int × Int × Int × Int × Int × Int × Int × Int × Int × List Int × Int × List Int × Int × Int × List Int × Int × Bool × List TSig) = laws_FnExactIsConfirmed x0 x1 x2 := by kernel_rfl
theorem laws_FnExactIsConfirmed.ok : V.Valid Try.prog 4 laws_FnExactIsConfirmed.con :=
  V.body_ok (V.env_ok V.mixed V.tysOk (V.tab_cons laws_szKeys.ok (V.tab_cons laws_szHead.ok (V.tab_cons laws_szSigS.ok (V.tab_cons laws_toKeys.ok (V.tab_cons laws_toHead.ok (V.tab_cons laws_toSigS.ok (V.tab_cons laws_eqKeys.ok (V.tab_cons laws_eqHead.ok (V.tab_cons laws_eqSigS.ok (V.tab_cons spec_IsConfirmed.ok (V.tab_cons impl_IsConfirmed.ok V.tab_nil)))))))))))) Try.func4 (by kernel_rfl) (by kernel_rfl) (by kernel_rfl) (fun x y h => (show V.evBody laws_FnExactIsConfirmed.E laws_FnExactIsConfirmed.con Try.f4 x = _ from laws_FnExactIsConfirmed.eq (x.1, x.2.1) (x.2.2.1, x.2.2.2.1, x.2.2.2.2.1, x.2.2.2.2.2.1, x.2.2.2.2.2.2.1, x.2.2.2.2.2.2.2.1, x.2.2.2.2.2.2.2.2.1, x.2.2.2.2.2.2.2.2.2.1, x.2.2.2.2.2.2.2.2.2.2.1, x.2.2.2.2.2.2.2.2.2.2.2.1, x.2.2.2.2.2.2.2.2.2.2.2.2.1, x.2.2.2.2.2.2.2.2.2.2.2.2.2.1, x.2.2.2.2.2.2.2.2.2.2.2.2.2.2.1, x.2.2.2.2.2.2.2.2.2.2.2.2.2.2.2.1, x.2.2.2.2.2.2.2.2.2.2.2.2.2.2.2.2.1, x.2.2.2.2.2.2.2.2.2.2.2.2.2.2.2.2.2.1) x.2.2.2.2.2.2.2.2.2.2.2.2.2.2.2.2.2.2).trans h)
end Go.Proofs.Ytdfchkmfamnocaa
