/- That the functions compute it. -/
import Derived.Test.YtpioofmdambjoaaGreatXNewZonePure0
import Derived.Test.YtpioofmdambjoaaGreatProg
namespace Go.Proofs.YtpioofmdambjoaaGreat
set_option linter.unusedVariables false
set_option maxRecDepth 100000
namespace V
abbrev eEntry : ETy := (.cons .str (.cons (.int .i64) (.cons (.int .i64) (.cons (.sl (.cons .str .nil)) .nil))))
abbrev eHead : ETy := (.cons (.int .i64) (.cons (.int .i64) (.cons (.int .i64) (.cons (.int .i64) (.cons (.int .i64) (.cons (.int .i64) (.cons (.int .i64) (.cons (.int .i64) (.cons (.sl (.cons (.int .i64) .nil)) (.cons (.int .i64) (.cons (.sl (.cons (.int .i64) .nil)) (.cons (.int .i64) (.cons (.int .i64) (.cons (.sl (.cons (.int .i64) .nil)) (.cons (.int .i64) (.cons .bool .nil))))))))))))))))
abbrev eRHeadBool : ETy := (.cons (.int .i64) (.cons (.int .i64) (.cons (.int .i64) (.cons (.int .i64) (.cons (.int .i64) (.cons (.int .i64) (.cons (.int .i64) (.cons (.int .i64) (.cons (.sl (.cons (.int .i64) .nil)) (.cons (.int .i64) (.cons (.sl (.cons (.int .i64) .nil)) (.cons (.int .i64) (.cons (.int .i64) (.cons (.sl (.cons (.int .i64) .nil)) (.cons (.int .i64) (.cons .bool (.cons .bool .nil)))))))))))))))))
abbrev eSigned : ETy := (.cons (.int .i64) (.cons (.int .i64) (.cons (.int .i64) (.cons (.int .i64) (.cons (.int .i64) (.cons (.int .i64) (.cons (.int .i64) (.cons (.int .i64) (.cons (.sl (.cons (.int .i64) .nil)) (.cons (.int .i64) (.cons (.sl (.cons (.int .i64) .nil)) (.cons (.int .i64) (.cons (.int .i64) (.cons (.sl (.cons (.int .i64) .nil)) (.cons (.int .i64) (.cons .bool (.cons (.sl (.cons (.int .i64) (.cons (.int .i64) .nil))) .nil)))))))))))))))))
abbrev D0 : Type := Int × Int × Int × Int × Int × Int × Int × Int × List Int × Int × List Int × Int × Int × List Int × Int × Bool
abbrev A0 : ETy := eHead
abbrev fl0 (x0 : THead) : D0 := (x0.1, x0.2.1, x0.2.2.1, x0.2.2.2.1, x0.2.2.2.2.1, x0.2.2.2.2.2.1, x0.2.2.2.2.2.2.1, x0.2.2.2.2.2.2.2.1, x0.2.2.2.2.2.2.2.2.1, x0.2.2.2.2.2.2.2.2.2.1, x0.2.2.2.2.2.2.2.2.2.2.1, x0.2.2.2.2.2.2.2.2.2.2.2.1, x0.2.2.2.2.2.2.2.2.2.2.2.2.1, x0.2.2.2.2.2.2.2.2.2.2.2.2.2.1, x0.2.2.2.2.2.2.2.2.2.2.2.2.2.2.1, x0.2.2.2.2.2.2.2.2.2.2.2.2.2.2.2)
abbrev p0_0 (x : D0) : THead := x
abbrev D1 : Type := List Int × List Int × Int × Int × Int × Int × Int × Int × Int × Int × Int × List Int × Int × List Int × Int × Int × List Int × Int × Bool
abbrev A1 : ETy := (.cons (.sl (.cons (.int .i64) .nil)) (.cons (.sl (.cons (.int .i64) .nil)) (.cons (.int .i64) (.cons (.int .i64) (.cons (.int .i64) (.cons (.int .i64) (.cons (.int .i64) (.cons (.int .i64) (.cons (.int .i64) (.cons (.int .i64) (.cons (.int .i64) (.cons (.sl (.cons (.int .i64) .nil)) (.cons (.int .i64) (.cons (.sl (.cons (.int .i64) .nil)) (.cons (.int .i64) (.cons (.int .i64) (.cons (.sl (.cons (.int .i64) .nil)) (.cons (.int .i64) (.cons .bool .nil)))))))))))))))))))
abbrev fl1 (x0 : List Int) (x1 : TKeys) (x2 : THead) : D1 := (x0, x1.1, x1.2, x2.1, x2.2.1, x2.2.2.1, x2.2.2.2.1, x2.2.2.2.2.1, x2.2.2.2.2.2.1, x2.2.2.2.2.2.2.1, x2.2.2.2.2.2.2.2.1, x2.2.2.2.2.2.2.2.2.1, x2.2.2.2.2.2.2.2.2.2.1, x2.2.2.2.2.2.2.2.2.2.2.1, x2.2.2.2.2.2.2.2.2.2.2.2.1, x2.2.2.2.2.2.2.2.2.2.2.2.2.1, x2.2.2.2.2.2.2.2.2.2.2.2.2.2.1, x2.2.2.2.2.2.2.2.2.2.2.2.2.2.2.1, x2.2.2.2.2.2.2.2.2.2.2.2.2.2.2.2)
abbrev p1_0 (x : D1) : List Int := x.1
abbrev p1_1 (x : D1) : TKeys := (x.2.1, x.2.2.1)
abbrev p1_2 (x : D1) : THead := x.2.2.2
abbrev D2 : Type := Int × Int × Int × Int × Int × Int × Int × Int × List Int × Int × List Int × Int × Int × List Int × Int × Bool × Int × Int × Int × Int × Int × Int × Int × Int × List Int × Int × List Int × Int × Int × List Int × Int × Bool
abbrev A2 : ETy := (.cons (.int .i64) (.cons (.int .i64) (.cons (.int .i64) (.cons (.int .i64) (.cons (.int .i64) (.cons (.int .i64) (.cons (.int .i64) (.cons (.int .i64) (.cons (.sl (.cons (.int .i64) .nil)) (.cons (.int .i64) (.cons (.sl (.cons (.int .i64) .nil)) (.cons (.int .i64) (.cons (.int .i64) (.cons (.sl (.cons (.int .i64) .nil)) (.cons (.int .i64) (.cons .bool (.cons (.int .i64) (.cons (.int .i64) (.cons (.int .i64) (.cons (.int .i64) (.cons (.int .i64) (.cons (.int .i64) (.cons (.int .i64) (.cons (.int .i64) (.cons (.sl (.cons (.int .i64) .nil)) (.cons (.int .i64) (.cons (.sl (.cons (.int .i64) .nil)) (.cons (.int .i64) (.cons (.int .i64) (.cons (.sl (.cons (.int .i64) .nil)) (.cons (.int .i64) (.cons .bool .nil))))))))))))))))))))))))))))))))
abbrev fl2 (x0 : THead) (x1 : THead) : D2 := (x0.1, x0.2.1, x0.2.2.1, x0.2.2.2.1, x0.2.2.2.2.1, x0.2.2.2.2.2.1, x0.2.2.2.2.2.2.1, x0.2.2.2.2.2.2.2.1, x0.2.2.2.2.2.2.2.2.1, x0.2.2.2.2.2.2.2.2.2.1, x0.2.2.2.2.2.2.2.2.2.2.1, x0.2.2.2.2.2.2.2.2.2.2.2.1, x0.2.2.2.2.2.2.2.2.2.2.2.2.1, x0.2.2.2.2.2.2.2.2.2.2.2.2.2.1, x0.2.2.2.2.2.2.2.2.2.2.2.2.2.2.1, x0.2.2.2.2.2.2.2.2.2.2.2.2.2.2.2, x1.1, x1.2.1, x1.2.2.1, x1.2.2.2.1, x1.2.2.2.2.1, x1.2.2.2.2.2.1, x1.2.2.2.2.2.2.1, x1.2.2.2.2.2.2.2.1, x1.2.2.2.2.2.2.2.2.1, x1.2.2.2.2.2.2.2.2.2.1, x1.2.2.2.2.2.2.2.2.2.2.1, x1.2.2.2.2.2.2.2.2.2.2.2.1, x1.2.2.2.2.2.2.2.2.2.2.2.2.1, x1.2.2.2.2.2.2.2.2.2.2.2.2.2.1, x1.2.2.2.2.2.2.2.2.2.2.2.2.2.2.1, x1.2.2.2.2.2.2.2.2.2.2.2.2.2.2.2)
abbrev p2_0 (x : D2) : THead := (x.1, x.2.1, x.2.2.1, x.2.2.2.1, x.2.2.2.2.1, x.2.2.2.2.2.1, x.2.2.2.2.2.2.1, x.2.2.2.2.2.2.2.1, x.2.2.2.2.2.2.2.2.1, x.2.2.2.2.2.2.2.2.2.1, x.2.2.2.2.2.2.2.2.2.2.1, x.2.2.2.2.2.2.2.2.2.2.2.1, x.2.2.2.2.2.2.2.2.2.2.2.2.1, x.2.2.2.2.2.2.2.2.2.2.2.2.2.1, x.2.2.2.2.2.2.2.2.2.2.2.2.2.2.1, x.2.2.2.2.2.2.2.2.2.2.2.2.2.2.2.1)
abbrev p2_1 (x : D2) : THead := x.2.2.2.2.2.2.2.2.2.2.2.2.2.2.2.2
abbrev D3 : Type := Int × Int × Int × Int × Int × Int × Int × Int × List Int × Int × List Int × Int × Int × List Int × Int × Bool × List TSig × Int × Int × Int × Int × Int × Int × Int × Int × List Int × Int × List Int × Int × Int × List Int × Int × Bool × List TSig
abbrev A3 : ETy := (.cons (.int .i64) (.cons (.int .i64) (.cons (.int .i64) (.cons (.int .i64) (.cons (.int .i64) (.cons (.int .i64) (.cons (.int .i64) (.cons (.int .i64) (.cons (.sl (.cons (.int .i64) .nil)) (.cons (.int .i64) (.cons (.sl (.cons (.int .i64) .nil)) (.cons (.int .i64) (.cons (.int .i64) (.cons (.sl (.cons (.int .i64) .nil)) (.cons (.int .i64) (.cons .bool (.cons (.sl (.cons (.int .i64) (.cons (.int .i64) .nil))) (.cons (.int .i64) (.cons (.int .i64) (.cons (.int .i64) (.cons (.int .i64) (.cons (.int .i64) (.cons (.int .i64) (.cons (.int .i64) (.cons (.int .i64) (.cons (.sl (.cons (.int .i64) .nil)) (.cons (.int .i64) (.cons (.sl (.cons (.int .i64) .nil)) (.cons (.int .i64) (.cons (.int .i64) (.cons (.sl (.cons (.int .i64) .nil)) (.cons (.int .i64) (.cons .bool (.cons (.sl (.cons (.int .i64) (.cons (.int .i64) .nil))) .nil))))))))))))))))))))))))))))))))))
abbrev fl3 (x0 : TSigned) (x1 : TSigned) : D3 := (x0.1, x0.2.1, x0.2.2.1, x0.2.2.2.1, x0.2.2.2.2.1, x0.2.2.2.2.2.1, x0.2.2.2.2.2.2.1, x0.2.2.2.2.2.2.2.1, x0.2.2.2.2.2.2.2.2.1, x0.2.2.2.2.2.2.2.2.2.1, x0.2.2.2.2.2.2.2.2.2.2.1, x0.2.2.2.2.2.2.2.2.2.2.2.1, x0.2.2.2.2.2.2.2.2.2.2.2.2.1, x0.2.2.2.2.2.2.2.2.2.2.2.2.2.1, x0.2.2.2.2.2.2.2.2.2.2.2.2.2.2.1, x0.2.2.2.2.2.2.2.2.2.2.2.2.2.2.2.1, x0.2.2.2.2.2.2.2.2.2.2.2.2.2.2.2.2, x1.1, x1.2.1, x1.2.2.1, x1.2.2.2.1, x1.2.2.2.2.1, x1.2.2.2.2.2.1, x1.2.2.2.2.2.2.1, x1.2.2.2.2.2.2.2.1, x1.2.2.2.2.2.2.2.2.1, x1.2.2.2.2.2.2.2.2.2.1, x1.2.2.2.2.2.2.2.2.2.2.1, x1.2.2.2.2.2.2.2.2.2.2.2.1, x1.2.2.2.2.2.2.2.2.2.2.2.2.1, x1.2.2.2.2.2.2.2.2.2.2.2.2.2.1, x1.2.2.2.2.2.2.2.2.2.2.2.2.2.2.1, x1.2.2.2.2.2.2.2.2.2.2.2.2.2.2.2.1, x1.2.2.2.2.2.2.2.2.2.2.2.2.2.2.2.2)
abbrev p3_0 (x : D3) : TSigned := (x.1, x.2.1, x.2.2.1, x.2.2.2.1, x.2.2.2.2.1, x.2.2.2.2.2.1, x.2.2.2.2.2.2.1, x.2.2.2.2.2.2.2.1, x.2.2.2.2.2.2.2.2.1, x.2.2.2.2.2.2.2.2.2.1, x.2.2.2.2.2.2.2.2.2.2.1, x.2.2.2.2.2.2.2.2.2.2.2.1, x.2.2.2.2.2.2.2.2.2.2.2.2.1, x.2.2.2.2.2.2.2.2.2.2.2.2.2.1, x.2.2.2.2.2.2.2.2.2.2.2.2.2.2.1, x.2.2.2.2.2.2.2.2.2.2.2.2.2.2.2.1, x.2.2.2.2.2.2.2.2.2.2.2.2.2.2.2.2.1)
abbrev p3_1 (x : D3) : TSigned := x.2.2.2.2.2.2.2.2.2.2.2.2.2.2.2.2.2
abbrev tys : List (Nat × TI) := [(3, ⟨.int .i64, false, [.val (.int .i64 (0 : Int))], 8, [], (.cons (.int .i64) .nil)⟩),
  (4, ⟨.bool, false, [.val (.bool false)], 1, [], (.cons .bool .nil)⟩),
  (5, ⟨.int .u8, false, [.val (.int .u8 (0 : Int))], 1, [], (.cons (.int .u8) .nil)⟩),
  (9, ⟨.str, false, [.val (.str (⟨#[]⟩ : ByteArray))], 16, [], (.cons .str .nil)⟩),
  (22, ⟨.sl 3, false, [.nil0], 24, [], (.cons (.sl (.cons (.int .i64) .nil)) .nil)⟩),
  (24, ⟨.st, false, [.nil0, .val (.int .i64 (0 : Int))], 32, [(0, 1, false), (1, 1, false)], (.cons (.sl (.cons (.int .i64) .nil)) (.cons (.int .i64) .nil))⟩),
  (27, ⟨.sl 108, false, [.nil0], 24, [], (.cons (.sl V.eEntry) .nil)⟩),
  (30, ⟨.st, false, [.nil0, .val (.int .i64 (0 : Int))], 32, [(0, 1, false), (1, 1, false)], (.cons (.sl (.cons (.int .i64) .nil)) (.cons (.int .i64) .nil))⟩),
  (32, ⟨.st, false, [.val (.int .i64 (0 : Int)), .val (.int .i64 (0 : Int)), .val (.int .i64 (0 : Int)), .val (.int .i64 (0 : Int)), .val (.int .i64 (0 : Int)), .val (.int .i64 (0 : Int)), .val (.int .i64 (0 : Int)), .val (.int .i64 (0 : Int)), .nil0, .val (.int .i64 (0 : Int)), .nil0, .val (.int .i64 (0 : Int)), .val (.int .i64 (0 : Int)), .nil0, .val (.int .i64 (0 : Int)), .val (.bool false)], 176, [(0, 1, false), (1, 1, false), (2, 1, false), (3, 1, false), (4, 1, false), (5, 1, false), (6, 1, false), (7, 1, false), (8, 2, true), (10, 2, true), (12, 1, false), (13, 2, true), (15, 1, false)], V.eHead⟩),
  (36, ⟨.sl 117, false, [.nil0], 24, [], (.cons (.sl V.eEntry) .nil)⟩),
  (45, ⟨.sl 67, false, [.nil0], 24, [], (.cons (.sl (.cons (.int .i64) (.cons (.int .i64) .nil))) .nil)⟩),
  (47, ⟨.st, false, [.val (.int .i64 (0 : Int)), .val (.int .i64 (0 : Int)), .val (.int .i64 (0 : Int)), .val (.int .i64 (0 : Int)), .val (.int .i64 (0 : Int)), .val (.int .i64 (0 : Int)), .val (.int .i64 (0 : Int)), .val (.int .i64 (0 : Int)), .nil0, .val (.int .i64 (0 : Int)), .nil0, .val (.int .i64 (0 : Int)), .val (.int .i64 (0 : Int)), .nil0, .val (.int .i64 (0 : Int)), .val (.bool false), .nil0], 200, [(0, 16, true), (16, 1, false)], V.eSigned⟩),
  (52, ⟨.sl 47, false, [.nil0], 24, [], (.cons (.sl V.eSigned) .nil)⟩),
  (67, ⟨.st, true, [.val (.int .i64 (0 : Int)), .val (.int .i64 (0 : Int))], 16, [(0, 1, false), (1, 1, false)], (.cons (.int .i64) (.cons (.int .i64) .nil))⟩),
  (80, ⟨.st, false, [.nil0, .nil0], 48, [(0, 1, false), (1, 1, false)], (.cons (.sl V.eSigned) (.cons (.sl V.eEntry) .nil))⟩),
  (106, ⟨.sl 9, false, [.nil0], 24, [], (.cons (.sl (.cons .str .nil)) .nil)⟩),
  (108, ⟨.st, false, [.val (.str (⟨#[]⟩ : ByteArray)), .val (.int .i64 (0 : Int)), .val (.int .i64 (0 : Int)), .nil0], 56, [(0, 1, false), (1, 1, false), (2, 1, false), (3, 1, false)], V.eEntry⟩),
  (117, ⟨.st, false, [.val (.str (⟨#[]⟩ : ByteArray)), .val (.int .i64 (0 : Int)), .val (.int .i64 (0 : Int)), .nil0], 56, [(0, 1, false), (1, 1, false), (2, 1, false), (3, 1, false)], V.eEntry⟩),
  (216, ⟨.sl 5, false, [.nil0], 24, [], (.cons (.sl (.cons (.int .u8) .nil)) .nil)⟩),
  (261, ⟨.sl 22, false, [.nil0], 24, [], (.cons (.sl (.cons (.sl (.cons (.int .i64) .nil)) .nil)) .nil)⟩)]
theorem tysOk : tyAll Tryz.prog tys = true := by kernel_rfl
theorem mixed : Tryz.prog.follows .mixedOrders = true := by kernel_rfl
theorem cfl {α : Type} {a b c : α} (e : a = b) (h : a = c) : b = c := e.symm.trans h
theorem fo {g : Nat} {fn : Func} {con : Con} {tab : List (Nat × Con)} {heads : List (Nat × List Nat × Cv)} {pre : List (Nat × Nat)} {shallow : List Nat} {movs flts : List (Nat × List Nat)} (h : TabOk Tryz.prog tab) (hf : Tryz.prog.funcs[g]? = some fn) (hq : (!(fn.name == "runtime.NumGoroutine") && (!fn.body.isNone && conOk con fn.ntmps)) = true) (hev : ∀ x y, con.f x = some y → evBody (mkE tys tab heads pre shallow movs flts) con fn x = some y) : Valid Tryz.prog g con := by
  simp only [Bool.and_eq_true, Bool.not_eq_true'] at hq
  exact body_ok (env_ok mixed tysOk h) hf hq.1 hq.2.1 hq.2.2 hev
theorem fo2 {g : Nat} {fn : Func} {con : Con} {tab tab2 : List (Nat × Con)} {sites : List Nat} {heads : List (Nat × List Nat × Cv)} {pre : List (Nat × Nat)} {shallow : List Nat} {movs flts : List (Nat × List Nat)} (h : TabOk Tryz.prog tab) (h2 : TabOk Tryz.prog tab2) (hf : Tryz.prog.funcs[g]? = some fn) (hq : (!(fn.name == "runtime.NumGoroutine") && (!fn.body.isNone && conOk con fn.ntmps)) = true) (hev : ∀ x y, con.f x = some y → evBody (mkE2 tys tab sites tab2 heads pre shallow movs flts) con fn x = some y) : Valid Tryz.prog g con := by
  simp only [Bool.and_eq_true, Bool.not_eq_true'] at hq
  exact body_ok (env_ok2 mixed tysOk h h2) hf hq.1 hq.2.1 hq.2.2 hev
end V
noncomputable abbrev laws_szIntS.con : V.Con := ⟨(.cons (.sl (.cons (.int .i64) .nil)) (.cons (.int .i64) .nil)), (.cons (.int .i64) .nil), fun (x : List Int × Int) => laws_szIntS x.1 x.2, [], [(false, 1), (false, 1)], [(false, 1)], [false], []⟩
noncomputable abbrev laws_szIntS.E : V.Env := V.mkE V.tys [] [] [] [] [] []
theorem laws_szIntS.eq (x0 : List Int) (x1 : Int) : V.evBody laws_szIntS.E laws_szIntS.con Tryz.f137 ((x0, x1) : List Int × Int) = laws_szIntS x0 x1 := by kernel_rfl
theorem laws_szIntS.ok : V.Valid Tryz.prog 137 laws_szIntS.con :=
  V.fo V.tab_nil Tryz.func137 (by kernel_rfl) (fun x y h => (show V.evBody laws_szIntS.E laws_szIntS.con Tryz.f137 x = _ from laws_szIntS.eq x.1 x.2).trans (V.cfl (by kernel_rfl) h))
noncomputable abbrev laws_szKeys.con : V.Con := ⟨(.cons (.sl (.cons (.int .i64) .nil)) (.cons (.int .i64) (.cons (.int .i64) .nil))), (.cons (.int .i64) .nil), fun (x : List Int × Int × Int) => laws_szKeys (x.1, x.2.1) x.2.2, [], [(true, 2), (false, 1)], [(false, 1)], [false], []⟩
noncomputable abbrev laws_szKeys.E : V.Env := V.mkE V.tys [(137, laws_szIntS.con)] [] [] [] [] []
theorem laws_szKeys.eq (x0 : TKeys) (x1 : Int) : V.evBody laws_szKeys.E laws_szKeys.con Tryz.f50 ((x0.1, x0.2, x1) : List Int × Int × Int) = laws_szKeys x0 x1 := by kernel_rfl
theorem laws_szKeys.ok : V.Valid Tryz.prog 50 laws_szKeys.con :=
  V.fo (V.tab_cons laws_szIntS.ok V.tab_nil) Tryz.func50 (by kernel_rfl) (fun x y h => (show V.evBody laws_szKeys.E laws_szKeys.con Tryz.f50 x = _ from laws_szKeys.eq (x.1, x.2.1) x.2.2).trans (V.cfl (by kernel_rfl) h))
noncomputable abbrev laws_szStringS.con : V.Con := ⟨(.cons (.sl (.cons .str .nil)) (.cons (.int .i64) .nil)), (.cons (.int .i64) .nil), fun (x : List ByteArray × Int) => laws_szStringS x.1 x.2, [], [(false, 1), (false, 1)], [(false, 1)], [false], []⟩
noncomputable abbrev laws_szStringS.E : V.Env := V.mkE V.tys [] [(10, [0, 1, 5], [])] [] [] [] []
noncomputable abbrev laws_szStringS.kt (x0 : List ByteArray) (x1 : Int) : V.Kt Int := V.ktOf laws_szStringS.E laws_szStringS.con Tryz.f182 ((x0, x1) : List ByteArray × Int)
noncomputable abbrev laws_szStringS.s10 (x0 : List ByteArray) (v10_1 : Int) (v10_2 : Int) : V.St := ⟨[(0, .v false [.val (.sl (.cons .str .nil) x0)]), (1, .v false [.val (.int .i64 v10_1)]), (5, .v false [.val (.int .i64 v10_2)])], []⟩
theorem laws_szStringS.r10 (x0 : List ByteArray) (x1 : Int) (R : V.St → Option Int) (v10_1 : Int) (v10_2 : Int) : V.loopF laws_szStringS.E Tryz.f182.ntmps [1, 1, 1, 0, 1, 0] [] (V.codeOf Tryz.f182) (laws_szStringS.kt x0 x1) R (laws_szStringS.s10 x0 v10_1 v10_2) = laws_szStringS.g10 x0 (fun v10_1 v10_2 => R (laws_szStringS.s10 x0 v10_1 v10_2)) v10_1 v10_2 := by kernel_rfl
theorem laws_szStringS.e10 (x0 : List ByteArray) (x1 : Int) : ∀ (n : Nat) (v10_1 : Int) (v10_2 : Int), V.loopN (V.loopF laws_szStringS.E Tryz.f182.ntmps [1, 1, 1, 0, 1, 0] [] (V.codeOf Tryz.f182) (laws_szStringS.kt x0 x1)) n (laws_szStringS.s10 x0 v10_1 v10_2) = laws_szStringS.l10 x0 n v10_1 v10_2 := by
  intro n
  induction n with
  | zero => intros; rw [V.loopN_z]; rfl
  | succ n ih =>
    intro v10_1 v10_2
    rw [V.loopN_s, laws_szStringS.r10]
    simp only [ih]
    first | exact (laws_szStringS.u10 ..).symm | rfl
theorem laws_szStringS.v (x0 : List ByteArray) (x1 : Int) : V.evBody laws_szStringS.E laws_szStringS.con Tryz.f182 ((x0, x1) : List ByteArray × Int) = laws_szStringS.b x0 x1 (fun v10_1 v10_2 => V.loopN (V.loopF laws_szStringS.E Tryz.f182.ntmps [1, 1, 1, 0, 1, 0] [] (V.codeOf Tryz.f182) (laws_szStringS.kt x0 x1)) V.KK (laws_szStringS.s10 x0 v10_1 v10_2)) := by kernel_rfl
theorem laws_szStringS.eq (x0 : List ByteArray) (x1 : Int) : V.evBody laws_szStringS.E laws_szStringS.con Tryz.f182 ((x0, x1) : List ByteArray × Int) = laws_szStringS x0 x1 := by
  rw [laws_szStringS.v]
  simp only [laws_szStringS.e10]
  rfl
theorem laws_szStringS.ok : V.Valid Tryz.prog 182 laws_szStringS.con :=
  V.fo V.tab_nil Tryz.func182 (by kernel_rfl) (fun x y h => (show V.evBody laws_szStringS.E laws_szStringS.con Tryz.f182 x = _ from laws_szStringS.eq x.1 x.2).trans (V.cfl (by kernel_rfl) h))
noncomputable abbrev laws_szEntry.con : V.Con := ⟨(.cons .str (.cons (.int .i64) (.cons (.int .i64) (.cons (.sl (.cons .str .nil)) (.cons (.int .i64) .nil))))), (.cons (.int .i64) .nil), fun (x : ByteArray × Int × Int × List ByteArray × Int) => laws_szEntry (x.1, x.2.1, x.2.2.1, x.2.2.2.1) x.2.2.2.2, [], [(true, 4), (false, 1)], [(false, 1)], [false], []⟩
noncomputable abbrev laws_szEntry.E : V.Env := V.mkE V.tys [(182, laws_szStringS.con)] [] [] [] [] []
theorem laws_szEntry.eq (x0 : TEntry) (x1 : Int) : V.evBody laws_szEntry.E laws_szEntry.con Tryz.f85 ((x0.1, x0.2.1, x0.2.2.1, x0.2.2.2, x1) : ByteArray × Int × Int × List ByteArray × Int) = laws_szEntry x0 x1 := by kernel_rfl
theorem laws_szEntry.ok : V.Valid Tryz.prog 85 laws_szEntry.con :=
  V.fo (V.tab_cons laws_szStringS.ok V.tab_nil) Tryz.func85 (by kernel_rfl) (fun x y h => (show V.evBody laws_szEntry.E laws_szEntry.con Tryz.f85 x = _ from laws_szEntry.eq (x.1, x.2.1, x.2.2.1, x.2.2.2.1) x.2.2.2.2).trans (V.cfl (by kernel_rfl) h))
noncomputable abbrev laws_szEntryS.con : V.Con := ⟨(.cons (.sl V.eEntry) (.cons (.int .i64) .nil)), (.cons (.int .i64) .nil), fun (x : List TEntry × Int) => laws_szEntryS x.1 x.2, [], [(false, 1), (false, 1)], [(false, 1)], [false], []⟩
noncomputable abbrev laws_szEntryS.E : V.Env := V.mkE V.tys [(85, laws_szEntry.con)] [(10, [0, 1, 5], [])] [] [] [] []
noncomputable abbrev laws_szEntryS.kt (x0 : List TEntry) (x1 : Int) : V.Kt Int := V.ktOf laws_szEntryS.E laws_szEntryS.con Tryz.f16 ((x0, x1) : List TEntry × Int)
noncomputable abbrev laws_szEntryS.s10 (x0 : List TEntry) (v10_1 : Int) (v10_2 : Int) : V.St := ⟨[(0, .v false [.val (.sl V.eEntry x0)]), (1, .v false [.val (.int .i64 v10_1)]), (5, .v false [.val (.int .i64 v10_2)])], []⟩
theorem laws_szEntryS.r10 (x0 : List TEntry) (x1 : Int) (R : V.St → Option Int) (v10_1 : Int) (v10_2 : Int) : V.loopF laws_szEntryS.E Tryz.f16.ntmps [1, 1, 1, 0, 1, 0] [] (V.codeOf Tryz.f16) (laws_szEntryS.kt x0 x1) R (laws_szEntryS.s10 x0 v10_1 v10_2) = laws_szEntryS.g10 x0 (fun v10_1 v10_2 => R (laws_szEntryS.s10 x0 v10_1 v10_2)) v10_1 v10_2 := by kernel_rfl
theorem laws_szEntryS.e10 (x0 : List TEntry) (x1 : Int) : ∀ (n : Nat) (v10_1 : Int) (v10_2 : Int), V.loopN (V.loopF laws_szEntryS.E Tryz.f16.ntmps [1, 1, 1, 0, 1, 0] [] (V.codeOf Tryz.f16) (laws_szEntryS.kt x0 x1)) n (laws_szEntryS.s10 x0 v10_1 v10_2) = laws_szEntryS.l10 x0 n v10_1 v10_2 := by
  intro n
  induction n with
  | zero => intros; rw [V.loopN_z]; rfl
  | succ n ih =>
    intro v10_1 v10_2
    rw [V.loopN_s, laws_szEntryS.r10]
    simp only [ih]
    first | exact (laws_szEntryS.u10 ..).symm | rfl
theorem laws_szEntryS.v (x0 : List TEntry) (x1 : Int) : V.evBody laws_szEntryS.E laws_szEntryS.con Tryz.f16 ((x0, x1) : List TEntry × Int) = laws_szEntryS.b x0 x1 (fun v10_1 v10_2 => V.loopN (V.loopF laws_szEntryS.E Tryz.f16.ntmps [1, 1, 1, 0, 1, 0] [] (V.codeOf Tryz.f16) (laws_szEntryS.kt x0 x1)) V.KK (laws_szEntryS.s10 x0 v10_1 v10_2)) := by kernel_rfl
theorem laws_szEntryS.eq (x0 : List TEntry) (x1 : Int) : V.evBody laws_szEntryS.E laws_szEntryS.con Tryz.f16 ((x0, x1) : List TEntry × Int) = laws_szEntryS x0 x1 := by
  rw [laws_szEntryS.v]
  simp only [laws_szEntryS.e10]
  rfl
theorem laws_szEntryS.ok : V.Valid Tryz.prog 16 laws_szEntryS.con :=
  V.fo (V.tab_cons laws_szEntry.ok V.tab_nil) Tryz.func16 (by kernel_rfl) (fun x y h => (show V.evBody laws_szEntryS.E laws_szEntryS.con Tryz.f16 x = _ from laws_szEntryS.eq x.1 x.2).trans (V.cfl (by kernel_rfl) h))
noncomputable abbrev laws_toIntS.con : V.Con := ⟨(.cons (.sl (.cons (.int .i64) .nil)) .nil), (.cons (.sl (.cons (.int .i64) .nil)) .nil), fun (x : List Int) => laws_toIntS x, [], [(false, 1)], [(false, 1)], [true], []⟩
noncomputable abbrev laws_toIntS.E : V.Env := V.mkE V.tys [] [(6, [0, 3, 4], [])] [] [] [] []
noncomputable abbrev laws_toIntS.kt (x0 : List Int) : V.Kt (List Int) := V.ktOf laws_toIntS.E laws_toIntS.con Tryz.f77 ((x0) : List Int)
noncomputable abbrev laws_toIntS.s6 (x0 : List Int) (v6_1 : Int) (v6_2 : List Int) : V.St := ⟨[(0, .v false [.val (.sl (.cons (.int .i64) .nil) x0)]), (3, .v false [.ref 64000038400192]), (4, .v false [.val (.int .i64 v6_1)])], [(64000038400192, .row (.cons (.int .i64) .nil) true v6_2)]⟩
theorem laws_toIntS.r6 (x0 : List Int) (R : V.St → Option (List Int)) (v6_1 : Int) (v6_2 : List Int) : V.loopF laws_toIntS.E Tryz.f77.ntmps [1, 1, 0, 1, 0] [] (V.codeOf Tryz.f77) (laws_toIntS.kt x0) R (laws_toIntS.s6 x0 v6_1 v6_2) = laws_toIntS.g6 x0 (fun v6_1 v6_2 => R (laws_toIntS.s6 x0 v6_1 v6_2)) v6_1 v6_2 := by kernel_rfl
theorem laws_toIntS.e6 (x0 : List Int) : ∀ (n : Nat) (v6_1 : Int) (v6_2 : List Int), V.loopN (V.loopF laws_toIntS.E Tryz.f77.ntmps [1, 1, 0, 1, 0] [] (V.codeOf Tryz.f77) (laws_toIntS.kt x0)) n (laws_toIntS.s6 x0 v6_1 v6_2) = laws_toIntS.l6 x0 n v6_1 v6_2 := by
  intro n
  induction n with
  | zero => intros; rw [V.loopN_z]; rfl
  | succ n ih =>
    intro v6_1 v6_2
    rw [V.loopN_s, laws_toIntS.r6]
    simp only [ih]
    first | exact (laws_toIntS.u6 ..).symm | rfl
theorem laws_toIntS.v (x0 : List Int) : V.evBody laws_toIntS.E laws_toIntS.con Tryz.f77 ((x0) : List Int) = laws_toIntS.b x0 (fun v6_1 v6_2 => V.loopN (V.loopF laws_toIntS.E Tryz.f77.ntmps [1, 1, 0, 1, 0] [] (V.codeOf Tryz.f77) (laws_toIntS.kt x0)) V.KK (laws_toIntS.s6 x0 v6_1 v6_2)) := by kernel_rfl
theorem laws_toIntS.eq (x0 : List Int) : V.evBody laws_toIntS.E laws_toIntS.con Tryz.f77 ((x0) : List Int) = laws_toIntS x0 := by
  rw [laws_toIntS.v]
  simp only [laws_toIntS.e6]
  rfl
theorem laws_toIntS.ok : V.Valid Tryz.prog 77 laws_toIntS.con :=
  V.fo V.tab_nil Tryz.func77 (by kernel_rfl) (fun x y h => (show V.evBody laws_toIntS.E laws_toIntS.con Tryz.f77 x = _ from laws_toIntS.eq x).trans (V.cfl (by kernel_rfl) h))
noncomputable abbrev laws_toKeys.con : V.Con := ⟨(.cons (.sl (.cons (.int .i64) .nil)) (.cons (.int .i64) .nil)), (.cons (.sl (.cons (.int .i64) .nil)) (.cons (.int .i64) .nil)), fun (x : List Int × Int) => laws_toKeys x, [], [(true, 2)], [(true, 2)], [true, false], []⟩
noncomputable abbrev laws_toKeys.E : V.Env := V.mkE V.tys [(77, laws_toIntS.con)] [] [] [] [] []
theorem laws_toKeys.eq (x0 : TKeys) : V.evBody laws_toKeys.E laws_toKeys.con Tryz.f52 ((x0.1, x0.2) : List Int × Int) = laws_toKeys x0 := by kernel_rfl
theorem laws_toKeys.ok : V.Valid Tryz.prog 52 laws_toKeys.con :=
  V.fo (V.tab_cons laws_toIntS.ok V.tab_nil) Tryz.func52 (by kernel_rfl) (fun x y h => (show V.evBody laws_toKeys.E laws_toKeys.con Tryz.f52 x = _ from laws_toKeys.eq x).trans (V.cfl (by kernel_rfl) h))
noncomputable abbrev laws_toStringS.con : V.Con := ⟨(.cons (.sl (.cons .str .nil)) .nil), (.cons (.sl (.cons .str .nil)) .nil), fun (x : List ByteArray) => laws_toStringS x, [], [(false, 1)], [(false, 1)], [true], []⟩
noncomputable abbrev laws_toStringS.E : V.Env := V.mkE V.tys [] [(6, [0, 3, 4], [])] [] [] [] []
noncomputable abbrev laws_toStringS.kt (x0 : List ByteArray) : V.Kt (List ByteArray) := V.ktOf laws_toStringS.E laws_toStringS.con Tryz.f191 ((x0) : List ByteArray)
noncomputable abbrev laws_toStringS.s6 (x0 : List ByteArray) (v6_1 : Int) (v6_2 : List ByteArray) : V.St := ⟨[(0, .v false [.val (.sl (.cons .str .nil) x0)]), (3, .v false [.ref 64000038400192]), (4, .v false [.val (.int .i64 v6_1)])], [(64000038400192, .row (.cons .str .nil) true v6_2)]⟩
theorem laws_toStringS.r6 (x0 : List ByteArray) (R : V.St → Option (List ByteArray)) (v6_1 : Int) (v6_2 : List ByteArray) : V.loopF laws_toStringS.E Tryz.f191.ntmps [1, 1, 0, 1, 0] [] (V.codeOf Tryz.f191) (laws_toStringS.kt x0) R (laws_toStringS.s6 x0 v6_1 v6_2) = laws_toStringS.g6 x0 (fun v6_1 v6_2 => R (laws_toStringS.s6 x0 v6_1 v6_2)) v6_1 v6_2 := by kernel_rfl
theorem laws_toStringS.e6 (x0 : List ByteArray) : ∀ (n : Nat) (v6_1 : Int) (v6_2 : List ByteArray), V.loopN (V.loopF laws_toStringS.E Tryz.f191.ntmps [1, 1, 0, 1, 0] [] (V.codeOf Tryz.f191) (laws_toStringS.kt x0)) n (laws_toStringS.s6 x0 v6_1 v6_2) = laws_toStringS.l6 x0 n v6_1 v6_2 := by
  intro n
  induction n with
  | zero => intros; rw [V.loopN_z]; rfl
  | succ n ih =>
    intro v6_1 v6_2
    rw [V.loopN_s, laws_toStringS.r6]
    simp only [ih]
    first | exact (laws_toStringS.u6 ..).symm | rfl
theorem laws_toStringS.v (x0 : List ByteArray) : V.evBody laws_toStringS.E laws_toStringS.con Tryz.f191 ((x0) : List ByteArray) = laws_toStringS.b x0 (fun v6_1 v6_2 => V.loopN (V.loopF laws_toStringS.E Tryz.f191.ntmps [1, 1, 0, 1, 0] [] (V.codeOf Tryz.f191) (laws_toStringS.kt x0)) V.KK (laws_toStringS.s6 x0 v6_1 v6_2)) := by kernel_rfl
theorem laws_toStringS.eq (x0 : List ByteArray) : V.evBody laws_toStringS.E laws_toStringS.con Tryz.f191 ((x0) : List ByteArray) = laws_toStringS x0 := by
  rw [laws_toStringS.v]
  simp only [laws_toStringS.e6]
  rfl
theorem laws_toStringS.ok : V.Valid Tryz.prog 191 laws_toStringS.con :=
  V.fo V.tab_nil Tryz.func191 (by kernel_rfl) (fun x y h => (show V.evBody laws_toStringS.E laws_toStringS.con Tryz.f191 x = _ from laws_toStringS.eq x).trans (V.cfl (by kernel_rfl) h))
noncomputable abbrev laws_toEntry.con : V.Con := ⟨V.eEntry, V.eEntry, fun (x : ByteArray × Int × Int × List ByteArray) => laws_toEntry x, [], [(true, 4)], [(true, 4)], [false, false, false, true], []⟩
noncomputable abbrev laws_toEntry.E : V.Env := V.mkE V.tys [(191, laws_toStringS.con)] [] [] [] [] []
theorem laws_toEntry.eq (x0 : TEntry) : V.evBody laws_toEntry.E laws_toEntry.con Tryz.f90 ((x0.1, x0.2.1, x0.2.2.1, x0.2.2.2) : ByteArray × Int × Int × List ByteArray) = laws_toEntry x0 := by kernel_rfl
theorem laws_toEntry.ok : V.Valid Tryz.prog 90 laws_toEntry.con :=
  V.fo (V.tab_cons laws_toStringS.ok V.tab_nil) Tryz.func90 (by kernel_rfl) (fun x y h => (show V.evBody laws_toEntry.E laws_toEntry.con Tryz.f90 x = _ from laws_toEntry.eq x).trans (V.cfl (by kernel_rfl) h))
noncomputable abbrev laws_toEntryS.con : V.Con := ⟨(.cons (.sl V.eEntry) .nil), (.cons (.sl V.eEntry) .nil), fun (x : List TEntry) => laws_toEntryS x, [], [(false, 1)], [(false, 1)], [true], []⟩
noncomputable abbrev laws_toEntryS.E : V.Env := V.mkE V.tys [(90, laws_toEntry.con)] [(6, [0, 3, 4], [])] [] [] [] []
noncomputable abbrev laws_toEntryS.kt (x0 : List TEntry) : V.Kt (List TEntry) := V.ktOf laws_toEntryS.E laws_toEntryS.con Tryz.f19 ((x0) : List TEntry)
noncomputable abbrev laws_toEntryS.s6 (x0 : List TEntry) (v6_1 : Int) (v6_2 : List TEntry) : V.St := ⟨[(0, .v false [.val (.sl V.eEntry x0)]), (3, .v false [.ref 64000038400192]), (4, .v false [.val (.int .i64 v6_1)])], [(64000038400192, .row V.eEntry true v6_2)]⟩
theorem laws_toEntryS.r6 (x0 : List TEntry) (R : V.St → Option (List TEntry)) (v6_1 : Int) (v6_2 : List TEntry) : V.loopF laws_toEntryS.E Tryz.f19.ntmps [1, 1, 0, 1, 0] [] (V.codeOf Tryz.f19) (laws_toEntryS.kt x0) R (laws_toEntryS.s6 x0 v6_1 v6_2) = laws_toEntryS.g6 x0 (fun v6_1 v6_2 => R (laws_toEntryS.s6 x0 v6_1 v6_2)) v6_1 v6_2 := by kernel_rfl
theorem laws_toEntryS.e6 (x0 : List TEntry) : ∀ (n : Nat) (v6_1 : Int) (v6_2 : List TEntry), V.loopN (V.loopF laws_toEntryS.E Tryz.f19.ntmps [1, 1, 0, 1, 0] [] (V.codeOf Tryz.f19) (laws_toEntryS.kt x0)) n (laws_toEntryS.s6 x0 v6_1 v6_2) = laws_toEntryS.l6 x0 n v6_1 v6_2 := by
  intro n
  induction n with
  | zero => intros; rw [V.loopN_z]; rfl
  | succ n ih =>
    intro v6_1 v6_2
    rw [V.loopN_s, laws_toEntryS.r6]
    simp only [ih]
    first | exact (laws_toEntryS.u6 ..).symm | rfl
theorem laws_toEntryS.v (x0 : List TEntry) : V.evBody laws_toEntryS.E laws_toEntryS.con Tryz.f19 ((x0) : List TEntry) = laws_toEntryS.b x0 (fun v6_1 v6_2 => V.loopN (V.loopF laws_toEntryS.E Tryz.f19.ntmps [1, 1, 0, 1, 0] [] (V.codeOf Tryz.f19) (laws_toEntryS.kt x0)) V.KK (laws_toEntryS.s6 x0 v6_1 v6_2)) := by kernel_rfl
theorem laws_toEntryS.eq (x0 : List TEntry) : V.evBody laws_toEntryS.E laws_toEntryS.con Tryz.f19 ((x0) : List TEntry) = laws_toEntryS x0 := by
  rw [laws_toEntryS.v]
  simp only [laws_toEntryS.e6]
  rfl
theorem laws_toEntryS.ok : V.Valid Tryz.prog 19 laws_toEntryS.con :=
  V.fo (V.tab_cons laws_toEntry.ok V.tab_nil) Tryz.func19 (by kernel_rfl) (fun x y h => (show V.evBody laws_toEntryS.E laws_toEntryS.con Tryz.f19 x = _ from laws_toEntryS.eq x).trans (V.cfl (by kernel_rfl) h))
noncomputable abbrev spec_l1In.con : V.Con := ⟨(.cons (.int .i64) (.cons (.int .i64) (.cons (.int .i64) .nil))), (.cons .bool .nil), fun (x : Int × Int × Int) => spec_l1In x.1 x.2.1 x.2.2, [], [(false, 1), (false, 1), (false, 1)], [(false, 1)], [false], []⟩
noncomputable abbrev spec_l1In.E : V.Env := V.mkE V.tys [] [] [] [] [] []
theorem spec_l1In.eq (x0 : Int) (x1 : Int) (x2 : Int) : V.evBody spec_l1In.E spec_l1In.con Tryz.f147 ((x0, x1, x2) : Int × Int × Int) = spec_l1In x0 x1 x2 := by kernel_rfl
theorem spec_l1In.ok : V.Valid Tryz.prog 147 spec_l1In.con :=
  V.fo V.tab_nil Tryz.func147 (by kernel_rfl) (fun x y h => (show V.evBody spec_l1In.E spec_l1In.con Tryz.f147 x = _ from spec_l1In.eq x.1 x.2.1 x.2.2).trans (V.cfl (by kernel_rfl) h))
noncomputable abbrev spec_IsLabel.con : V.Con := ⟨(.cons .str .nil), (.cons .bool .nil), fun (x : ByteArray) => spec_IsLabel x, [], [(false, 1)], [(false, 1)], [false], []⟩
noncomputable abbrev spec_IsLabel.E : V.Env := V.mkE V.tys [(147, spec_l1In.con)] [(7, [0], []), (8, [0, 3], [])] [] [] [] []
noncomputable abbrev spec_IsLabel.kt (x0 : ByteArray) : V.Kt Bool := V.ktOf spec_IsLabel.E spec_IsLabel.con Tryz.f248 ((x0) : ByteArray)
noncomputable abbrev spec_IsLabel.s8 (x0 : ByteArray) (v8_1 : Int) : V.St := ⟨[(0, .v false [.val (.str x0)]), (3, .v false [.val (.int .i64 v8_1)])], []⟩
noncomputable abbrev spec_IsLabel.s7 (x0 : ByteArray) : V.St := ⟨[(0, .v false [.val (.str x0)])], []⟩
theorem spec_IsLabel.r8 (x0 : ByteArray) (R : V.St → Option Bool) (v8_1 : Int) : V.loopF spec_IsLabel.E Tryz.f248.ntmps [1, 1, 0, 1, 0] [] (V.codeOf Tryz.f248) (spec_IsLabel.kt x0) R (spec_IsLabel.s8 x0 v8_1) = spec_IsLabel.g8 x0 (fun v8_1 => R (spec_IsLabel.s8 x0 v8_1)) v8_1 := by kernel_rfl
theorem spec_IsLabel.e8 (x0 : ByteArray) : ∀ (n : Nat) (v8_1 : Int), V.loopN (V.loopF spec_IsLabel.E Tryz.f248.ntmps [1, 1, 0, 1, 0] [] (V.codeOf Tryz.f248) (spec_IsLabel.kt x0)) n (spec_IsLabel.s8 x0 v8_1) = spec_IsLabel.l8 x0 n v8_1 := by
  intro n
  induction n with
  | zero => intros; rw [V.loopN_z]; rfl
  | succ n ih =>
    intro v8_1
    rw [V.loopN_s, spec_IsLabel.r8]
    simp only [ih]
    first | exact (spec_IsLabel.u8 ..).symm | rfl
theorem spec_IsLabel.r7 (x0 : ByteArray) : V.normK 7 ([0], []) (V.joinF spec_IsLabel.E Tryz.f248.ntmps [1] [] (V.codeOf Tryz.f248) (spec_IsLabel.kt x0)) (spec_IsLabel.s7 x0) = spec_IsLabel.g7 x0 (fun v8_1 => V.loopN (V.loopF spec_IsLabel.E Tryz.f248.ntmps [1, 1, 0, 1, 0] [] (V.codeOf Tryz.f248) (spec_IsLabel.kt x0)) V.KK (spec_IsLabel.s8 x0 v8_1)) := by kernel_rfl
theorem spec_IsLabel.e7 (x0 : ByteArray) : V.normK 7 ([0], []) (V.joinF spec_IsLabel.E Tryz.f248.ntmps [1] [] (V.codeOf Tryz.f248) (spec_IsLabel.kt x0)) (spec_IsLabel.s7 x0) = spec_IsLabel.l7 x0 := by
  rw [spec_IsLabel.r7]
  simp only [spec_IsLabel.e8]
  rfl
theorem spec_IsLabel.v (x0 : ByteArray) : V.evBody spec_IsLabel.E spec_IsLabel.con Tryz.f248 ((x0) : ByteArray) = spec_IsLabel.b x0 (V.normK 7 ([0], []) (V.joinF spec_IsLabel.E Tryz.f248.ntmps [1] [] (V.codeOf Tryz.f248) (spec_IsLabel.kt x0)) (spec_IsLabel.s7 x0)) := by kernel_rfl
theorem spec_IsLabel.eq (x0 : ByteArray) : V.evBody spec_IsLabel.E spec_IsLabel.con Tryz.f248 ((x0) : ByteArray) = spec_IsLabel x0 := by
  rw [spec_IsLabel.v]
  simp only [spec_IsLabel.e7]
  rfl
theorem spec_IsLabel.ok : V.Valid Tryz.prog 248 spec_IsLabel.con :=
  V.fo (V.tab_cons spec_l1In.ok V.tab_nil) Tryz.func248 (by kernel_rfl) (fun x y h => (show V.evBody spec_IsLabel.E spec_IsLabel.con Tryz.f248 x = _ from spec_IsLabel.eq x).trans (V.cfl (by kernel_rfl) h))
noncomputable abbrev spec_IsPath.con : V.Con := ⟨(.cons (.sl (.cons .str .nil)) .nil), (.cons .bool .nil), fun (x : List ByteArray) => spec_IsPath x, [], [(false, 1)], [(false, 1)], [false], []⟩
noncomputable abbrev spec_IsPath.E : V.Env := V.mkE V.tys [(147, spec_l1In.con), (248, spec_IsLabel.con)] [(4, [0, 3], [])] [] [] [] []
noncomputable abbrev spec_IsPath.kt (x0 : List ByteArray) : V.Kt Bool := V.ktOf spec_IsPath.E spec_IsPath.con Tryz.f249 ((x0) : List ByteArray)
noncomputable abbrev spec_IsPath.s4 (x0 : List ByteArray) (v4_1 : Int) : V.St := ⟨[(0, .v false [.val (.sl (.cons .str .nil) x0)]), (3, .v false [.val (.int .i64 v4_1)])], []⟩
theorem spec_IsPath.r4 (x0 : List ByteArray) (R : V.St → Option Bool) (v4_1 : Int) : V.loopF spec_IsPath.E Tryz.f249.ntmps [1, 0, 1, 0] [] (V.codeOf Tryz.f249) (spec_IsPath.kt x0) R (spec_IsPath.s4 x0 v4_1) = spec_IsPath.g4 x0 (fun v4_1 => R (spec_IsPath.s4 x0 v4_1)) v4_1 := by kernel_rfl
theorem spec_IsPath.e4 (x0 : List ByteArray) : ∀ (n : Nat) (v4_1 : Int), V.loopN (V.loopF spec_IsPath.E Tryz.f249.ntmps [1, 0, 1, 0] [] (V.codeOf Tryz.f249) (spec_IsPath.kt x0)) n (spec_IsPath.s4 x0 v4_1) = spec_IsPath.l4 x0 n v4_1 := by
  intro n
  induction n with
  | zero => intros; rw [V.loopN_z]; rfl
  | succ n ih =>
    intro v4_1
    rw [V.loopN_s, spec_IsPath.r4]
    simp only [ih]
    first | exact (spec_IsPath.u4 ..).symm | rfl
theorem spec_IsPath.v (x0 : List ByteArray) : V.evBody spec_IsPath.E spec_IsPath.con Tryz.f249 ((x0) : List ByteArray) = spec_IsPath.b x0 (fun v4_1 => V.loopN (V.loopF spec_IsPath.E Tryz.f249.ntmps [1, 0, 1, 0] [] (V.codeOf Tryz.f249) (spec_IsPath.kt x0)) V.KK (spec_IsPath.s4 x0 v4_1)) := by kernel_rfl
theorem spec_IsPath.eq (x0 : List ByteArray) : V.evBody spec_IsPath.E spec_IsPath.con Tryz.f249 ((x0) : List ByteArray) = spec_IsPath x0 := by
  rw [spec_IsPath.v]
  simp only [spec_IsPath.e4]
  rfl
theorem spec_IsPath.ok : V.Valid Tryz.prog 249 spec_IsPath.con :=
  V.fo (V.tab_cons spec_l1In.ok (V.tab_cons spec_IsLabel.ok V.tab_nil)) Tryz.func249 (by kernel_rfl) (fun x y h => (show V.evBody spec_IsPath.E spec_IsPath.con Tryz.f249 x = _ from spec_IsPath.eq x).trans (V.cfl (by kernel_rfl) h))
noncomputable abbrev spec_IsEntry.con : V.Con := ⟨V.eEntry, (.cons .bool .nil), fun (x : ByteArray × Int × Int × List ByteArray) => spec_IsEntry x, [], [(true, 4)], [(false, 1)], [false], []⟩
noncomputable abbrev spec_IsEntry.E : V.Env := V.mkE V.tys [(147, spec_l1In.con), (248, spec_IsLabel.con), (249, spec_IsPath.con)] [] [] [] [] []
theorem spec_IsEntry.eq (x0 : TEntry) : V.evBody spec_IsEntry.E spec_IsEntry.con Tryz.f186 ((x0.1, x0.2.1, x0.2.2.1, x0.2.2.2) : ByteArray × Int × Int × List ByteArray) = spec_IsEntry x0 := by kernel_rfl
theorem spec_IsEntry.ok : V.Valid Tryz.prog 186 spec_IsEntry.con :=
  V.fo (V.tab_cons spec_l1In.ok (V.tab_cons spec_IsLabel.ok (V.tab_cons spec_IsPath.ok V.tab_nil))) Tryz.func186 (by kernel_rfl) (fun x y h => (show V.evBody spec_IsEntry.E spec_IsEntry.con Tryz.f186 x = _ from spec_IsEntry.eq x).trans (V.cfl (by kernel_rfl) h))
noncomputable abbrev spec_CompareLabels.con : V.Con := ⟨(.cons .str (.cons .str .nil)), (.cons (.int .i64) .nil), fun (x : ByteArray × ByteArray) => spec_CompareLabels x.1 x.2, [], [(false, 1), (false, 1)], [(false, 1)], [false], []⟩
noncomputable abbrev spec_CompareLabels.E : V.Env := V.mkE V.tys [] [] [] [] [] []
theorem spec_CompareLabels.eq (x0 : ByteArray) (x1 : ByteArray) : V.evBody spec_CompareLabels.E spec_CompareLabels.con Tryz.f187 ((x0, x1) : ByteArray × ByteArray) = spec_CompareLabels x0 x1 := by kernel_rfl
theorem spec_CompareLabels.ok : V.Valid Tryz.prog 187 spec_CompareLabels.con :=
  V.fo V.tab_nil Tryz.func187 (by kernel_rfl) (fun x y h => (show V.evBody spec_CompareLabels.E spec_CompareLabels.con Tryz.f187 x = _ from spec_CompareLabels.eq x.1 x.2).trans (V.cfl (by kernel_rfl) h))
noncomputable abbrev spec_AreEntries.con : V.Con := ⟨(.cons (.sl V.eEntry) .nil), (.cons .bool .nil), fun (x : List TEntry) => spec_AreEntries x, [], [(false, 1)], [(false, 1)], [false], []⟩
noncomputable abbrev spec_AreEntries.E : V.Env := V.mkE V.tys [(186, spec_IsEntry.con), (187, spec_CompareLabels.con)] [(4, [0, 3], [])] [(4, 21)] [] [] []
noncomputable abbrev spec_AreEntries.kt (x0 : List TEntry) : V.Kt Bool := V.ktOf spec_AreEntries.E spec_AreEntries.con Tryz.f87 ((x0) : List TEntry)
noncomputable abbrev spec_AreEntries.s4 (x0 : List TEntry) (v4_1 : Int) : V.St := ⟨[(0, .v false [.val (.sl V.eEntry x0)]), (3, .v false [.val (.int .i64 v4_1)])], []⟩
theorem spec_AreEntries.r4 (x0 : List TEntry) (R : V.St → Option Bool) (v4_1 : Int) : V.loopF spec_AreEntries.E Tryz.f87.ntmps [1, 0, 1, 0] [] (V.codeOf Tryz.f87) (spec_AreEntries.kt x0) R (spec_AreEntries.s4 x0 v4_1) = spec_AreEntries.g4 x0 (fun v4_1 => R (spec_AreEntries.s4 x0 v4_1)) v4_1 := by kernel_rfl
theorem spec_AreEntries.e4 (x0 : List TEntry) : ∀ (n : Nat) (v4_1 : Int), V.loopN (V.loopF spec_AreEntries.E Tryz.f87.ntmps [1, 0, 1, 0] [] (V.codeOf Tryz.f87) (spec_AreEntries.kt x0)) n (spec_AreEntries.s4 x0 v4_1) = spec_AreEntries.l4 x0 n v4_1 := by
  intro n
  induction n with
  | zero => intros; rw [V.loopN_z]; rfl
  | succ n ih =>
    intro v4_1
    rw [V.loopN_s, spec_AreEntries.r4]
    simp only [ih]
    first | exact (spec_AreEntries.u4 ..).symm | rfl
theorem spec_AreEntries.v (x0 : List TEntry) : V.evBody spec_AreEntries.E spec_AreEntries.con Tryz.f87 ((x0) : List TEntry) = spec_AreEntries.b x0 (fun v4_1 => V.loopN (V.loopF spec_AreEntries.E Tryz.f87.ntmps [1, 0, 1, 0] [] (V.codeOf Tryz.f87) (spec_AreEntries.kt x0)) V.KK (spec_AreEntries.s4 x0 v4_1)) := by kernel_rfl
theorem spec_AreEntries.eq (x0 : List TEntry) : V.evBody spec_AreEntries.E spec_AreEntries.con Tryz.f87 ((x0) : List TEntry) = spec_AreEntries x0 := by
  rw [spec_AreEntries.v]
  simp only [spec_AreEntries.e4]
  rfl
theorem spec_AreEntries.ok : V.Valid Tryz.prog 87 spec_AreEntries.con :=
  V.fo (V.tab_cons spec_IsEntry.ok (V.tab_cons spec_CompareLabels.ok V.tab_nil)) Tryz.func87 (by kernel_rfl) (fun x y h => (show V.evBody spec_AreEntries.E spec_AreEntries.con Tryz.f87 x = _ from spec_AreEntries.eq x).trans (V.cfl (by kernel_rfl) h))
noncomputable abbrev spec_KeysInts.con : V.Con := ⟨(.cons (.sl (.cons (.int .i64) .nil)) (.cons (.int .i64) .nil)), (.cons (.sl (.cons (.int .i64) .nil)) .nil), fun (x : List Int × Int) => spec_KeysInts x, [], [(true, 2)], [(false, 1)], [true], []⟩
noncomputable abbrev spec_KeysInts.E : V.Env := V.mkE V.tys [] [] [] [] [] []
theorem spec_KeysInts.eq (x0 : TKeys) : V.evBody spec_KeysInts.E spec_KeysInts.con Tryz.f266 ((x0.1, x0.2) : List Int × Int) = spec_KeysInts x0 := by kernel_rfl
theorem spec_KeysInts.ok : V.Valid Tryz.prog 266 spec_KeysInts.con :=
  V.fo V.tab_nil Tryz.func266 (by kernel_rfl) (fun x y h => (show V.evBody spec_KeysInts.E spec_KeysInts.con Tryz.f266 x = _ from spec_KeysInts.eq x).trans (V.cfl (by kernel_rfl) h))
noncomputable abbrev spec_Mod.con : V.Con := ⟨(.cons (.int .i64) (.cons (.int .i64) .nil)), (.cons (.int .i64) .nil), fun (x : Int × Int) => spec_Mod x.1 x.2, [], [(false, 1), (false, 1)], [(false, 1)], [false], []⟩
noncomputable abbrev spec_Mod.E : V.Env := V.mkE V.tys [(147, spec_l1In.con)] [] [] [] [] []
theorem spec_Mod.eq (x0 : Int) (x1 : Int) : V.evBody spec_Mod.E spec_Mod.con Tryz.f292 ((x0, x1) : Int × Int) = spec_Mod x0 x1 := by kernel_rfl
theorem spec_Mod.ok : V.Valid Tryz.prog 292 spec_Mod.con :=
  V.fo (V.tab_cons spec_l1In.ok V.tab_nil) Tryz.func292 (by kernel_rfl) (fun x y h => (show V.evBody spec_Mod.E spec_Mod.con Tryz.f292 x = _ from spec_Mod.eq x.1 x.2).trans (V.cfl (by kernel_rfl) h))
noncomputable abbrev spec_Hash.con : V.Con := ⟨(.cons (.sl (.cons (.int .i64) .nil)) .nil), (.cons (.int .i64) .nil), fun (x : List Int) => spec_Hash x, [], [(false, 1)], [(false, 1)], [false], []⟩
noncomputable abbrev spec_Hash.E : V.Env := V.mkE V.tys [(292, spec_Mod.con)] [(6, [0, 3, 4], [])] [] [] [] []
noncomputable abbrev spec_Hash.kt (x0 : List Int) : V.Kt Int := V.ktOf spec_Hash.E spec_Hash.con Tryz.f247 ((x0) : List Int)
noncomputable abbrev spec_Hash.s6 (x0 : List Int) (v6_1 : Int) (v6_2 : Int) : V.St := ⟨[(0, .v false [.val (.sl (.cons (.int .i64) .nil) x0)]), (3, .v false [.val (.int .i64 v6_1)]), (4, .v false [.val (.int .i64 v6_2)])], []⟩
theorem spec_Hash.r6 (x0 : List Int) (R : V.St → Option Int) (v6_1 : Int) (v6_2 : Int) : V.loopF spec_Hash.E Tryz.f247.ntmps [1, 1, 0, 1, 0] [] (V.codeOf Tryz.f247) (spec_Hash.kt x0) R (spec_Hash.s6 x0 v6_1 v6_2) = spec_Hash.g6 x0 (fun v6_1 v6_2 => R (spec_Hash.s6 x0 v6_1 v6_2)) v6_1 v6_2 := by kernel_rfl
theorem spec_Hash.e6 (x0 : List Int) : ∀ (n : Nat) (v6_1 : Int) (v6_2 : Int), V.loopN (V.loopF spec_Hash.E Tryz.f247.ntmps [1, 1, 0, 1, 0] [] (V.codeOf Tryz.f247) (spec_Hash.kt x0)) n (spec_Hash.s6 x0 v6_1 v6_2) = spec_Hash.l6 x0 n v6_1 v6_2 := by
  intro n
  induction n with
  | zero => intros; rw [V.loopN_z]; rfl
  | succ n ih =>
    intro v6_1 v6_2
    rw [V.loopN_s, spec_Hash.r6]
    simp only [ih]
    first | exact (spec_Hash.u6 ..).symm | rfl
theorem spec_Hash.v (x0 : List Int) : V.evBody spec_Hash.E spec_Hash.con Tryz.f247 ((x0) : List Int) = spec_Hash.b x0 (fun v6_1 v6_2 => V.loopN (V.loopF spec_Hash.E Tryz.f247.ntmps [1, 1, 0, 1, 0] [] (V.codeOf Tryz.f247) (spec_Hash.kt x0)) V.KK (spec_Hash.s6 x0 v6_1 v6_2)) := by kernel_rfl
theorem spec_Hash.eq (x0 : List Int) : V.evBody spec_Hash.E spec_Hash.con Tryz.f247 ((x0) : List Int) = spec_Hash x0 := by
  rw [spec_Hash.v]
  simp only [spec_Hash.e6]
  rfl
theorem spec_Hash.ok : V.Valid Tryz.prog 247 spec_Hash.con :=
  V.fo (V.tab_cons spec_Mod.ok V.tab_nil) Tryz.func247 (by kernel_rfl) (fun x y h => (show V.evBody spec_Hash.E spec_Hash.con Tryz.f247 x = _ from spec_Hash.eq x).trans (V.cfl (by kernel_rfl) h))
noncomputable abbrev spec_ZoneOf.con : V.Con := ⟨(.cons (.sl (.cons (.int .i64) .nil)) (.cons (.int .i64) (.cons (.int .i64) .nil))), (.cons (.int .i64) .nil), fun (x : List Int × Int × Int) => spec_ZoneOf (x.1, x.2.1) x.2.2, [], [(true, 2), (false, 1)], [(false, 1)], [false], []⟩
noncomputable abbrev spec_ZoneOf.E : V.Env := V.mkE V.tys [(247, spec_Hash.con), (266, spec_KeysInts.con)] [] [] [] [] []
theorem spec_ZoneOf.eq (x0 : TKeys) (x1 : Int) : V.evBody spec_ZoneOf.E spec_ZoneOf.con Tryz.f224 ((x0.1, x0.2, x1) : List Int × Int × Int) = spec_ZoneOf x0 x1 := by kernel_rfl
theorem spec_ZoneOf.ok : V.Valid Tryz.prog 224 spec_ZoneOf.con :=
  V.fo (V.tab_cons spec_Hash.ok (V.tab_cons spec_KeysInts.ok V.tab_nil)) Tryz.func224 (by kernel_rfl) (fun x y h => (show V.evBody spec_ZoneOf.E spec_ZoneOf.con Tryz.f224 x = _ from spec_ZoneOf.eq (x.1, x.2.1) x.2.2).trans (V.cfl (by kernel_rfl) h))
noncomputable abbrev spec_BytesToInts.con : V.Con := ⟨(.cons (.sl (.cons (.int .u8) .nil)) .nil), (.cons (.sl (.cons (.int .i64) .nil)) .nil), fun (x : List Int) => spec_BytesToInts x, [], [(false, 1)], [(false, 1)], [true], []⟩
noncomputable abbrev spec_BytesToInts.E : V.Env := V.mkE V.tys [] [(6, [0, 3, 4], [])] [] [] [] []
noncomputable abbrev spec_BytesToInts.kt (x0 : List Int) : V.Kt (List Int) := V.ktOf spec_BytesToInts.E spec_BytesToInts.con Tryz.f317 ((x0) : List Int)
noncomputable abbrev spec_BytesToInts.s6 (x0 : List Int) (v6_1 : Int) (v6_2 : List Int) : V.St := ⟨[(0, .v false [.val (.sl (.cons (.int .u8) .nil) x0)]), (3, .v false [.ref 64000038400192]), (4, .v false [.val (.int .i64 v6_1)])], [(64000038400192, .row (.cons (.int .i64) .nil) true v6_2)]⟩
theorem spec_BytesToInts.r6 (x0 : List Int) (R : V.St → Option (List Int)) (v6_1 : Int) (v6_2 : List Int) : V.loopF spec_BytesToInts.E Tryz.f317.ntmps [1, 1, 0, 1, 0] [] (V.codeOf Tryz.f317) (spec_BytesToInts.kt x0) R (spec_BytesToInts.s6 x0 v6_1 v6_2) = spec_BytesToInts.g6 x0 (fun v6_1 v6_2 => R (spec_BytesToInts.s6 x0 v6_1 v6_2)) v6_1 v6_2 := by kernel_rfl
theorem spec_BytesToInts.e6 (x0 : List Int) : ∀ (n : Nat) (v6_1 : Int) (v6_2 : List Int), V.loopN (V.loopF spec_BytesToInts.E Tryz.f317.ntmps [1, 1, 0, 1, 0] [] (V.codeOf Tryz.f317) (spec_BytesToInts.kt x0)) n (spec_BytesToInts.s6 x0 v6_1 v6_2) = spec_BytesToInts.l6 x0 n v6_1 v6_2 := by
  intro n
  induction n with
  | zero => intros; rw [V.loopN_z]; rfl
  | succ n ih =>
    intro v6_1 v6_2
    rw [V.loopN_s, spec_BytesToInts.r6]
    simp only [ih]
    first | exact (spec_BytesToInts.u6 ..).symm | rfl
theorem spec_BytesToInts.v (x0 : List Int) : V.evBody spec_BytesToInts.E spec_BytesToInts.con Tryz.f317 ((x0) : List Int) = spec_BytesToInts.b x0 (fun v6_1 v6_2 => V.loopN (V.loopF spec_BytesToInts.E Tryz.f317.ntmps [1, 1, 0, 1, 0] [] (V.codeOf Tryz.f317) (spec_BytesToInts.kt x0)) V.KK (spec_BytesToInts.s6 x0 v6_1 v6_2)) := by kernel_rfl
theorem spec_BytesToInts.eq (x0 : List Int) : V.evBody spec_BytesToInts.E spec_BytesToInts.con Tryz.f317 ((x0) : List Int) = spec_BytesToInts x0 := by
  rw [spec_BytesToInts.v]
  simp only [spec_BytesToInts.e6]
  rfl
theorem spec_BytesToInts.ok : V.Valid Tryz.prog 317 spec_BytesToInts.con :=
  V.fo V.tab_nil Tryz.func317 (by kernel_rfl) (fun x y h => (show V.evBody spec_BytesToInts.E spec_BytesToInts.con Tryz.f317 x = _ from spec_BytesToInts.eq x).trans (V.cfl (by kernel_rfl) h))
noncomputable abbrev spec_LabelInts.con : V.Con := ⟨(.cons .str .nil), (.cons (.sl (.cons (.int .i64) .nil)) .nil), fun (x : ByteArray) => spec_LabelInts x, [], [(false, 1)], [(false, 1)], [true], []⟩
noncomputable abbrev spec_LabelInts.E : V.Env := V.mkE V.tys [(317, spec_BytesToInts.con)] [] [] [] [] []
theorem spec_LabelInts.eq (x0 : ByteArray) : V.evBody spec_LabelInts.E spec_LabelInts.con Tryz.f311 ((x0) : ByteArray) = spec_LabelInts x0 := by kernel_rfl
theorem spec_LabelInts.ok : V.Valid Tryz.prog 311 spec_LabelInts.con :=
  V.fo (V.tab_cons spec_BytesToInts.ok V.tab_nil) Tryz.func311 (by kernel_rfl) (fun x y h => (show V.evBody spec_LabelInts.E spec_LabelInts.con Tryz.f311 x = _ from spec_LabelInts.eq x).trans (V.cfl (by kernel_rfl) h))
noncomputable abbrev spec_EntryInts.con : V.Con := ⟨V.eEntry, (.cons (.sl (.cons (.int .i64) .nil)) .nil), fun (x : ByteArray × Int × Int × List ByteArray) => spec_EntryInts x, [], [(true, 4)], [(false, 1)], [true], []⟩
noncomputable abbrev spec_EntryInts.E : V.Env := V.mkE V.tys [(311, spec_LabelInts.con)] [(6, [1, 3, 4], [])] [(1, 11)] [] [] []
noncomputable abbrev spec_EntryInts.kt (x0 : TEntry) : V.Kt (List Int) := V.ktOf spec_EntryInts.E spec_EntryInts.con Tryz.f294 ((x0.1, x0.2.1, x0.2.2.1, x0.2.2.2) : ByteArray × Int × Int × List ByteArray)
noncomputable abbrev spec_EntryInts.s6 (x0 : TEntry) (v6_0 : Int) (v6_5 : List Int) : V.St := ⟨[(1, .v false [.ptr 64000 0]), (3, .v false [.ref 64000038400192]), (4, .v false [.val (.int .i64 v6_0)])], [(64000, .box [.val (.str x0.1), .val (.int .i64 x0.2.1), .val (.int .i64 x0.2.2.1), .val (.sl (.cons .str .nil) x0.2.2.2)]), (64000038400192, .row (.cons (.int .i64) .nil) true v6_5)]⟩
theorem spec_EntryInts.r6 (x0 : TEntry) (R : V.St → Option (List Int)) (v6_0 : Int) (v6_5 : List Int) : V.loopF spec_EntryInts.E Tryz.f294.ntmps [1, 1, 0, 1, 0] [] (V.codeOf Tryz.f294) (spec_EntryInts.kt x0) R (spec_EntryInts.s6 x0 v6_0 v6_5) = spec_EntryInts.g6 x0 (fun v6_0 v6_5 => R (spec_EntryInts.s6 x0 v6_0 v6_5)) v6_0 v6_5 := by kernel_rfl
theorem spec_EntryInts.e6 (x0 : TEntry) : ∀ (n : Nat) (v6_0 : Int) (v6_5 : List Int), V.loopN (V.loopF spec_EntryInts.E Tryz.f294.ntmps [1, 1, 0, 1, 0] [] (V.codeOf Tryz.f294) (spec_EntryInts.kt x0)) n (spec_EntryInts.s6 x0 v6_0 v6_5) = spec_EntryInts.l6 x0 n v6_0 v6_5 := by
  intro n
  induction n with
  | zero => intros; rw [V.loopN_z]; rfl
  | succ n ih =>
    intro v6_0 v6_5
    rw [V.loopN_s, spec_EntryInts.r6]
    simp only [ih]
    first | exact (spec_EntryInts.u6 ..).symm | rfl
theorem spec_EntryInts.v (x0 : TEntry) : V.evBody spec_EntryInts.E spec_EntryInts.con Tryz.f294 ((x0.1, x0.2.1, x0.2.2.1, x0.2.2.2) : ByteArray × Int × Int × List ByteArray) = spec_EntryInts.b x0 (fun v6_0 v6_5 => V.loopN (V.loopF spec_EntryInts.E Tryz.f294.ntmps [1, 1, 0, 1, 0] [] (V.codeOf Tryz.f294) (spec_EntryInts.kt x0)) V.KK (spec_EntryInts.s6 x0 v6_0 v6_5)) := by kernel_rfl
theorem spec_EntryInts.eq (x0 : TEntry) : V.evBody spec_EntryInts.E spec_EntryInts.con Tryz.f294 ((x0.1, x0.2.1, x0.2.2.1, x0.2.2.2) : ByteArray × Int × Int × List ByteArray) = spec_EntryInts x0 := by
  rw [spec_EntryInts.v]
  simp only [spec_EntryInts.e6]
  rfl
theorem spec_EntryInts.ok : V.Valid Tryz.prog 294 spec_EntryInts.con :=
  V.fo (V.tab_cons spec_LabelInts.ok V.tab_nil) Tryz.func294 (by kernel_rfl) (fun x y h => (show V.evBody spec_EntryInts.E spec_EntryInts.con Tryz.f294 x = _ from spec_EntryInts.eq x).trans (V.cfl (by kernel_rfl) h))
noncomputable abbrev spec_LeafOf.con : V.Con := ⟨V.eEntry, (.cons (.int .i64) .nil), fun (x : ByteArray × Int × Int × List ByteArray) => spec_LeafOf x, [], [(true, 4)], [(false, 1)], [false], []⟩
noncomputable abbrev spec_LeafOf.E : V.Env := V.mkE V.tys [(247, spec_Hash.con), (294, spec_EntryInts.con)] [] [] [] [] []
theorem spec_LeafOf.eq (x0 : TEntry) : V.evBody spec_LeafOf.E spec_LeafOf.con Tryz.f251 ((x0.1, x0.2.1, x0.2.2.1, x0.2.2.2) : ByteArray × Int × Int × List ByteArray) = spec_LeafOf x0 := by kernel_rfl
theorem spec_LeafOf.ok : V.Valid Tryz.prog 251 spec_LeafOf.con :=
  V.fo (V.tab_cons spec_Hash.ok (V.tab_cons spec_EntryInts.ok V.tab_nil)) Tryz.func251 (by kernel_rfl) (fun x y h => (show V.evBody spec_LeafOf.E spec_LeafOf.con Tryz.f251 x = _ from spec_LeafOf.eq x).trans (V.cfl (by kernel_rfl) h))
noncomputable abbrev spec_LeavesOf.con : V.Con := ⟨(.cons (.sl V.eEntry) .nil), (.cons (.sl (.cons (.int .i64) .nil)) .nil), fun (x : List TEntry) => spec_LeavesOf x, [], [(false, 1)], [(false, 1)], [true], []⟩
noncomputable abbrev spec_LeavesOf.E : V.Env := V.mkE V.tys [(251, spec_LeafOf.con)] [(6, [0, 3, 4], [(64000038400192, (.cons (.int .i64) .nil), true)])] [] [] [] []
noncomputable abbrev spec_LeavesOf.kt (x0 : List TEntry) : V.Kt (List Int) := V.ktOf spec_LeavesOf.E spec_LeavesOf.con Tryz.f190 ((x0) : List TEntry)
noncomputable abbrev spec_LeavesOf.s6 (x0 : List TEntry) (v6_1 : Int) (v6_2 : List Int) : V.St := ⟨[(0, .v false [.val (.sl V.eEntry x0)]), (3, .v false [.ref 64000038400192]), (4, .v false [.val (.int .i64 v6_1)])], [(64000038400192, .row (.cons (.int .i64) .nil) true v6_2)]⟩
theorem spec_LeavesOf.r6 (x0 : List TEntry) (R : V.St → Option (List Int)) (v6_1 : Int) (v6_2 : List Int) : V.loopF spec_LeavesOf.E Tryz.f190.ntmps [1, 1, 0, 1, 0] [] (V.codeOf Tryz.f190) (spec_LeavesOf.kt x0) R (spec_LeavesOf.s6 x0 v6_1 v6_2) = spec_LeavesOf.g6 x0 (fun v6_1 v6_2 => R (spec_LeavesOf.s6 x0 v6_1 v6_2)) v6_1 v6_2 := by kernel_rfl
theorem spec_LeavesOf.e6 (x0 : List TEntry) : ∀ (n : Nat) (v6_1 : Int) (v6_2 : List Int), V.loopN (V.loopF spec_LeavesOf.E Tryz.f190.ntmps [1, 1, 0, 1, 0] [] (V.codeOf Tryz.f190) (spec_LeavesOf.kt x0)) n (spec_LeavesOf.s6 x0 v6_1 v6_2) = spec_LeavesOf.l6 x0 n v6_1 v6_2 := by
  intro n
  induction n with
  | zero => intros; rw [V.loopN_z]; rfl
  | succ n ih =>
    intro v6_1 v6_2
    rw [V.loopN_s, spec_LeavesOf.r6]
    simp only [ih]
    first | exact (spec_LeavesOf.u6 ..).symm | rfl
theorem spec_LeavesOf.v (x0 : List TEntry) : V.evBody spec_LeavesOf.E spec_LeavesOf.con Tryz.f190 ((x0) : List TEntry) = spec_LeavesOf.b x0 (fun v6_1 v6_2 => V.loopN (V.loopF spec_LeavesOf.E Tryz.f190.ntmps [1, 1, 0, 1, 0] [] (V.codeOf Tryz.f190) (spec_LeavesOf.kt x0)) V.KK (spec_LeavesOf.s6 x0 v6_1 v6_2)) := by kernel_rfl
theorem spec_LeavesOf.eq (x0 : List TEntry) : V.evBody spec_LeavesOf.E spec_LeavesOf.con Tryz.f190 ((x0) : List TEntry) = spec_LeavesOf x0 := by
  rw [spec_LeavesOf.v]
  simp only [spec_LeavesOf.e6]
  rfl
theorem spec_LeavesOf.ok : V.Valid Tryz.prog 190 spec_LeavesOf.con :=
  V.fo (V.tab_cons spec_LeafOf.ok V.tab_nil) Tryz.func190 (by kernel_rfl) (fun x y h => (show V.evBody spec_LeavesOf.E spec_LeavesOf.con Tryz.f190 x = _ from spec_LeavesOf.eq x).trans (V.cfl (by kernel_rfl) h))
noncomputable abbrev spec_NodeOf.con : V.Con := ⟨(.cons (.int .i64) (.cons (.int .i64) .nil)), (.cons (.int .i64) .nil), fun (x : Int × Int) => spec_NodeOf x.1 x.2, [], [(false, 1), (false, 1)], [(false, 1)], [false], []⟩
noncomputable abbrev spec_NodeOf.E : V.Env := V.mkE V.tys [(247, spec_Hash.con)] [] [] [] [] []
theorem spec_NodeOf.eq (x0 : Int) (x1 : Int) : V.evBody spec_NodeOf.E spec_NodeOf.con Tryz.f293 ((x0, x1) : Int × Int) = spec_NodeOf x0 x1 := by kernel_rfl
theorem spec_NodeOf.ok : V.Valid Tryz.prog 293 spec_NodeOf.con :=
  V.fo (V.tab_cons spec_Hash.ok V.tab_nil) Tryz.func293 (by kernel_rfl) (fun x y h => (show V.evBody spec_NodeOf.E spec_NodeOf.con Tryz.f293 x = _ from spec_NodeOf.eq x.1 x.2).trans (V.cfl (by kernel_rfl) h))
noncomputable abbrev spec_l10Up.con : V.Con := ⟨(.cons (.sl (.cons (.int .i64) .nil)) .nil), (.cons (.sl (.cons (.int .i64) .nil)) .nil), fun (x : List Int) => spec_l10Up x, [], [(false, 1)], [(false, 1)], [true], []⟩
noncomputable abbrev spec_l10Up.E : V.Env := V.mkE V.tys [(293, spec_NodeOf.con)] [(6, [0, 3, 4], [(64000038400192, (.cons (.int .i64) .nil), true)])] [(6, 12)] [] [] []
noncomputable abbrev spec_l10Up.kt (x0 : List Int) : V.Kt (List Int) := V.ktOf spec_l10Up.E spec_l10Up.con Tryz.f250 ((x0) : List Int)
noncomputable abbrev spec_l10Up.s6 (x0 : List Int) (v6_1 : Int) (v6_2 : List Int) : V.St := ⟨[(0, .v false [.val (.sl (.cons (.int .i64) .nil) x0)]), (3, .v false [.ref 64000038400192]), (4, .v false [.val (.int .i64 v6_1)])], [(64000038400192, .row (.cons (.int .i64) .nil) true v6_2)]⟩
theorem spec_l10Up.r6 (x0 : List Int) (R : V.St → Option (List Int)) (v6_1 : Int) (v6_2 : List Int) : V.loopF spec_l10Up.E Tryz.f250.ntmps [1, 1, 0, 1, 0] [] (V.codeOf Tryz.f250) (spec_l10Up.kt x0) R (spec_l10Up.s6 x0 v6_1 v6_2) = spec_l10Up.g6 x0 (fun v6_1 v6_2 => R (spec_l10Up.s6 x0 v6_1 v6_2)) v6_1 v6_2 := by kernel_rfl
theorem spec_l10Up.e6 (x0 : List Int) : ∀ (n : Nat) (v6_1 : Int) (v6_2 : List Int), V.loopN (V.loopF spec_l10Up.E Tryz.f250.ntmps [1, 1, 0, 1, 0] [] (V.codeOf Tryz.f250) (spec_l10Up.kt x0)) n (spec_l10Up.s6 x0 v6_1 v6_2) = spec_l10Up.l6 x0 n v6_1 v6_2 := by
  intro n
  induction n with
  | zero => intros; rw [V.loopN_z]; rfl
  | succ n ih =>
    intro v6_1 v6_2
    rw [V.loopN_s, spec_l10Up.r6]
    simp only [ih]
    first | exact (spec_l10Up.u6 ..).symm | rfl
theorem spec_l10Up.v (x0 : List Int) : V.evBody spec_l10Up.E spec_l10Up.con Tryz.f250 ((x0) : List Int) = spec_l10Up.b x0 (fun v6_1 v6_2 => V.loopN (V.loopF spec_l10Up.E Tryz.f250.ntmps [1, 1, 0, 1, 0] [] (V.codeOf Tryz.f250) (spec_l10Up.kt x0)) V.KK (spec_l10Up.s6 x0 v6_1 v6_2)) := by kernel_rfl
theorem spec_l10Up.eq (x0 : List Int) : V.evBody spec_l10Up.E spec_l10Up.con Tryz.f250 ((x0) : List Int) = spec_l10Up x0 := by
  rw [spec_l10Up.v]
  simp only [spec_l10Up.e6]
  rfl
theorem spec_l10Up.ok : V.Valid Tryz.prog 250 spec_l10Up.con :=
  V.fo (V.tab_cons spec_NodeOf.ok V.tab_nil) Tryz.func250 (by kernel_rfl) (fun x y h => (show V.evBody spec_l10Up.E spec_l10Up.con Tryz.f250 x = _ from spec_l10Up.eq x).trans (V.cfl (by kernel_rfl) h))
noncomputable abbrev spec_TopOf.con : V.Con := ⟨(.cons (.sl (.cons (.int .i64) .nil)) .nil), (.cons (.int .i64) .nil), fun (x : List Int) => spec_TopOf x, [], [(false, 1)], [(false, 1)], [false], []⟩
noncomputable abbrev spec_TopOf.E : V.Env := V.mkE V.tys [(247, spec_Hash.con), (250, spec_l10Up.con)] [(8, [3], [(3, (.cons (.int .i64) .nil), false)])] [] [] [] []
noncomputable abbrev spec_TopOf.kt (x0 : List Int) : V.Kt Int := V.ktOf spec_TopOf.E spec_TopOf.con Tryz.f189 ((x0) : List Int)
noncomputable abbrev spec_TopOf.s8 (v8_0 : List Int) : V.St := ⟨[(3, .v false [.val (.sl (.cons (.int .i64) .nil) v8_0)])], []⟩
theorem spec_TopOf.r8 (x0 : List Int) (R : V.St → Option Int) (v8_0 : List Int) : V.loopF spec_TopOf.E Tryz.f189.ntmps [1, 1, 1, 0, 0] [] (V.codeOf Tryz.f189) (spec_TopOf.kt x0) R (spec_TopOf.s8 v8_0) = spec_TopOf.g8 (fun v8_0 => R (spec_TopOf.s8 v8_0)) v8_0 := by kernel_rfl
theorem spec_TopOf.e8 (x0 : List Int) : ∀ (n : Nat) (v8_0 : List Int), V.loopN (V.loopF spec_TopOf.E Tryz.f189.ntmps [1, 1, 1, 0, 0] [] (V.codeOf Tryz.f189) (spec_TopOf.kt x0)) n (spec_TopOf.s8 v8_0) = spec_TopOf.l8 n v8_0 := by
  intro n
  induction n with
  | zero => intros; rw [V.loopN_z]; rfl
  | succ n ih =>
    intro v8_0
    rw [V.loopN_s, spec_TopOf.r8]
    simp only [ih]
    first | exact (spec_TopOf.u8 ..).symm | rfl
theorem spec_TopOf.v (x0 : List Int) : V.evBody spec_TopOf.E spec_TopOf.con Tryz.f189 ((x0) : List Int) = spec_TopOf.b x0 (fun v8_0 => V.loopN (V.loopF spec_TopOf.E Tryz.f189.ntmps [1, 1, 1, 0, 0] [] (V.codeOf Tryz.f189) (spec_TopOf.kt x0)) V.KK (spec_TopOf.s8 v8_0)) := by kernel_rfl
theorem spec_TopOf.eq (x0 : List Int) : V.evBody spec_TopOf.E spec_TopOf.con Tryz.f189 ((x0) : List Int) = spec_TopOf x0 := by
  rw [spec_TopOf.v]
  simp only [spec_TopOf.e8]
  rfl
theorem spec_TopOf.ok : V.Valid Tryz.prog 189 spec_TopOf.con :=
  V.fo (V.tab_cons spec_Hash.ok (V.tab_cons spec_l10Up.ok V.tab_nil)) Tryz.func189 (by kernel_rfl) (fun x y h => (show V.evBody spec_TopOf.E spec_TopOf.con Tryz.f189 x = _ from spec_TopOf.eq x).trans (V.cfl (by kernel_rfl) h))
noncomputable abbrev spec_l10Root.con : V.Con := ⟨(.cons (.int .i64) (.cons (.int .i64) .nil)), (.cons (.int .i64) .nil), fun (x : Int × Int) => spec_l10Root x.1 x.2, [], [(false, 1), (false, 1)], [(false, 1)], [false], []⟩
noncomputable abbrev spec_l10Root.E : V.Env := V.mkE V.tys [(247, spec_Hash.con)] [] [] [] [] []
theorem spec_l10Root.eq (x0 : Int) (x1 : Int) : V.evBody spec_l10Root.E spec_l10Root.con Tryz.f188 ((x0, x1) : Int × Int) = spec_l10Root x0 x1 := by kernel_rfl
theorem spec_l10Root.ok : V.Valid Tryz.prog 188 spec_l10Root.con :=
  V.fo (V.tab_cons spec_Hash.ok V.tab_nil) Tryz.func188 (by kernel_rfl) (fun x y h => (show V.evBody spec_l10Root.E spec_l10Root.con Tryz.f188 x = _ from spec_l10Root.eq x.1 x.2).trans (V.cfl (by kernel_rfl) h))
noncomputable abbrev spec_RootOf.con : V.Con := ⟨(.cons (.sl V.eEntry) .nil), (.cons (.int .i64) .nil), fun (x : List TEntry) => spec_RootOf x, [], [(false, 1)], [(false, 1)], [false], []⟩
noncomputable abbrev spec_RootOf.E : V.Env := V.mkE V.tys [(188, spec_l10Root.con), (189, spec_TopOf.con), (190, spec_LeavesOf.con)] [] [] [] [] []
theorem spec_RootOf.eq (x0 : List TEntry) : V.evBody spec_RootOf.E spec_RootOf.con Tryz.f88 ((x0) : List TEntry) = spec_RootOf x0 := by kernel_rfl
theorem spec_RootOf.ok : V.Valid Tryz.prog 88 spec_RootOf.con :=
  V.fo (V.tab_cons spec_l10Root.ok (V.tab_cons spec_TopOf.ok (V.tab_cons spec_LeavesOf.ok V.tab_nil))) Tryz.func88 (by kernel_rfl) (fun x y h => (show V.evBody spec_RootOf.E spec_RootOf.con Tryz.f88 x = _ from spec_RootOf.eq x).trans (V.cfl (by kernel_rfl) h))
noncomputable abbrev spec_l6Copy.con : V.Con := ⟨(.cons (.sl (.cons (.int .i64) .nil)) (.cons (.int .i64) .nil)), (.cons (.sl (.cons (.int .i64) .nil)) (.cons (.int .i64) .nil)), fun (x : List Int × Int) => spec_l6Copy x, [], [(true, 2)], [(true, 2)], [true, false], []⟩
noncomputable abbrev spec_l6Copy.E : V.Env := V.mkE V.tys [] [] [(1, 6)] [] [] []
theorem spec_l6Copy.eq (x0 : TKeys) : V.evBody spec_l6Copy.E spec_l6Copy.con Tryz.f225 ((x0.1, x0.2) : List Int × Int) = spec_l6Copy x0 := by kernel_rfl
theorem spec_l6Copy.ok : V.Valid Tryz.prog 225 spec_l6Copy.con :=
  V.fo V.tab_nil Tryz.func225 (by kernel_rfl) (fun x y h => (show V.evBody spec_l6Copy.E spec_l6Copy.con Tryz.f225 x = _ from spec_l6Copy.eq x).trans (V.cfl (by kernel_rfl) h))
noncomputable abbrev spec_IsKeys.con : V.Con := ⟨(.cons (.sl (.cons (.int .i64) .nil)) (.cons (.int .i64) .nil)), (.cons .bool .nil), fun (x : List Int × Int) => spec_IsKeys x, [], [(true, 2)], [(false, 1)], [false], []⟩
noncomputable abbrev spec_IsKeys.E : V.Env := V.mkE V.tys [(147, spec_l1In.con)] [(4, [1, 3], [])] [(4, 22)] [] [] []
noncomputable abbrev spec_IsKeys.kt (x0 : TKeys) : V.Kt Bool := V.ktOf spec_IsKeys.E spec_IsKeys.con Tryz.f245 ((x0.1, x0.2) : List Int × Int)
noncomputable abbrev spec_IsKeys.s4 (x0 : TKeys) (v4_0 : Int) : V.St := ⟨[(1, .v false [.ptr 64000 0]), (3, .v false [.val (.int .i64 v4_0)])], [(64000, .box [.val (.sl (.cons (.int .i64) .nil) x0.1), .val (.int .i64 x0.2)])]⟩
theorem spec_IsKeys.r4 (x0 : TKeys) (R : V.St → Option Bool) (v4_0 : Int) : V.loopF spec_IsKeys.E Tryz.f245.ntmps [1, 0, 1, 0] [] (V.codeOf Tryz.f245) (spec_IsKeys.kt x0) R (spec_IsKeys.s4 x0 v4_0) = spec_IsKeys.g4 x0 (fun v4_0 => R (spec_IsKeys.s4 x0 v4_0)) v4_0 := by kernel_rfl
theorem spec_IsKeys.e4 (x0 : TKeys) : ∀ (n : Nat) (v4_0 : Int), V.loopN (V.loopF spec_IsKeys.E Tryz.f245.ntmps [1, 0, 1, 0] [] (V.codeOf Tryz.f245) (spec_IsKeys.kt x0)) n (spec_IsKeys.s4 x0 v4_0) = spec_IsKeys.l4 x0 n v4_0 := by
  intro n
  induction n with
  | zero => intros; rw [V.loopN_z]; rfl
  | succ n ih =>
    intro v4_0
    rw [V.loopN_s, spec_IsKeys.r4]
    simp only [ih]
    first | exact (spec_IsKeys.u4 ..).symm | rfl
theorem spec_IsKeys.v (x0 : TKeys) : V.evBody spec_IsKeys.E spec_IsKeys.con Tryz.f245 ((x0.1, x0.2) : List Int × Int) = spec_IsKeys.b x0 (fun v4_0 => V.loopN (V.loopF spec_IsKeys.E Tryz.f245.ntmps [1, 0, 1, 0] [] (V.codeOf Tryz.f245) (spec_IsKeys.kt x0)) V.KK (spec_IsKeys.s4 x0 v4_0)) := by kernel_rfl
theorem spec_IsKeys.eq (x0 : TKeys) : V.evBody spec_IsKeys.E spec_IsKeys.con Tryz.f245 ((x0.1, x0.2) : List Int × Int) = spec_IsKeys x0 := by
  rw [spec_IsKeys.v]
  simp only [spec_IsKeys.e4]
  rfl
theorem spec_IsKeys.ok : V.Valid Tryz.prog 245 spec_IsKeys.con :=
  V.fo (V.tab_cons spec_l1In.ok V.tab_nil) Tryz.func245 (by kernel_rfl) (fun x y h => (show V.evBody spec_IsKeys.E spec_IsKeys.con Tryz.f245 x = _ from spec_IsKeys.eq x).trans (V.cfl (by kernel_rfl) h))
noncomputable abbrev spec_NoKeys.con : V.Con := ⟨(.cons (.sl (.cons (.int .i64) .nil)) (.cons (.int .i64) .nil)), (.cons .bool .nil), fun (x : List Int × Int) => spec_NoKeys x, [], [(true, 2)], [(false, 1)], [false], []⟩
noncomputable abbrev spec_NoKeys.E : V.Env := V.mkE V.tys [] [] [] [] [] []
theorem spec_NoKeys.eq (x0 : TKeys) : V.evBody spec_NoKeys.E spec_NoKeys.con Tryz.f246 ((x0.1, x0.2) : List Int × Int) = spec_NoKeys x0 := by kernel_rfl
theorem spec_NoKeys.ok : V.Valid Tryz.prog 246 spec_NoKeys.con :=
  V.fo V.tab_nil Tryz.func246 (by kernel_rfl) (fun x y h => (show V.evBody spec_NoKeys.E spec_NoKeys.con Tryz.f246 x = _ from spec_NoKeys.eq x).trans (V.cfl (by kernel_rfl) h))
noncomputable abbrev spec_IsHead.con : V.Con := ⟨V.A0, (.cons .bool .nil), fun (x : V.D0) => spec_IsHead (V.p0_0 x), [], [(true, 16)], [(false, 1)], [false], []⟩
noncomputable abbrev spec_IsHead.E : V.Env := V.mkE V.tys [(147, spec_l1In.con), (245, spec_IsKeys.con), (246, spec_NoKeys.con)] [(7, [1], []), (11, [1], []), (21, [1], [])] [] [] [] []
noncomputable abbrev spec_IsHead.kt (x0 : THead) : V.Kt Bool := V.ktOf spec_IsHead.E spec_IsHead.con Tryz.f183 (V.fl0 x0)
noncomputable abbrev spec_IsHead.s21 (x0 : THead) : V.St := ⟨[(1, .v false [.ptr 64000 0])], [(64000, .box [.val (.int .i64 x0.1), .val (.int .i64 x0.2.1), .val (.int .i64 x0.2.2.1), .val (.int .i64 x0.2.2.2.1), .val (.int .i64 x0.2.2.2.2.1), .val (.int .i64 x0.2.2.2.2.2.1), .val (.int .i64 x0.2.2.2.2.2.2.1), .val (.int .i64 x0.2.2.2.2.2.2.2.1), .val (.sl (.cons (.int .i64) .nil) x0.2.2.2.2.2.2.2.2.1), .val (.int .i64 x0.2.2.2.2.2.2.2.2.2.1), .val (.sl (.cons (.int .i64) .nil) x0.2.2.2.2.2.2.2.2.2.2.1), .val (.int .i64 x0.2.2.2.2.2.2.2.2.2.2.2.1), .val (.int .i64 x0.2.2.2.2.2.2.2.2.2.2.2.2.1), .val (.sl (.cons (.int .i64) .nil) x0.2.2.2.2.2.2.2.2.2.2.2.2.2.1), .val (.int .i64 x0.2.2.2.2.2.2.2.2.2.2.2.2.2.2.1), .val (.bool x0.2.2.2.2.2.2.2.2.2.2.2.2.2.2.2)])]⟩
noncomputable abbrev spec_IsHead.s11 (x0 : THead) : V.St := ⟨[(1, .v false [.ptr 64000 0])], [(64000, .box [.val (.int .i64 x0.1), .val (.int .i64 x0.2.1), .val (.int .i64 x0.2.2.1), .val (.int .i64 x0.2.2.2.1), .val (.int .i64 x0.2.2.2.2.1), .val (.int .i64 x0.2.2.2.2.2.1), .val (.int .i64 x0.2.2.2.2.2.2.1), .val (.int .i64 x0.2.2.2.2.2.2.2.1), .val (.sl (.cons (.int .i64) .nil) x0.2.2.2.2.2.2.2.2.1), .val (.int .i64 x0.2.2.2.2.2.2.2.2.2.1), .val (.sl (.cons (.int .i64) .nil) x0.2.2.2.2.2.2.2.2.2.2.1), .val (.int .i64 x0.2.2.2.2.2.2.2.2.2.2.2.1), .val (.int .i64 x0.2.2.2.2.2.2.2.2.2.2.2.2.1), .val (.sl (.cons (.int .i64) .nil) x0.2.2.2.2.2.2.2.2.2.2.2.2.2.1), .val (.int .i64 x0.2.2.2.2.2.2.2.2.2.2.2.2.2.2.1), .val (.bool x0.2.2.2.2.2.2.2.2.2.2.2.2.2.2.2)])]⟩
noncomputable abbrev spec_IsHead.s7 (x0 : THead) : V.St := ⟨[(1, .v false [.ptr 64000 0])], [(64000, .box [.val (.int .i64 x0.1), .val (.int .i64 x0.2.1), .val (.int .i64 x0.2.2.1), .val (.int .i64 x0.2.2.2.1), .val (.int .i64 x0.2.2.2.2.1), .val (.int .i64 x0.2.2.2.2.2.1), .val (.int .i64 x0.2.2.2.2.2.2.1), .val (.int .i64 x0.2.2.2.2.2.2.2.1), .val (.sl (.cons (.int .i64) .nil) x0.2.2.2.2.2.2.2.2.1), .val (.int .i64 x0.2.2.2.2.2.2.2.2.2.1), .val (.sl (.cons (.int .i64) .nil) x0.2.2.2.2.2.2.2.2.2.2.1), .val (.int .i64 x0.2.2.2.2.2.2.2.2.2.2.2.1), .val (.int .i64 x0.2.2.2.2.2.2.2.2.2.2.2.2.1), .val (.sl (.cons (.int .i64) .nil) x0.2.2.2.2.2.2.2.2.2.2.2.2.2.1), .val (.int .i64 x0.2.2.2.2.2.2.2.2.2.2.2.2.2.2.1), .val (.bool x0.2.2.2.2.2.2.2.2.2.2.2.2.2.2.2)])]⟩
theorem spec_IsHead.r21 (x0 : THead) : V.normK 21 ([1], []) (V.joinF spec_IsHead.E Tryz.f183.ntmps [1, 1, 1] [] (V.codeOf Tryz.f183) (spec_IsHead.kt x0)) (spec_IsHead.s21 x0) = spec_IsHead.g21 x0 := by kernel_rfl
theorem spec_IsHead.e21 (x0 : THead) : V.normK 21 ([1], []) (V.joinF spec_IsHead.E Tryz.f183.ntmps [1, 1, 1] [] (V.codeOf Tryz.f183) (spec_IsHead.kt x0)) (spec_IsHead.s21 x0) = spec_IsHead.l21 x0 := by
  rw [spec_IsHead.r21]
  rfl
theorem spec_IsHead.r11 (x0 : THead) : V.normK 11 ([1], []) (V.joinF spec_IsHead.E Tryz.f183.ntmps [1, 1] [] (V.codeOf Tryz.f183) (spec_IsHead.kt x0)) (spec_IsHead.s11 x0) = spec_IsHead.g11 x0 (V.normK 21 ([1], []) (V.joinF spec_IsHead.E Tryz.f183.ntmps [1, 1, 1] [] (V.codeOf Tryz.f183) (spec_IsHead.kt x0)) (spec_IsHead.s21 x0)) := by kernel_rfl
theorem spec_IsHead.e11 (x0 : THead) : V.normK 11 ([1], []) (V.joinF spec_IsHead.E Tryz.f183.ntmps [1, 1] [] (V.codeOf Tryz.f183) (spec_IsHead.kt x0)) (spec_IsHead.s11 x0) = spec_IsHead.l11 x0 := by
  rw [spec_IsHead.r11]
  simp only [spec_IsHead.e21]
  rfl
theorem spec_IsHead.r7 (x0 : THead) : V.normK 7 ([1], []) (V.joinF spec_IsHead.E Tryz.f183.ntmps [1] [] (V.codeOf Tryz.f183) (spec_IsHead.kt x0)) (spec_IsHead.s7 x0) = spec_IsHead.g7 x0 (V.normK 11 ([1], []) (V.joinF spec_IsHead.E Tryz.f183.ntmps [1, 1] [] (V.codeOf Tryz.f183) (spec_IsHead.kt x0)) (spec_IsHead.s11 x0)) := by kernel_rfl
theorem spec_IsHead.e7 (x0 : THead) : V.normK 7 ([1], []) (V.joinF spec_IsHead.E Tryz.f183.ntmps [1] [] (V.codeOf Tryz.f183) (spec_IsHead.kt x0)) (spec_IsHead.s7 x0) = spec_IsHead.l7 x0 := by
  rw [spec_IsHead.r7]
  simp only [spec_IsHead.e11]
  rfl
noncomputable abbrev spec_IsHead.s (x0 : THead) : V.St := ⟨[(0, .v true [.val (.int .i64 x0.1), .val (.int .i64 x0.2.1), .val (.int .i64 x0.2.2.1), .val (.int .i64 x0.2.2.2.1), .val (.int .i64 x0.2.2.2.2.1), .val (.int .i64 x0.2.2.2.2.2.1), .val (.int .i64 x0.2.2.2.2.2.2.1), .val (.int .i64 x0.2.2.2.2.2.2.2.1), .val (.sl (.cons (.int .i64) .nil) x0.2.2.2.2.2.2.2.2.1), .val (.int .i64 x0.2.2.2.2.2.2.2.2.2.1), .val (.sl (.cons (.int .i64) .nil) x0.2.2.2.2.2.2.2.2.2.2.1), .val (.int .i64 x0.2.2.2.2.2.2.2.2.2.2.2.1), .val (.int .i64 x0.2.2.2.2.2.2.2.2.2.2.2.2.1), .val (.sl (.cons (.int .i64) .nil) x0.2.2.2.2.2.2.2.2.2.2.2.2.2.1), .val (.int .i64 x0.2.2.2.2.2.2.2.2.2.2.2.2.2.2.1), .val (.bool x0.2.2.2.2.2.2.2.2.2.2.2.2.2.2.2)])], []⟩
theorem spec_IsHead.v0 (x0 : THead) : V.evBody spec_IsHead.E spec_IsHead.con Tryz.f183 (V.fl0 x0) = V.evC spec_IsHead.E Tryz.f183.ntmps (V.codeOf Tryz.f183) (spec_IsHead.kt x0) (spec_IsHead.s x0) := by kernel_rfl
theorem spec_IsHead.v (x0 : THead) : V.evC spec_IsHead.E Tryz.f183.ntmps (V.codeOf Tryz.f183) (spec_IsHead.kt x0) (spec_IsHead.s x0) = spec_IsHead.b x0 (V.normK 7 ([1], []) (V.joinF spec_IsHead.E Tryz.f183.ntmps [1] [] (V.codeOf Tryz.f183) (spec_IsHead.kt x0)) (spec_IsHead.s7 x0)) := by kernel_rfl
theorem spec_IsHead.eq (x0 : THead) : V.evBody spec_IsHead.E spec_IsHead.con Tryz.f183 (V.fl0 x0) = spec_IsHead x0 := by
  rw [spec_IsHead.v0, spec_IsHead.v]
  simp only [spec_IsHead.e7]
  rfl
theorem spec_IsHead.ok : V.Valid Tryz.prog 183 spec_IsHead.con :=
  V.fo (V.tab_cons spec_l1In.ok (V.tab_cons spec_IsKeys.ok (V.tab_cons spec_NoKeys.ok V.tab_nil))) Tryz.func183 (by kernel_rfl) (fun x y h => (show V.evBody spec_IsHead.E spec_IsHead.con Tryz.f183 x = _ from spec_IsHead.eq (V.p0_0 x)).trans (V.cfl (by kernel_rfl) h))
noncomputable abbrev spec_FirstHead.con : V.Con := ⟨(.cons (.sl (.cons (.int .i64) .nil)) (.cons (.int .i64) (.cons (.int .i64) (.cons (.sl V.eEntry) (.cons (.int .i64) (.cons (.int .i64) .nil)))))), V.eRHeadBool, fun (x : List Int × Int × Int × List TEntry × Int × Int) => spec_FirstHead (x.1, x.2.1) x.2.2.1 x.2.2.2.1 x.2.2.2.2.1 x.2.2.2.2.2, [], [(true, 2), (false, 1), (false, 1), (false, 1), (false, 1)], [(true, 16), (false, 1)], [false, false, false, false, false, false, false, false, true, false, true, false, false, true, false, false, false], []⟩
noncomputable abbrev spec_FirstHead.E : V.Env := V.mkE V.tys [(87, spec_AreEntries.con), (88, spec_RootOf.con), (147, spec_l1In.con), (183, spec_IsHead.con), (224, spec_ZoneOf.con), (225, spec_l6Copy.con)] [(5, [1, 2, 3, 4, 5, 10, 25], [])] [(3, 16)] [] [] []
noncomputable abbrev spec_FirstHead.kt (x0 : TKeys) (x1 : Int) (x2 : List TEntry) (x3 : Int) (x4 : Int) : V.Kt TRHeadBool := V.ktOf spec_FirstHead.E spec_FirstHead.con Tryz.f138 ((x0.1, x0.2, x1, x2, x3, x4) : List Int × Int × Int × List TEntry × Int × Int)
noncomputable abbrev spec_FirstHead.s5 (x0 : TKeys) (x1 : Int) (x2 : List TEntry) (x3 : Int) (x4 : Int) (v5_4 : Bool) : V.St := ⟨[(1, .v false [.val (.int .i64 x1)]), (2, .v false [.val (.sl V.eEntry x2)]), (3, .v false [.val (.int .i64 x3)]), (4, .v false [.val (.int .i64 x4)]), (5, .v false [.ptr 64000 0]), (10, .v false [.ptr 64064 0]), (25, .v false [.val (.bool v5_4)])], [(64000, .box [.val (.sl (.cons (.int .i64) .nil) x0.1), .val (.int .i64 x0.2)]), (64064, .box [.val (.int .i64 (0 : Int)), .val (.int .i64 (0 : Int)), .val (.int .i64 (0 : Int)), .val (.int .i64 (0 : Int)), .val (.int .i64 (0 : Int)), .val (.int .i64 (0 : Int)), .val (.int .i64 (0 : Int)), .val (.int .i64 (0 : Int)), .nil0, .val (.int .i64 (0 : Int)), .nil0, .val (.int .i64 (0 : Int)), .val (.int .i64 (0 : Int)), .nil0, .val (.int .i64 (0 : Int)), .val (.bool false)])]⟩
theorem spec_FirstHead.r5 (x0 : TKeys) (x1 : Int) (x2 : List TEntry) (x3 : Int) (x4 : Int) (v5_4 : Bool) : V.normK 5 ([1, 2, 3, 4, 5, 10, 25], []) (V.joinF spec_FirstHead.E Tryz.f138.ntmps [1, 0] [] (V.codeOf Tryz.f138) (spec_FirstHead.kt x0 x1 x2 x3 x4)) (spec_FirstHead.s5 x0 x1 x2 x3 x4 v5_4) = spec_FirstHead.g5 x0 x1 x2 x3 x4 v5_4 := by kernel_rfl
theorem spec_FirstHead.e5 (x0 : TKeys) (x1 : Int) (x2 : List TEntry) (x3 : Int) (x4 : Int) (v5_4 : Bool) : V.normK 5 ([1, 2, 3, 4, 5, 10, 25], []) (V.joinF spec_FirstHead.E Tryz.f138.ntmps [1, 0] [] (V.codeOf Tryz.f138) (spec_FirstHead.kt x0 x1 x2 x3 x4)) (spec_FirstHead.s5 x0 x1 x2 x3 x4 v5_4) = spec_FirstHead.l5 x0 x1 x2 x3 x4 v5_4 := by
  rw [spec_FirstHead.r5]
  rfl
theorem spec_FirstHead.v (x0 : TKeys) (x1 : Int) (x2 : List TEntry) (x3 : Int) (x4 : Int) : V.evBody spec_FirstHead.E spec_FirstHead.con Tryz.f138 ((x0.1, x0.2, x1, x2, x3, x4) : List Int × Int × Int × List TEntry × Int × Int) = spec_FirstHead.b x0 x1 x2 x3 x4 (fun v5_4 => V.normK 5 ([1, 2, 3, 4, 5, 10, 25], []) (V.joinF spec_FirstHead.E Tryz.f138.ntmps [1, 0] [] (V.codeOf Tryz.f138) (spec_FirstHead.kt x0 x1 x2 x3 x4)) (spec_FirstHead.s5 x0 x1 x2 x3 x4 v5_4)) := by kernel_rfl
theorem spec_FirstHead.eq (x0 : TKeys) (x1 : Int) (x2 : List TEntry) (x3 : Int) (x4 : Int) : V.evBody spec_FirstHead.E spec_FirstHead.con Tryz.f138 ((x0.1, x0.2, x1, x2, x3, x4) : List Int × Int × Int × List TEntry × Int × Int) = spec_FirstHead x0 x1 x2 x3 x4 := by
  rw [spec_FirstHead.v]
  simp only [spec_FirstHead.e5]
  rfl
theorem spec_FirstHead.ok : V.Valid Tryz.prog 138 spec_FirstHead.con :=
  V.fo (V.tab_cons spec_AreEntries.ok (V.tab_cons spec_RootOf.ok (V.tab_cons spec_l1In.ok (V.tab_cons spec_IsHead.ok (V.tab_cons spec_ZoneOf.ok (V.tab_cons spec_l6Copy.ok V.tab_nil)))))) Tryz.func138 (by kernel_rfl) (fun x y h => (show V.evBody spec_FirstHead.E spec_FirstHead.con Tryz.f138 x = _ from spec_FirstHead.eq (x.1, x.2.1) x.2.2.1 x.2.2.2.1 x.2.2.2.2.1 x.2.2.2.2.2).trans (V.cfl (by kernel_rfl) h))
noncomputable abbrev spec_l13Copy.con : V.Con := ⟨V.A0, V.eHead, fun (x : V.D0) => spec_l13Copy (V.p0_0 x), [], [(true, 16)], [(true, 16)], [false, false, false, false, false, false, false, false, true, false, true, false, false, true, false, false], []⟩
noncomputable abbrev spec_l13Copy.E : V.Env := V.mkE V.tys [(225, spec_l6Copy.con)] [] [] [] [] []
noncomputable abbrev spec_l13Copy.kt (x0 : THead) : V.Kt THead := V.ktOf spec_l13Copy.E spec_l13Copy.con Tryz.f184 (V.fl0 x0)
noncomputable abbrev spec_l13Copy.s (x0 : THead) : V.St := ⟨[(0, .v true [.val (.int .i64 x0.1), .val (.int .i64 x0.2.1), .val (.int .i64 x0.2.2.1), .val (.int .i64 x0.2.2.2.1), .val (.int .i64 x0.2.2.2.2.1), .val (.int .i64 x0.2.2.2.2.2.1), .val (.int .i64 x0.2.2.2.2.2.2.1), .val (.int .i64 x0.2.2.2.2.2.2.2.1), .val (.sl (.cons (.int .i64) .nil) x0.2.2.2.2.2.2.2.2.1), .val (.int .i64 x0.2.2.2.2.2.2.2.2.2.1), .val (.sl (.cons (.int .i64) .nil) x0.2.2.2.2.2.2.2.2.2.2.1), .val (.int .i64 x0.2.2.2.2.2.2.2.2.2.2.2.1), .val (.int .i64 x0.2.2.2.2.2.2.2.2.2.2.2.2.1), .val (.sl (.cons (.int .i64) .nil) x0.2.2.2.2.2.2.2.2.2.2.2.2.2.1), .val (.int .i64 x0.2.2.2.2.2.2.2.2.2.2.2.2.2.2.1), .val (.bool x0.2.2.2.2.2.2.2.2.2.2.2.2.2.2.2)])], []⟩
theorem spec_l13Copy.v0 (x0 : THead) : V.evBody spec_l13Copy.E spec_l13Copy.con Tryz.f184 (V.fl0 x0) = V.evC spec_l13Copy.E Tryz.f184.ntmps (V.codeOf Tryz.f184) (spec_l13Copy.kt x0) (spec_l13Copy.s x0) := by kernel_rfl
theorem spec_l13Copy.v (x0 : THead) : V.evC spec_l13Copy.E Tryz.f184.ntmps (V.codeOf Tryz.f184) (spec_l13Copy.kt x0) (spec_l13Copy.s x0) = spec_l13Copy x0 := by kernel_rfl
theorem spec_l13Copy.eq (x0 : THead) : V.evBody spec_l13Copy.E spec_l13Copy.con Tryz.f184 (V.fl0 x0) = spec_l13Copy x0 := (spec_l13Copy.v0 x0).trans (spec_l13Copy.v x0)
theorem spec_l13Copy.ok : V.Valid Tryz.prog 184 spec_l13Copy.con :=
  V.fo (V.tab_cons spec_l6Copy.ok V.tab_nil) Tryz.func184 (by kernel_rfl) (fun x y h => (show V.evBody spec_l13Copy.E spec_l13Copy.con Tryz.f184 x = _ from spec_l13Copy.eq (V.p0_0 x)).trans (V.cfl (by kernel_rfl) h))
noncomputable abbrev spec_HeadInts.con : V.Con := ⟨V.A0, (.cons (.sl (.cons (.int .i64) .nil)) .nil), fun (x : V.D0) => spec_HeadInts (V.p0_0 x), [], [(true, 16)], [(false, 1)], [true], []⟩
noncomputable abbrev spec_HeadInts.E : V.Env := V.mkE V.tys [(266, spec_KeysInts.con)] [] [] [] [] []
noncomputable abbrev spec_HeadInts.kt (x0 : THead) : V.Kt (List Int) := V.ktOf spec_HeadInts.E spec_HeadInts.con Tryz.f205 (V.fl0 x0)
noncomputable abbrev spec_HeadInts.s (x0 : THead) : V.St := ⟨[(0, .v true [.val (.int .i64 x0.1), .val (.int .i64 x0.2.1), .val (.int .i64 x0.2.2.1), .val (.int .i64 x0.2.2.2.1), .val (.int .i64 x0.2.2.2.2.1), .val (.int .i64 x0.2.2.2.2.2.1), .val (.int .i64 x0.2.2.2.2.2.2.1), .val (.int .i64 x0.2.2.2.2.2.2.2.1), .val (.sl (.cons (.int .i64) .nil) x0.2.2.2.2.2.2.2.2.1), .val (.int .i64 x0.2.2.2.2.2.2.2.2.2.1), .val (.sl (.cons (.int .i64) .nil) x0.2.2.2.2.2.2.2.2.2.2.1), .val (.int .i64 x0.2.2.2.2.2.2.2.2.2.2.2.1), .val (.int .i64 x0.2.2.2.2.2.2.2.2.2.2.2.2.1), .val (.sl (.cons (.int .i64) .nil) x0.2.2.2.2.2.2.2.2.2.2.2.2.2.1), .val (.int .i64 x0.2.2.2.2.2.2.2.2.2.2.2.2.2.2.1), .val (.bool x0.2.2.2.2.2.2.2.2.2.2.2.2.2.2.2)])], []⟩
theorem spec_HeadInts.v0 (x0 : THead) : V.evBody spec_HeadInts.E spec_HeadInts.con Tryz.f205 (V.fl0 x0) = V.evC spec_HeadInts.E Tryz.f205.ntmps (V.codeOf Tryz.f205) (spec_HeadInts.kt x0) (spec_HeadInts.s x0) := by kernel_rfl
theorem spec_HeadInts.v (x0 : THead) : V.evC spec_HeadInts.E Tryz.f205.ntmps (V.codeOf Tryz.f205) (spec_HeadInts.kt x0) (spec_HeadInts.s x0) = spec_HeadInts x0 := by kernel_rfl
theorem spec_HeadInts.eq (x0 : THead) : V.evBody spec_HeadInts.E spec_HeadInts.con Tryz.f205 (V.fl0 x0) = spec_HeadInts x0 := (spec_HeadInts.v0 x0).trans (spec_HeadInts.v x0)
theorem spec_HeadInts.ok : V.Valid Tryz.prog 205 spec_HeadInts.con :=
  V.fo (V.tab_cons spec_KeysInts.ok V.tab_nil) Tryz.func205 (by kernel_rfl) (fun x y h => (show V.evBody spec_HeadInts.E spec_HeadInts.con Tryz.f205 x = _ from spec_HeadInts.eq (V.p0_0 x)).trans (V.cfl (by kernel_rfl) h))
noncomputable abbrev spec_l6Has.con : V.Con := ⟨(.cons (.sl (.cons (.int .i64) .nil)) (.cons (.int .i64) .nil)), (.cons .bool .nil), fun (x : List Int × Int) => spec_l6Has x.1 x.2, [], [(false, 1), (false, 1)], [(false, 1)], [false], []⟩
noncomputable abbrev spec_l6Has.E : V.Env := V.mkE V.tys [] [(4, [0, 1, 5], [])] [] [] [] []
noncomputable abbrev spec_l6Has.kt (x0 : List Int) (x1 : Int) : V.Kt Bool := V.ktOf spec_l6Has.E spec_l6Has.con Tryz.f274 ((x0, x1) : List Int × Int)
noncomputable abbrev spec_l6Has.s4 (x0 : List Int) (x1 : Int) (v4_2 : Int) : V.St := ⟨[(0, .v false [.val (.sl (.cons (.int .i64) .nil) x0)]), (1, .v false [.val (.int .i64 x1)]), (5, .v false [.val (.int .i64 v4_2)])], []⟩
theorem spec_l6Has.r4 (x0 : List Int) (x1 : Int) (R : V.St → Option Bool) (v4_2 : Int) : V.loopF spec_l6Has.E Tryz.f274.ntmps [1, 0, 1, 0] [] (V.codeOf Tryz.f274) (spec_l6Has.kt x0 x1) R (spec_l6Has.s4 x0 x1 v4_2) = spec_l6Has.g4 x0 x1 (fun v4_2 => R (spec_l6Has.s4 x0 x1 v4_2)) v4_2 := by kernel_rfl
theorem spec_l6Has.e4 (x0 : List Int) (x1 : Int) : ∀ (n : Nat) (v4_2 : Int), V.loopN (V.loopF spec_l6Has.E Tryz.f274.ntmps [1, 0, 1, 0] [] (V.codeOf Tryz.f274) (spec_l6Has.kt x0 x1)) n (spec_l6Has.s4 x0 x1 v4_2) = spec_l6Has.l4 x0 x1 n v4_2 := by
  intro n
  induction n with
  | zero => intros; rw [V.loopN_z]; rfl
  | succ n ih =>
    intro v4_2
    rw [V.loopN_s, spec_l6Has.r4]
    simp only [ih]
    first | exact (spec_l6Has.u4 ..).symm | rfl
theorem spec_l6Has.v (x0 : List Int) (x1 : Int) : V.evBody spec_l6Has.E spec_l6Has.con Tryz.f274 ((x0, x1) : List Int × Int) = spec_l6Has.b x0 x1 (fun v4_2 => V.loopN (V.loopF spec_l6Has.E Tryz.f274.ntmps [1, 0, 1, 0] [] (V.codeOf Tryz.f274) (spec_l6Has.kt x0 x1)) V.KK (spec_l6Has.s4 x0 x1 v4_2)) := by kernel_rfl
theorem spec_l6Has.eq (x0 : List Int) (x1 : Int) : V.evBody spec_l6Has.E spec_l6Has.con Tryz.f274 ((x0, x1) : List Int × Int) = spec_l6Has x0 x1 := by
  rw [spec_l6Has.v]
  simp only [spec_l6Has.e4]
  rfl
theorem spec_l6Has.ok : V.Valid Tryz.prog 274 spec_l6Has.con :=
  V.fo V.tab_nil Tryz.func274 (by kernel_rfl) (fun x y h => (show V.evBody spec_l6Has.E spec_l6Has.con Tryz.f274 x = _ from spec_l6Has.eq x.1 x.2).trans (V.cfl (by kernel_rfl) h))
noncomputable abbrev spec_KeyedHash.con : V.Con := ⟨(.cons (.int .i64) (.cons (.sl (.cons (.int .i64) .nil)) .nil)), (.cons (.int .i64) .nil), fun (x : Int × List Int) => spec_KeyedHash x.1 x.2, [], [(false, 1), (false, 1)], [(false, 1)], [false], []⟩
noncomputable abbrev spec_KeyedHash.E : V.Env := V.mkE V.tys [(247, spec_Hash.con)] [] [] [] [] []
theorem spec_KeyedHash.eq (x0 : Int) (x1 : List Int) : V.evBody spec_KeyedHash.E spec_KeyedHash.con Tryz.f214 ((x0, x1) : Int × List Int) = spec_KeyedHash x0 x1 := by kernel_rfl
theorem spec_KeyedHash.ok : V.Valid Tryz.prog 214 spec_KeyedHash.con :=
  V.fo (V.tab_cons spec_Hash.ok V.tab_nil) Tryz.func214 (by kernel_rfl) (fun x y h => (show V.evBody spec_KeyedHash.E spec_KeyedHash.con Tryz.f214 x = _ from spec_KeyedHash.eq x.1 x.2).trans (V.cfl (by kernel_rfl) h))
noncomputable abbrev spec_TagOf.con : V.Con := ⟨(.cons (.int .i64) (.cons (.sl (.cons (.int .i64) .nil)) .nil)), (.cons (.int .i64) .nil), fun (x : Int × List Int) => spec_TagOf x.1 x.2, [], [(false, 1), (false, 1)], [(false, 1)], [false], []⟩
noncomputable abbrev spec_TagOf.E : V.Env := V.mkE V.tys [(214, spec_KeyedHash.con)] [] [] [] [] []
theorem spec_TagOf.eq (x0 : Int) (x1 : List Int) : V.evBody spec_TagOf.E spec_TagOf.con Tryz.f118 ((x0, x1) : Int × List Int) = spec_TagOf x0 x1 := by kernel_rfl
theorem spec_TagOf.ok : V.Valid Tryz.prog 118 spec_TagOf.con :=
  V.fo (V.tab_cons spec_KeyedHash.ok V.tab_nil) Tryz.func118 (by kernel_rfl) (fun x y h => (show V.evBody spec_TagOf.E spec_TagOf.con Tryz.f118 x = _ from spec_TagOf.eq x.1 x.2).trans (V.cfl (by kernel_rfl) h))
noncomputable abbrev spec_SignBy.con : V.Con := ⟨(.cons (.sl (.cons (.int .i64) .nil)) (.cons (.sl (.cons (.int .i64) .nil)) (.cons (.int .i64) (.cons (.sl (.cons (.int .i64) .nil)) .nil)))), (.cons (.sl (.cons (.int .i64) (.cons (.int .i64) .nil))) .nil), fun (x : List Int × List Int × Int × List Int) => spec_SignBy x.1 (x.2.1, x.2.2.1) x.2.2.2, [], [(false, 1), (true, 2), (false, 1)], [(false, 1)], [true], []⟩
noncomputable abbrev spec_SignBy.E : V.Env := V.mkE V.tys [(118, spec_TagOf.con), (274, spec_l6Has.con)] [(6, [0, 2, 4, 7, 8], [(64000038400448, (.cons (.int .i64) (.cons (.int .i64) .nil)), true)])] [(6, 15)] [] [] []
noncomputable abbrev spec_SignBy.kt (x0 : List Int) (x1 : TKeys) (x2 : List Int) : V.Kt (List TSig) := V.ktOf spec_SignBy.E spec_SignBy.con Tryz.f226 ((x0, x1.1, x1.2, x2) : List Int × List Int × Int × List Int)
noncomputable abbrev spec_SignBy.s6 (x0 : List Int) (x1 : TKeys) (x2 : List Int) (v6_2 : Int) (v6_5 : List TSig) : V.St := ⟨[(0, .v false [.val (.sl (.cons (.int .i64) .nil) x0)]), (2, .v false [.val (.sl (.cons (.int .i64) .nil) x2)]), (4, .v false [.ptr 64000 0]), (7, .v false [.ref 64000038400448]), (8, .v false [.val (.int .i64 v6_2)])], [(64000, .box [.val (.sl (.cons (.int .i64) .nil) x1.1), .val (.int .i64 x1.2)]), (64000038400448, .row (.cons (.int .i64) (.cons (.int .i64) .nil)) true v6_5)]⟩
theorem spec_SignBy.r6 (x0 : List Int) (x1 : TKeys) (x2 : List Int) (R : V.St → Option (List TSig)) (v6_2 : Int) (v6_5 : List TSig) : V.loopF spec_SignBy.E Tryz.f226.ntmps [1, 1, 0, 1, 0] [] (V.codeOf Tryz.f226) (spec_SignBy.kt x0 x1 x2) R (spec_SignBy.s6 x0 x1 x2 v6_2 v6_5) = spec_SignBy.g6 x0 x1 x2 (fun v6_2 v6_5 => R (spec_SignBy.s6 x0 x1 x2 v6_2 v6_5)) v6_2 v6_5 := by kernel_rfl
theorem spec_SignBy.e6 (x0 : List Int) (x1 : TKeys) (x2 : List Int) : ∀ (n : Nat) (v6_2 : Int) (v6_5 : List TSig), V.loopN (V.loopF spec_SignBy.E Tryz.f226.ntmps [1, 1, 0, 1, 0] [] (V.codeOf Tryz.f226) (spec_SignBy.kt x0 x1 x2)) n (spec_SignBy.s6 x0 x1 x2 v6_2 v6_5) = spec_SignBy.l6 x0 x1 x2 n v6_2 v6_5 := by
  intro n
  induction n with
  | zero => intros; rw [V.loopN_z]; rfl
  | succ n ih =>
    intro v6_2 v6_5
    rw [V.loopN_s, spec_SignBy.r6]
    simp only [ih]
    first | exact (spec_SignBy.u6 ..).symm | rfl
theorem spec_SignBy.v (x0 : List Int) (x1 : TKeys) (x2 : List Int) : V.evBody spec_SignBy.E spec_SignBy.con Tryz.f226 ((x0, x1.1, x1.2, x2) : List Int × List Int × Int × List Int) = spec_SignBy.b x0 x1 x2 (fun v6_2 v6_5 => V.loopN (V.loopF spec_SignBy.E Tryz.f226.ntmps [1, 1, 0, 1, 0] [] (V.codeOf Tryz.f226) (spec_SignBy.kt x0 x1 x2)) V.KK (spec_SignBy.s6 x0 x1 x2 v6_2 v6_5)) := by kernel_rfl
theorem spec_SignBy.eq (x0 : List Int) (x1 : TKeys) (x2 : List Int) : V.evBody spec_SignBy.E spec_SignBy.con Tryz.f226 ((x0, x1.1, x1.2, x2) : List Int × List Int × Int × List Int) = spec_SignBy x0 x1 x2 := by
  rw [spec_SignBy.v]
  simp only [spec_SignBy.e6]
  rfl
theorem spec_SignBy.ok : V.Valid Tryz.prog 226 spec_SignBy.con :=
  V.fo (V.tab_cons spec_TagOf.ok (V.tab_cons spec_l6Has.ok V.tab_nil)) Tryz.func226 (by kernel_rfl) (fun x y h => (show V.evBody spec_SignBy.E spec_SignBy.con Tryz.f226 x = _ from spec_SignBy.eq x.1 (x.2.1, x.2.2.1) x.2.2.2).trans (V.cfl (by kernel_rfl) h))
noncomputable abbrev spec_SignHead.con : V.Con := ⟨V.A1, V.eSigned, fun (x : V.D1) => spec_SignHead (V.p1_0 x) (V.p1_1 x) (V.p1_2 x), [], [(false, 1), (true, 2), (true, 16)], [(true, 17)], [false, false, false, false, false, false, false, false, true, false, true, false, false, true, false, false, true], []⟩
noncomputable abbrev spec_SignHead.E : V.Env := V.mkE V.tys [(184, spec_l13Copy.con), (205, spec_HeadInts.con), (226, spec_SignBy.con)] [] [(1, 6)] [] [] []
noncomputable abbrev spec_SignHead.kt (x0 : List Int) (x1 : TKeys) (x2 : THead) : V.Kt TSigned := V.ktOf spec_SignHead.E spec_SignHead.con Tryz.f139 (V.fl1 x0 x1 x2)
noncomputable abbrev spec_SignHead.s (x0 : List Int) (x1 : TKeys) (x2 : THead) : V.St := ⟨[(0, .v false [.val (.sl (.cons (.int .i64) .nil) x0)]), (1, .v true [.val (.sl (.cons (.int .i64) .nil) x1.1), .val (.int .i64 x1.2)]), (2, .v true [.val (.int .i64 x2.1), .val (.int .i64 x2.2.1), .val (.int .i64 x2.2.2.1), .val (.int .i64 x2.2.2.2.1), .val (.int .i64 x2.2.2.2.2.1), .val (.int .i64 x2.2.2.2.2.2.1), .val (.int .i64 x2.2.2.2.2.2.2.1), .val (.int .i64 x2.2.2.2.2.2.2.2.1), .val (.sl (.cons (.int .i64) .nil) x2.2.2.2.2.2.2.2.2.1), .val (.int .i64 x2.2.2.2.2.2.2.2.2.2.1), .val (.sl (.cons (.int .i64) .nil) x2.2.2.2.2.2.2.2.2.2.2.1), .val (.int .i64 x2.2.2.2.2.2.2.2.2.2.2.2.1), .val (.int .i64 x2.2.2.2.2.2.2.2.2.2.2.2.2.1), .val (.sl (.cons (.int .i64) .nil) x2.2.2.2.2.2.2.2.2.2.2.2.2.2.1), .val (.int .i64 x2.2.2.2.2.2.2.2.2.2.2.2.2.2.2.1), .val (.bool x2.2.2.2.2.2.2.2.2.2.2.2.2.2.2.2)])], []⟩
theorem spec_SignHead.v0 (x0 : List Int) (x1 : TKeys) (x2 : THead) : V.evBody spec_SignHead.E spec_SignHead.con Tryz.f139 (V.fl1 x0 x1 x2) = V.evC spec_SignHead.E Tryz.f139.ntmps (V.codeOf Tryz.f139) (spec_SignHead.kt x0 x1 x2) (spec_SignHead.s x0 x1 x2) := by kernel_rfl
theorem spec_SignHead.v (x0 : List Int) (x1 : TKeys) (x2 : THead) : V.evC spec_SignHead.E Tryz.f139.ntmps (V.codeOf Tryz.f139) (spec_SignHead.kt x0 x1 x2) (spec_SignHead.s x0 x1 x2) = spec_SignHead x0 x1 x2 := by kernel_rfl
theorem spec_SignHead.eq (x0 : List Int) (x1 : TKeys) (x2 : THead) : V.evBody spec_SignHead.E spec_SignHead.con Tryz.f139 (V.fl1 x0 x1 x2) = spec_SignHead x0 x1 x2 := (spec_SignHead.v0 x0 x1 x2).trans (spec_SignHead.v x0 x1 x2)
theorem spec_SignHead.ok : V.Valid Tryz.prog 139 spec_SignHead.con :=
  V.fo (V.tab_cons spec_l13Copy.ok (V.tab_cons spec_HeadInts.ok (V.tab_cons spec_SignBy.ok V.tab_nil))) Tryz.func139 (by kernel_rfl) (fun x y h => (show V.evBody spec_SignHead.E spec_SignHead.con Tryz.f139 x = _ from spec_SignHead.eq (V.p1_0 x) (V.p1_1 x) (V.p1_2 x)).trans (V.cfl (by kernel_rfl) h))
noncomputable abbrev spec_l5Copy.con : V.Con := ⟨(.cons (.sl (.cons .str .nil)) .nil), (.cons (.sl (.cons .str .nil)) .nil), fun (x : List ByteArray) => spec_l5Copy x, [], [(false, 1)], [(false, 1)], [true], []⟩
noncomputable abbrev spec_l5Copy.E : V.Env := V.mkE V.tys [] [] [] [] [] []
theorem spec_l5Copy.eq (x0 : List ByteArray) : V.evBody spec_l5Copy.E spec_l5Copy.con Tryz.f239 ((x0) : List ByteArray) = spec_l5Copy x0 := by kernel_rfl
theorem spec_l5Copy.ok : V.Valid Tryz.prog 239 spec_l5Copy.con :=
  V.fo V.tab_nil Tryz.func239 (by kernel_rfl) (fun x y h => (show V.evBody spec_l5Copy.E spec_l5Copy.con Tryz.f239 x = _ from spec_l5Copy.eq x).trans (V.cfl (by kernel_rfl) h))
noncomputable abbrev spec_l8Copy.con : V.Con := ⟨V.eEntry, V.eEntry, fun (x : ByteArray × Int × Int × List ByteArray) => spec_l8Copy x, [], [(true, 4)], [(true, 4)], [false, false, false, true], []⟩
noncomputable abbrev spec_l8Copy.E : V.Env := V.mkE V.tys [(239, spec_l5Copy.con)] [] [(1, 9)] [] [] []
theorem spec_l8Copy.eq (x0 : TEntry) : V.evBody spec_l8Copy.E spec_l8Copy.con Tryz.f166 ((x0.1, x0.2.1, x0.2.2.1, x0.2.2.2) : ByteArray × Int × Int × List ByteArray) = spec_l8Copy x0 := by kernel_rfl
theorem spec_l8Copy.ok : V.Valid Tryz.prog 166 spec_l8Copy.con :=
  V.fo (V.tab_cons spec_l5Copy.ok V.tab_nil) Tryz.func166 (by kernel_rfl) (fun x y h => (show V.evBody spec_l8Copy.E spec_l8Copy.con Tryz.f166 x = _ from spec_l8Copy.eq x).trans (V.cfl (by kernel_rfl) h))
noncomputable abbrev spec_l9Copy.con : V.Con := ⟨(.cons (.sl V.eEntry) .nil), (.cons (.sl V.eEntry) .nil), fun (x : List TEntry) => spec_l9Copy x, [], [(false, 1)], [(false, 1)], [true], []⟩
noncomputable abbrev spec_l9Copy.E : V.Env := V.mkE V.tys [(166, spec_l8Copy.con)] [(6, [0, 3, 4], [(64000038400192, V.eEntry, true)])] [] [] [] []
noncomputable abbrev spec_l9Copy.kt (x0 : List TEntry) : V.Kt (List TEntry) := V.ktOf spec_l9Copy.E spec_l9Copy.con Tryz.f140 ((x0) : List TEntry)
noncomputable abbrev spec_l9Copy.s6 (x0 : List TEntry) (v6_1 : Int) (v6_2 : List TEntry) : V.St := ⟨[(0, .v false [.val (.sl V.eEntry x0)]), (3, .v false [.ref 64000038400192]), (4, .v false [.val (.int .i64 v6_1)])], [(64000038400192, .row V.eEntry true v6_2)]⟩
theorem spec_l9Copy.r6 (x0 : List TEntry) (R : V.St → Option (List TEntry)) (v6_1 : Int) (v6_2 : List TEntry) : V.loopF spec_l9Copy.E Tryz.f140.ntmps [1, 1, 0, 1, 0] [] (V.codeOf Tryz.f140) (spec_l9Copy.kt x0) R (spec_l9Copy.s6 x0 v6_1 v6_2) = spec_l9Copy.g6 x0 (fun v6_1 v6_2 => R (spec_l9Copy.s6 x0 v6_1 v6_2)) v6_1 v6_2 := by kernel_rfl
theorem spec_l9Copy.e6 (x0 : List TEntry) : ∀ (n : Nat) (v6_1 : Int) (v6_2 : List TEntry), V.loopN (V.loopF spec_l9Copy.E Tryz.f140.ntmps [1, 1, 0, 1, 0] [] (V.codeOf Tryz.f140) (spec_l9Copy.kt x0)) n (spec_l9Copy.s6 x0 v6_1 v6_2) = spec_l9Copy.l6 x0 n v6_1 v6_2 := by
  intro n
  induction n with
  | zero => intros; rw [V.loopN_z]; rfl
  | succ n ih =>
    intro v6_1 v6_2
    rw [V.loopN_s, spec_l9Copy.r6]
    simp only [ih]
    first | exact (spec_l9Copy.u6 ..).symm | rfl
theorem spec_l9Copy.v (x0 : List TEntry) : V.evBody spec_l9Copy.E spec_l9Copy.con Tryz.f140 ((x0) : List TEntry) = spec_l9Copy.b x0 (fun v6_1 v6_2 => V.loopN (V.loopF spec_l9Copy.E Tryz.f140.ntmps [1, 1, 0, 1, 0] [] (V.codeOf Tryz.f140) (spec_l9Copy.kt x0)) V.KK (spec_l9Copy.s6 x0 v6_1 v6_2)) := by kernel_rfl
theorem spec_l9Copy.eq (x0 : List TEntry) : V.evBody spec_l9Copy.E spec_l9Copy.con Tryz.f140 ((x0) : List TEntry) = spec_l9Copy x0 := by
  rw [spec_l9Copy.v]
  simp only [spec_l9Copy.e6]
  rfl
theorem spec_l9Copy.ok : V.Valid Tryz.prog 140 spec_l9Copy.con :=
  V.fo (V.tab_cons spec_l8Copy.ok V.tab_nil) Tryz.func140 (by kernel_rfl) (fun x y h => (show V.evBody spec_l9Copy.E spec_l9Copy.con Tryz.f140 x = _ from spec_l9Copy.eq x).trans (V.cfl (by kernel_rfl) h))
noncomputable abbrev spec_NewZone.con : V.Con := ⟨(.cons (.sl (.cons (.int .i64) .nil)) (.cons (.int .i64) (.cons (.int .i64) (.cons (.sl V.eEntry) (.cons (.int .i64) (.cons (.int .i64) .nil)))))), (.cons (.sl V.eSigned) (.cons (.sl V.eEntry) (.cons .bool .nil))), fun (x : List Int × Int × Int × List TEntry × Int × Int) => spec_NewZone (x.1, x.2.1) x.2.2.1 x.2.2.2.1 x.2.2.2.2.1 x.2.2.2.2.2, [], [(true, 2), (false, 1), (false, 1), (false, 1), (false, 1)], [(true, 2), (false, 1)], [true, true, false], []⟩
noncomputable abbrev spec_NewZone.E : V.Env := V.mkE V.tys [(138, spec_FirstHead.con), (139, spec_SignHead.con), (140, spec_l9Copy.con)] [] [] [] [] []
theorem spec_NewZone.eq (x0 : TKeys) (x1 : Int) (x2 : List TEntry) (x3 : Int) (x4 : Int) : V.evBody spec_NewZone.E spec_NewZone.con Tryz.f51 ((x0.1, x0.2, x1, x2, x3, x4) : List Int × Int × Int × List TEntry × Int × Int) = spec_NewZone x0 x1 x2 x3 x4 := by kernel_rfl
theorem spec_NewZone.ok : V.Valid Tryz.prog 51 spec_NewZone.con :=
  V.fo (V.tab_cons spec_FirstHead.ok (V.tab_cons spec_SignHead.ok (V.tab_cons spec_l9Copy.ok V.tab_nil))) Tryz.func51 (by kernel_rfl) (fun x y h => (show V.evBody spec_NewZone.E spec_NewZone.con Tryz.f51 x = _ from spec_NewZone.eq (x.1, x.2.1) x.2.2.1 x.2.2.2.1 x.2.2.2.2.1 x.2.2.2.2.2).trans (V.cfl (by kernel_rfl) h))
noncomputable abbrev impl_KeysInts.con : V.Con := ⟨(.cons (.sl (.cons (.int .i64) .nil)) (.cons (.int .i64) .nil)), (.cons (.sl (.cons (.int .i64) .nil)) .nil), fun (x : List Int × Int) => impl_KeysInts x, [], [(true, 2)], [(false, 1)], [true], []⟩
noncomputable abbrev impl_KeysInts.E : V.Env := V.mkE V.tys [] [] [] [] [] []
theorem impl_KeysInts.eq (x0 : TKeys) : V.evBody impl_KeysInts.E impl_KeysInts.con Tryz.f271 ((x0.1, x0.2) : List Int × Int) = impl_KeysInts x0 := by kernel_rfl
theorem impl_KeysInts.ok : V.Valid Tryz.prog 271 impl_KeysInts.con :=
  V.fo V.tab_nil Tryz.func271 (by kernel_rfl) (fun x y h => (show V.evBody impl_KeysInts.E impl_KeysInts.con Tryz.f271 x = _ from impl_KeysInts.eq x).trans (V.cfl (by kernel_rfl) h))
noncomputable abbrev impl_InRange.con : V.Con := ⟨(.cons (.int .i64) (.cons (.int .i64) (.cons (.int .i64) .nil))), (.cons .bool .nil), fun (x : Int × Int × Int) => impl_InRange x.1 x.2.1 x.2.2, [], [(false, 1), (false, 1), (false, 1)], [(false, 1)], [false], []⟩
noncomputable abbrev impl_InRange.E : V.Env := V.mkE V.tys [] [] [] [] [] []
theorem impl_InRange.eq (x0 : Int) (x1 : Int) (x2 : Int) : V.evBody impl_InRange.E impl_InRange.con Tryz.f151 ((x0, x1, x2) : Int × Int × Int) = impl_InRange x0 x1 x2 := by kernel_rfl
theorem impl_InRange.ok : V.Valid Tryz.prog 151 impl_InRange.con :=
  V.fo V.tab_nil Tryz.func151 (by kernel_rfl) (fun x y h => (show V.evBody impl_InRange.E impl_InRange.con Tryz.f151 x = _ from impl_InRange.eq x.1 x.2.1 x.2.2).trans (V.cfl (by kernel_rfl) h))
noncomputable abbrev impl_Mod.con : V.Con := ⟨(.cons (.int .i64) (.cons (.int .i64) .nil)), (.cons (.int .i64) .nil), fun (x : Int × Int) => impl_Mod x.1 x.2, [], [(false, 1), (false, 1)], [(false, 1)], [false], []⟩
noncomputable abbrev impl_Mod.E : V.Env := V.mkE V.tys [(151, impl_InRange.con)] [] [] [] [] []
theorem impl_Mod.eq (x0 : Int) (x1 : Int) : V.evBody impl_Mod.E impl_Mod.con Tryz.f299 ((x0, x1) : Int × Int) = impl_Mod x0 x1 := by kernel_rfl
theorem impl_Mod.ok : V.Valid Tryz.prog 299 impl_Mod.con :=
  V.fo (V.tab_cons impl_InRange.ok V.tab_nil) Tryz.func299 (by kernel_rfl) (fun x y h => (show V.evBody impl_Mod.E impl_Mod.con Tryz.f299 x = _ from impl_Mod.eq x.1 x.2).trans (V.cfl (by kernel_rfl) h))
noncomputable abbrev impl_Hash.con : V.Con := ⟨(.cons (.sl (.cons (.int .i64) .nil)) .nil), (.cons (.int .i64) .nil), fun (x : List Int) => impl_Hash x, [], [(false, 1)], [(false, 1)], [false], []⟩
noncomputable abbrev impl_Hash.E : V.Env := V.mkE V.tys [(299, impl_Mod.con)] [(6, [3, 6, 7, 8], [])] [] [] [] []
noncomputable abbrev impl_Hash.kt (x0 : List Int) : V.Kt Int := V.ktOf impl_Hash.E impl_Hash.con Tryz.f260 ((x0) : List Int)
noncomputable abbrev impl_Hash.s6 (x0 : List Int) (v6_0 : Int) (v6_2 : Int) (v6_3 : Int) : V.St := ⟨[(3, .v false [.val (.int .i64 v6_0)]), (6, .v false [.val (.sl (.cons (.int .i64) .nil) x0)]), (7, .v false [.val (.int .i64 v6_2)]), (8, .v false [.val (.int .i64 v6_3)])], []⟩
theorem impl_Hash.r6 (x0 : List Int) (R : V.St → Option Int) (v6_0 : Int) (v6_2 : Int) (v6_3 : Int) : V.loopF impl_Hash.E Tryz.f260.ntmps [1, 1, 0, 1, 0] [] (V.codeOf Tryz.f260) (impl_Hash.kt x0) R (impl_Hash.s6 x0 v6_0 v6_2 v6_3) = impl_Hash.g6 x0 (fun v6_0 v6_2 v6_3 => R (impl_Hash.s6 x0 v6_0 v6_2 v6_3)) v6_0 v6_2 v6_3 := by kernel_rfl
theorem impl_Hash.e6 (x0 : List Int) : ∀ (n : Nat) (v6_0 : Int) (v6_2 : Int) (v6_3 : Int), V.loopN (V.loopF impl_Hash.E Tryz.f260.ntmps [1, 1, 0, 1, 0] [] (V.codeOf Tryz.f260) (impl_Hash.kt x0)) n (impl_Hash.s6 x0 v6_0 v6_2 v6_3) = impl_Hash.l6 x0 n v6_0 v6_2 v6_3 := by
  intro n
  induction n with
  | zero => intros; rw [V.loopN_z]; rfl
  | succ n ih =>
    intro v6_0 v6_2 v6_3
    rw [V.loopN_s, impl_Hash.r6]
    simp only [ih]
    first | exact (impl_Hash.u6 ..).symm | rfl
theorem impl_Hash.v (x0 : List Int) : V.evBody impl_Hash.E impl_Hash.con Tryz.f260 ((x0) : List Int) = impl_Hash.b x0 (fun v6_0 v6_2 v6_3 => V.loopN (V.loopF impl_Hash.E Tryz.f260.ntmps [1, 1, 0, 1, 0] [] (V.codeOf Tryz.f260) (impl_Hash.kt x0)) V.KK (impl_Hash.s6 x0 v6_0 v6_2 v6_3)) := by kernel_rfl
theorem impl_Hash.eq (x0 : List Int) : V.evBody impl_Hash.E impl_Hash.con Tryz.f260 ((x0) : List Int) = impl_Hash x0 := by
  rw [impl_Hash.v]
  simp only [impl_Hash.e6]
  rfl
theorem impl_Hash.ok : V.Valid Tryz.prog 260 impl_Hash.con :=
  V.fo (V.tab_cons impl_Mod.ok V.tab_nil) Tryz.func260 (by kernel_rfl) (fun x y h => (show V.evBody impl_Hash.E impl_Hash.con Tryz.f260 x = _ from impl_Hash.eq x).trans (V.cfl (by kernel_rfl) h))
noncomputable abbrev impl_ZoneOf.con : V.Con := ⟨(.cons (.sl (.cons (.int .i64) .nil)) (.cons (.int .i64) (.cons (.int .i64) .nil))), (.cons (.int .i64) .nil), fun (x : List Int × Int × Int) => impl_ZoneOf (x.1, x.2.1) x.2.2, [], [(true, 2), (false, 1)], [(false, 1)], [false], []⟩
noncomputable abbrev impl_ZoneOf.E : V.Env := V.mkE V.tys [(260, impl_Hash.con), (271, impl_KeysInts.con)] [] [] [] [] []
theorem impl_ZoneOf.eq (x0 : TKeys) (x1 : Int) : V.evBody impl_ZoneOf.E impl_ZoneOf.con Tryz.f227 ((x0.1, x0.2, x1) : List Int × Int × Int) = impl_ZoneOf x0 x1 := by kernel_rfl
theorem impl_ZoneOf.ok : V.Valid Tryz.prog 227 impl_ZoneOf.con :=
  V.fo (V.tab_cons impl_Hash.ok (V.tab_cons impl_KeysInts.ok V.tab_nil)) Tryz.func227 (by kernel_rfl) (fun x y h => (show V.evBody impl_ZoneOf.E impl_ZoneOf.con Tryz.f227 x = _ from impl_ZoneOf.eq (x.1, x.2.1) x.2.2).trans (V.cfl (by kernel_rfl) h))
noncomputable abbrev impl_until.con : V.Con := ⟨(.cons (.int .i64) (.cons (.int .i64) .nil)), (.cons (.int .i64) .nil), fun (x : Int × Int) => impl_until x.1 x.2, [], [(false, 1), (false, 1)], [(false, 1)], [false], []⟩
noncomputable abbrev impl_until.E : V.Env := V.mkE V.tys [(151, impl_InRange.con)] [(7, [0, 1], [])] [] [] [] []
noncomputable abbrev impl_until.kt (x0 : Int) (x1 : Int) : V.Kt Int := V.ktOf impl_until.E impl_until.con Tryz.f196 ((x0, x1) : Int × Int)
noncomputable abbrev impl_until.s7 (x0 : Int) (x1 : Int) : V.St := ⟨[(0, .v false [.val (.int .i64 x0)]), (1, .v false [.val (.int .i64 x1)])], []⟩
theorem impl_until.r7 (x0 : Int) (x1 : Int) : V.normK 7 ([0, 1], []) (V.joinF impl_until.E Tryz.f196.ntmps [1] [] (V.codeOf Tryz.f196) (impl_until.kt x0 x1)) (impl_until.s7 x0 x1) = impl_until.g7 x0 x1 := by kernel_rfl
theorem impl_until.e7 (x0 : Int) (x1 : Int) : V.normK 7 ([0, 1], []) (V.joinF impl_until.E Tryz.f196.ntmps [1] [] (V.codeOf Tryz.f196) (impl_until.kt x0 x1)) (impl_until.s7 x0 x1) = impl_until.l7 x0 x1 := by
  rw [impl_until.r7]
  rfl
theorem impl_until.v (x0 : Int) (x1 : Int) : V.evBody impl_until.E impl_until.con Tryz.f196 ((x0, x1) : Int × Int) = impl_until.b x0 x1 (V.normK 7 ([0, 1], []) (V.joinF impl_until.E Tryz.f196.ntmps [1] [] (V.codeOf Tryz.f196) (impl_until.kt x0 x1)) (impl_until.s7 x0 x1)) := by kernel_rfl
theorem impl_until.eq (x0 : Int) (x1 : Int) : V.evBody impl_until.E impl_until.con Tryz.f196 ((x0, x1) : Int × Int) = impl_until x0 x1 := by
  rw [impl_until.v]
  simp only [impl_until.e7]
  rfl
theorem impl_until.ok : V.Valid Tryz.prog 196 impl_until.con :=
  V.fo (V.tab_cons impl_InRange.ok V.tab_nil) Tryz.func196 (by kernel_rfl) (fun x y h => (show V.evBody impl_until.E impl_until.con Tryz.f196 x = _ from impl_until.eq x.1 x.2).trans (V.cfl (by kernel_rfl) h))
noncomputable abbrev impl_BytesToInts.con : V.Con := ⟨(.cons (.sl (.cons (.int .u8) .nil)) .nil), (.cons (.sl (.cons (.int .i64) .nil)) .nil), fun (x : List Int) => impl_BytesToInts x, [], [(false, 1)], [(false, 1)], [true], []⟩
noncomputable abbrev impl_BytesToInts.E : V.Env := V.mkE V.tys [] [(6, [3, 9, 10, 11], [])] [] [] [] []
noncomputable abbrev impl_BytesToInts.kt (x0 : List Int) : V.Kt (List Int) := V.ktOf impl_BytesToInts.E impl_BytesToInts.con Tryz.f318 ((x0) : List Int)
noncomputable abbrev impl_BytesToInts.s6 (x0 : List Int) (v6_1 : Int) (v6_2 : Int) (v6_3 : List Int) : V.St := ⟨[(3, .v false [.ref 64000038400192]), (9, .v false [.val (.sl (.cons (.int .u8) .nil) x0)]), (10, .v false [.val (.int .i64 v6_1)]), (11, .v false [.val (.int .i64 v6_2)])], [(64000038400192, .row (.cons (.int .i64) .nil) true v6_3)]⟩
theorem impl_BytesToInts.r6 (x0 : List Int) (R : V.St → Option (List Int)) (v6_1 : Int) (v6_2 : Int) (v6_3 : List Int) : V.loopF impl_BytesToInts.E Tryz.f318.ntmps [1, 1, 0, 1, 0] [] (V.codeOf Tryz.f318) (impl_BytesToInts.kt x0) R (impl_BytesToInts.s6 x0 v6_1 v6_2 v6_3) = impl_BytesToInts.g6 x0 (fun v6_1 v6_2 v6_3 => R (impl_BytesToInts.s6 x0 v6_1 v6_2 v6_3)) v6_1 v6_2 v6_3 := by kernel_rfl
theorem impl_BytesToInts.e6 (x0 : List Int) : ∀ (n : Nat) (v6_1 : Int) (v6_2 : Int) (v6_3 : List Int), V.loopN (V.loopF impl_BytesToInts.E Tryz.f318.ntmps [1, 1, 0, 1, 0] [] (V.codeOf Tryz.f318) (impl_BytesToInts.kt x0)) n (impl_BytesToInts.s6 x0 v6_1 v6_2 v6_3) = impl_BytesToInts.l6 x0 n v6_1 v6_2 v6_3 := by
  intro n
  induction n with
  | zero => intros; rw [V.loopN_z]; rfl
  | succ n ih =>
    intro v6_1 v6_2 v6_3
    rw [V.loopN_s, impl_BytesToInts.r6]
    simp only [ih]
    first | exact (impl_BytesToInts.u6 ..).symm | rfl
theorem impl_BytesToInts.v (x0 : List Int) : V.evBody impl_BytesToInts.E impl_BytesToInts.con Tryz.f318 ((x0) : List Int) = impl_BytesToInts.b x0 (fun v6_1 v6_2 v6_3 => V.loopN (V.loopF impl_BytesToInts.E Tryz.f318.ntmps [1, 1, 0, 1, 0] [] (V.codeOf Tryz.f318) (impl_BytesToInts.kt x0)) V.KK (impl_BytesToInts.s6 x0 v6_1 v6_2 v6_3)) := by kernel_rfl
theorem impl_BytesToInts.eq (x0 : List Int) : V.evBody impl_BytesToInts.E impl_BytesToInts.con Tryz.f318 ((x0) : List Int) = impl_BytesToInts x0 := by
  rw [impl_BytesToInts.v]
  simp only [impl_BytesToInts.e6]
  rfl
theorem impl_BytesToInts.ok : V.Valid Tryz.prog 318 impl_BytesToInts.con :=
  V.fo V.tab_nil Tryz.func318 (by kernel_rfl) (fun x y h => (show V.evBody impl_BytesToInts.E impl_BytesToInts.con Tryz.f318 x = _ from impl_BytesToInts.eq x).trans (V.cfl (by kernel_rfl) h))
noncomputable abbrev impl_LabelInts.con : V.Con := ⟨(.cons .str .nil), (.cons (.sl (.cons (.int .i64) .nil)) .nil), fun (x : ByteArray) => impl_LabelInts x, [], [(false, 1)], [(false, 1)], [true], []⟩
noncomputable abbrev impl_LabelInts.E : V.Env := V.mkE V.tys [(318, impl_BytesToInts.con)] [] [] [] [] []
theorem impl_LabelInts.eq (x0 : ByteArray) : V.evBody impl_LabelInts.E impl_LabelInts.con Tryz.f314 ((x0) : ByteArray) = impl_LabelInts x0 := by kernel_rfl
theorem impl_LabelInts.ok : V.Valid Tryz.prog 314 impl_LabelInts.con :=
  V.fo (V.tab_cons impl_BytesToInts.ok V.tab_nil) Tryz.func314 (by kernel_rfl) (fun x y h => (show V.evBody impl_LabelInts.E impl_LabelInts.con Tryz.f314 x = _ from impl_LabelInts.eq x).trans (V.cfl (by kernel_rfl) h))
noncomputable abbrev impl_EntryInts.con : V.Con := ⟨V.eEntry, (.cons (.sl (.cons (.int .i64) .nil)) .nil), fun (x : ByteArray × Int × Int × List ByteArray) => impl_EntryInts x, [], [(true, 4)], [(false, 1)], [true], []⟩
noncomputable abbrev impl_EntryInts.E : V.Env := V.mkE V.tys [(314, impl_LabelInts.con)] [(6, [3, 19, 20, 21], [])] [(1, 11)] [] [] []
noncomputable abbrev impl_EntryInts.kt (x0 : TEntry) : V.Kt (List Int) := V.ktOf impl_EntryInts.E impl_EntryInts.con Tryz.f301 ((x0.1, x0.2.1, x0.2.2.1, x0.2.2.2) : ByteArray × Int × Int × List ByteArray)
noncomputable abbrev impl_EntryInts.s6 (x0 : TEntry) (v6_1 : Int) (v6_2 : Int) (v6_3 : List Int) : V.St := ⟨[(3, .v false [.ref 64000038400192]), (19, .v false [.val (.sl (.cons .str .nil) x0.2.2.2)]), (20, .v false [.val (.int .i64 v6_1)]), (21, .v false [.val (.int .i64 v6_2)])], [(64000038400192, .row (.cons (.int .i64) .nil) true v6_3)]⟩
theorem impl_EntryInts.r6 (x0 : TEntry) (R : V.St → Option (List Int)) (v6_1 : Int) (v6_2 : Int) (v6_3 : List Int) : V.loopF impl_EntryInts.E Tryz.f301.ntmps [1, 1, 0, 1, 0] [] (V.codeOf Tryz.f301) (impl_EntryInts.kt x0) R (impl_EntryInts.s6 x0 v6_1 v6_2 v6_3) = impl_EntryInts.g6 x0 (fun v6_1 v6_2 v6_3 => R (impl_EntryInts.s6 x0 v6_1 v6_2 v6_3)) v6_1 v6_2 v6_3 := by kernel_rfl
theorem impl_EntryInts.e6 (x0 : TEntry) : ∀ (n : Nat) (v6_1 : Int) (v6_2 : Int) (v6_3 : List Int), V.loopN (V.loopF impl_EntryInts.E Tryz.f301.ntmps [1, 1, 0, 1, 0] [] (V.codeOf Tryz.f301) (impl_EntryInts.kt x0)) n (impl_EntryInts.s6 x0 v6_1 v6_2 v6_3) = impl_EntryInts.l6 x0 n v6_1 v6_2 v6_3 := by
  intro n
  induction n with
  | zero => intros; rw [V.loopN_z]; rfl
  | succ n ih =>
    intro v6_1 v6_2 v6_3
    rw [V.loopN_s, impl_EntryInts.r6]
    simp only [ih]
    first | exact (impl_EntryInts.u6 ..).symm | rfl
theorem impl_EntryInts.v (x0 : TEntry) : V.evBody impl_EntryInts.E impl_EntryInts.con Tryz.f301 ((x0.1, x0.2.1, x0.2.2.1, x0.2.2.2) : ByteArray × Int × Int × List ByteArray) = impl_EntryInts.b x0 (fun v6_1 v6_2 v6_3 => V.loopN (V.loopF impl_EntryInts.E Tryz.f301.ntmps [1, 1, 0, 1, 0] [] (V.codeOf Tryz.f301) (impl_EntryInts.kt x0)) V.KK (impl_EntryInts.s6 x0 v6_1 v6_2 v6_3)) := by kernel_rfl
theorem impl_EntryInts.eq (x0 : TEntry) : V.evBody impl_EntryInts.E impl_EntryInts.con Tryz.f301 ((x0.1, x0.2.1, x0.2.2.1, x0.2.2.2) : ByteArray × Int × Int × List ByteArray) = impl_EntryInts x0 := by
  rw [impl_EntryInts.v]
  simp only [impl_EntryInts.e6]
  rfl
theorem impl_EntryInts.ok : V.Valid Tryz.prog 301 impl_EntryInts.con :=
  V.fo (V.tab_cons impl_LabelInts.ok V.tab_nil) Tryz.func301 (by kernel_rfl) (fun x y h => (show V.evBody impl_EntryInts.E impl_EntryInts.con Tryz.f301 x = _ from impl_EntryInts.eq x).trans (V.cfl (by kernel_rfl) h))
noncomputable abbrev impl_LeafOf.con : V.Con := ⟨V.eEntry, (.cons (.int .i64) .nil), fun (x : ByteArray × Int × Int × List ByteArray) => impl_LeafOf x, [], [(true, 4)], [(false, 1)], [false], []⟩
noncomputable abbrev impl_LeafOf.E : V.Env := V.mkE V.tys [(260, impl_Hash.con), (301, impl_EntryInts.con)] [] [] [] [] []
theorem impl_LeafOf.eq (x0 : TEntry) : V.evBody impl_LeafOf.E impl_LeafOf.con Tryz.f263 ((x0.1, x0.2.1, x0.2.2.1, x0.2.2.2) : ByteArray × Int × Int × List ByteArray) = impl_LeafOf x0 := by kernel_rfl
theorem impl_LeafOf.ok : V.Valid Tryz.prog 263 impl_LeafOf.con :=
  V.fo (V.tab_cons impl_Hash.ok (V.tab_cons impl_EntryInts.ok V.tab_nil)) Tryz.func263 (by kernel_rfl) (fun x y h => (show V.evBody impl_LeafOf.E impl_LeafOf.con Tryz.f263 x = _ from impl_LeafOf.eq x).trans (V.cfl (by kernel_rfl) h))
noncomputable abbrev impl_LeavesOf.con : V.Con := ⟨(.cons (.sl V.eEntry) .nil), (.cons (.sl (.cons (.int .i64) .nil)) .nil), fun (x : List TEntry) => impl_LeavesOf x, [], [(false, 1)], [(false, 1)], [true], []⟩
noncomputable abbrev impl_LeavesOf.E : V.Env := V.mkE V.tys [(263, impl_LeafOf.con)] [(6, [3, 7, 8, 9], [(64000038400192, (.cons (.int .i64) .nil), true)])] [] [] [] []
noncomputable abbrev impl_LeavesOf.kt (x0 : List TEntry) : V.Kt (List Int) := V.ktOf impl_LeavesOf.E impl_LeavesOf.con Tryz.f200 ((x0) : List TEntry)
noncomputable abbrev impl_LeavesOf.s6 (x0 : List TEntry) (v6_1 : Int) (v6_2 : Int) (v6_3 : List Int) : V.St := ⟨[(3, .v false [.ref 64000038400192]), (7, .v false [.val (.sl V.eEntry x0)]), (8, .v false [.val (.int .i64 v6_1)]), (9, .v false [.val (.int .i64 v6_2)])], [(64000038400192, .row (.cons (.int .i64) .nil) true v6_3)]⟩
theorem impl_LeavesOf.r6 (x0 : List TEntry) (R : V.St → Option (List Int)) (v6_1 : Int) (v6_2 : Int) (v6_3 : List Int) : V.loopF impl_LeavesOf.E Tryz.f200.ntmps [1, 1, 0, 1, 0] [] (V.codeOf Tryz.f200) (impl_LeavesOf.kt x0) R (impl_LeavesOf.s6 x0 v6_1 v6_2 v6_3) = impl_LeavesOf.g6 x0 (fun v6_1 v6_2 v6_3 => R (impl_LeavesOf.s6 x0 v6_1 v6_2 v6_3)) v6_1 v6_2 v6_3 := by kernel_rfl
theorem impl_LeavesOf.e6 (x0 : List TEntry) : ∀ (n : Nat) (v6_1 : Int) (v6_2 : Int) (v6_3 : List Int), V.loopN (V.loopF impl_LeavesOf.E Tryz.f200.ntmps [1, 1, 0, 1, 0] [] (V.codeOf Tryz.f200) (impl_LeavesOf.kt x0)) n (impl_LeavesOf.s6 x0 v6_1 v6_2 v6_3) = impl_LeavesOf.l6 x0 n v6_1 v6_2 v6_3 := by
  intro n
  induction n with
  | zero => intros; rw [V.loopN_z]; rfl
  | succ n ih =>
    intro v6_1 v6_2 v6_3
    rw [V.loopN_s, impl_LeavesOf.r6]
    simp only [ih]
    first | exact (impl_LeavesOf.u6 ..).symm | rfl
theorem impl_LeavesOf.v (x0 : List TEntry) : V.evBody impl_LeavesOf.E impl_LeavesOf.con Tryz.f200 ((x0) : List TEntry) = impl_LeavesOf.b x0 (fun v6_1 v6_2 v6_3 => V.loopN (V.loopF impl_LeavesOf.E Tryz.f200.ntmps [1, 1, 0, 1, 0] [] (V.codeOf Tryz.f200) (impl_LeavesOf.kt x0)) V.KK (impl_LeavesOf.s6 x0 v6_1 v6_2 v6_3)) := by kernel_rfl
theorem impl_LeavesOf.eq (x0 : List TEntry) : V.evBody impl_LeavesOf.E impl_LeavesOf.con Tryz.f200 ((x0) : List TEntry) = impl_LeavesOf x0 := by
  rw [impl_LeavesOf.v]
  simp only [impl_LeavesOf.e6]
  rfl
theorem impl_LeavesOf.ok : V.Valid Tryz.prog 200 impl_LeavesOf.con :=
  V.fo (V.tab_cons impl_LeafOf.ok V.tab_nil) Tryz.func200 (by kernel_rfl) (fun x y h => (show V.evBody impl_LeavesOf.E impl_LeavesOf.con Tryz.f200 x = _ from impl_LeavesOf.eq x).trans (V.cfl (by kernel_rfl) h))
noncomputable abbrev impl_hash.con : V.Con := ⟨(.cons (.sl (.cons (.int .i64) .nil)) .nil), (.cons (.int .i64) .nil), fun (x : List Int) => impl_hash x, [], [(false, 1)], [(false, 1)], [false], []⟩
noncomputable abbrev impl_hash.E : V.Env := V.mkE V.tys [(260, impl_Hash.con)] [] [] [] [] []
theorem impl_hash.eq (x0 : List Int) : V.evBody impl_hash.E impl_hash.con Tryz.f261 ((x0) : List Int) = impl_hash x0 := by kernel_rfl
theorem impl_hash.ok : V.Valid Tryz.prog 261 impl_hash.con :=
  V.fo (V.tab_cons impl_Hash.ok V.tab_nil) Tryz.func261 (by kernel_rfl) (fun x y h => (show V.evBody impl_hash.E impl_hash.con Tryz.f261 x = _ from impl_hash.eq x).trans (V.cfl (by kernel_rfl) h))
noncomputable abbrev impl_NodeOf.con : V.Con := ⟨(.cons (.int .i64) (.cons (.int .i64) .nil)), (.cons (.int .i64) .nil), fun (x : Int × Int) => impl_NodeOf x.1 x.2, [], [(false, 1), (false, 1)], [(false, 1)], [false], []⟩
noncomputable abbrev impl_NodeOf.E : V.Env := V.mkE V.tys [(261, impl_hash.con)] [] [] [] [] []
theorem impl_NodeOf.eq (x0 : Int) (x1 : Int) : V.evBody impl_NodeOf.E impl_NodeOf.con Tryz.f300 ((x0, x1) : Int × Int) = impl_NodeOf x0 x1 := by kernel_rfl
theorem impl_NodeOf.ok : V.Valid Tryz.prog 300 impl_NodeOf.con :=
  V.fo (V.tab_cons impl_hash.ok V.tab_nil) Tryz.func300 (by kernel_rfl) (fun x y h => (show V.evBody impl_NodeOf.E impl_NodeOf.con Tryz.f300 x = _ from impl_NodeOf.eq x.1 x.2).trans (V.cfl (by kernel_rfl) h))
noncomputable abbrev impl_above.con : V.Con := ⟨(.cons (.sl (.cons (.int .i64) .nil)) .nil), (.cons (.sl (.cons (.int .i64) .nil)) .nil), fun (x : List Int) => impl_above x, [], [(false, 1)], [(false, 1)], [true], []⟩
noncomputable abbrev impl_above.E : V.Env := V.mkE V.tys [(300, impl_NodeOf.con)] [(6, [0, 3, 4], [(64000038400192, (.cons (.int .i64) .nil), true)])] [(6, 12)] [] [] []
noncomputable abbrev impl_above.kt (x0 : List Int) : V.Kt (List Int) := V.ktOf impl_above.E impl_above.con Tryz.f262 ((x0) : List Int)
noncomputable abbrev impl_above.s6 (x0 : List Int) (v6_1 : Int) (v6_2 : List Int) : V.St := ⟨[(0, .v false [.val (.sl (.cons (.int .i64) .nil) x0)]), (3, .v false [.ref 64000038400192]), (4, .v false [.val (.int .i64 v6_1)])], [(64000038400192, .row (.cons (.int .i64) .nil) true v6_2)]⟩
theorem impl_above.r6 (x0 : List Int) (R : V.St → Option (List Int)) (v6_1 : Int) (v6_2 : List Int) : V.loopF impl_above.E Tryz.f262.ntmps [1, 1, 0, 1, 0] [] (V.codeOf Tryz.f262) (impl_above.kt x0) R (impl_above.s6 x0 v6_1 v6_2) = impl_above.g6 x0 (fun v6_1 v6_2 => R (impl_above.s6 x0 v6_1 v6_2)) v6_1 v6_2 := by kernel_rfl
theorem impl_above.e6 (x0 : List Int) : ∀ (n : Nat) (v6_1 : Int) (v6_2 : List Int), V.loopN (V.loopF impl_above.E Tryz.f262.ntmps [1, 1, 0, 1, 0] [] (V.codeOf Tryz.f262) (impl_above.kt x0)) n (impl_above.s6 x0 v6_1 v6_2) = impl_above.l6 x0 n v6_1 v6_2 := by
  intro n
  induction n with
  | zero => intros; rw [V.loopN_z]; rfl
  | succ n ih =>
    intro v6_1 v6_2
    rw [V.loopN_s, impl_above.r6]
    simp only [ih]
    first | exact (impl_above.u6 ..).symm | rfl
theorem impl_above.v (x0 : List Int) : V.evBody impl_above.E impl_above.con Tryz.f262 ((x0) : List Int) = impl_above.b x0 (fun v6_1 v6_2 => V.loopN (V.loopF impl_above.E Tryz.f262.ntmps [1, 1, 0, 1, 0] [] (V.codeOf Tryz.f262) (impl_above.kt x0)) V.KK (impl_above.s6 x0 v6_1 v6_2)) := by kernel_rfl
theorem impl_above.eq (x0 : List Int) : V.evBody impl_above.E impl_above.con Tryz.f262 ((x0) : List Int) = impl_above x0 := by
  rw [impl_above.v]
  simp only [impl_above.e6]
  rfl
theorem impl_above.ok : V.Valid Tryz.prog 262 impl_above.con :=
  V.fo (V.tab_cons impl_NodeOf.ok V.tab_nil) Tryz.func262 (by kernel_rfl) (fun x y h => (show V.evBody impl_above.E impl_above.con Tryz.f262 x = _ from impl_above.eq x).trans (V.cfl (by kernel_rfl) h))
noncomputable abbrev impl_TopOf.con : V.Con := ⟨(.cons (.sl (.cons (.int .i64) .nil)) .nil), (.cons (.int .i64) .nil), fun (x : List Int) => impl_TopOf x, [], [(false, 1)], [(false, 1)], [false], []⟩
noncomputable abbrev impl_TopOf.E : V.Env := V.mkE V.tys [(261, impl_hash.con), (262, impl_above.con)] [(6, [0], [(0, (.cons (.int .i64) .nil), false)])] [] [] [] []
noncomputable abbrev impl_TopOf.kt (x0 : List Int) : V.Kt Int := V.ktOf impl_TopOf.E impl_TopOf.con Tryz.f199 ((x0) : List Int)
noncomputable abbrev impl_TopOf.s6 (v6_0 : List Int) : V.St := ⟨[(0, .v false [.val (.sl (.cons (.int .i64) .nil) v6_0)])], []⟩
theorem impl_TopOf.r6 (x0 : List Int) (R : V.St → Option Int) (v6_0 : List Int) : V.loopF impl_TopOf.E Tryz.f199.ntmps [1, 1, 0, 0] [] (V.codeOf Tryz.f199) (impl_TopOf.kt x0) R (impl_TopOf.s6 v6_0) = impl_TopOf.g6 (fun v6_0 => R (impl_TopOf.s6 v6_0)) v6_0 := by kernel_rfl
theorem impl_TopOf.e6 (x0 : List Int) : ∀ (n : Nat) (v6_0 : List Int), V.loopN (V.loopF impl_TopOf.E Tryz.f199.ntmps [1, 1, 0, 0] [] (V.codeOf Tryz.f199) (impl_TopOf.kt x0)) n (impl_TopOf.s6 v6_0) = impl_TopOf.l6 n v6_0 := by
  intro n
  induction n with
  | zero => intros; rw [V.loopN_z]; rfl
  | succ n ih =>
    intro v6_0
    rw [V.loopN_s, impl_TopOf.r6]
    simp only [ih]
    first | exact (impl_TopOf.u6 ..).symm | rfl
theorem impl_TopOf.v (x0 : List Int) : V.evBody impl_TopOf.E impl_TopOf.con Tryz.f199 ((x0) : List Int) = impl_TopOf.b x0 (fun v6_0 => V.loopN (V.loopF impl_TopOf.E Tryz.f199.ntmps [1, 1, 0, 0] [] (V.codeOf Tryz.f199) (impl_TopOf.kt x0)) V.KK (impl_TopOf.s6 v6_0)) := by kernel_rfl
theorem impl_TopOf.eq (x0 : List Int) : V.evBody impl_TopOf.E impl_TopOf.con Tryz.f199 ((x0) : List Int) = impl_TopOf x0 := by
  rw [impl_TopOf.v]
  simp only [impl_TopOf.e6]
  rfl
theorem impl_TopOf.ok : V.Valid Tryz.prog 199 impl_TopOf.con :=
  V.fo (V.tab_cons impl_hash.ok (V.tab_cons impl_above.ok V.tab_nil)) Tryz.func199 (by kernel_rfl) (fun x y h => (show V.evBody impl_TopOf.E impl_TopOf.con Tryz.f199 x = _ from impl_TopOf.eq x).trans (V.cfl (by kernel_rfl) h))
noncomputable abbrev impl_rootFrom.con : V.Con := ⟨(.cons (.int .i64) (.cons (.int .i64) .nil)), (.cons (.int .i64) .nil), fun (x : Int × Int) => impl_rootFrom x.1 x.2, [], [(false, 1), (false, 1)], [(false, 1)], [false], []⟩
noncomputable abbrev impl_rootFrom.E : V.Env := V.mkE V.tys [(261, impl_hash.con)] [] [] [] [] []
theorem impl_rootFrom.eq (x0 : Int) (x1 : Int) : V.evBody impl_rootFrom.E impl_rootFrom.con Tryz.f198 ((x0, x1) : Int × Int) = impl_rootFrom x0 x1 := by kernel_rfl
theorem impl_rootFrom.ok : V.Valid Tryz.prog 198 impl_rootFrom.con :=
  V.fo (V.tab_cons impl_hash.ok V.tab_nil) Tryz.func198 (by kernel_rfl) (fun x y h => (show V.evBody impl_rootFrom.E impl_rootFrom.con Tryz.f198 x = _ from impl_rootFrom.eq x.1 x.2).trans (V.cfl (by kernel_rfl) h))
noncomputable abbrev impl_RootOf.con : V.Con := ⟨(.cons (.sl V.eEntry) .nil), (.cons (.int .i64) .nil), fun (x : List TEntry) => impl_RootOf x, [], [(false, 1)], [(false, 1)], [false], []⟩
noncomputable abbrev impl_RootOf.E : V.Env := V.mkE V.tys [(198, impl_rootFrom.con), (199, impl_TopOf.con), (200, impl_LeavesOf.con)] [] [] [] [] []
theorem impl_RootOf.eq (x0 : List TEntry) : V.evBody impl_RootOf.E impl_RootOf.con Tryz.f94 ((x0) : List TEntry) = impl_RootOf x0 := by kernel_rfl
theorem impl_RootOf.ok : V.Valid Tryz.prog 94 impl_RootOf.con :=
  V.fo (V.tab_cons impl_rootFrom.ok (V.tab_cons impl_TopOf.ok (V.tab_cons impl_LeavesOf.ok V.tab_nil))) Tryz.func94 (by kernel_rfl) (fun x y h => (show V.evBody impl_RootOf.E impl_RootOf.con Tryz.f94 x = _ from impl_RootOf.eq x).trans (V.cfl (by kernel_rfl) h))
noncomputable abbrev slices_Clone_int.con : V.Con := ⟨(.cons (.sl (.cons (.int .i64) .nil)) .nil), (.cons (.sl (.cons (.int .i64) .nil)) .nil), fun (x : List Int) => slices_Clone_int x, [], [(false, 1)], [(false, 1)], [true], []⟩
noncomputable abbrev slices_Clone_int.E : V.Env := V.mkE V.tys [] [] [] [] [] []
theorem slices_Clone_int.eq (x0 : List Int) : V.evBody slices_Clone_int.E slices_Clone_int.con Tryz.f275 ((x0) : List Int) = slices_Clone_int x0 := by kernel_rfl
theorem slices_Clone_int.ok : V.Valid Tryz.prog 275 slices_Clone_int.con :=
  V.fo V.tab_nil Tryz.func275 (by kernel_rfl) (fun x y h => (show V.evBody slices_Clone_int.E slices_Clone_int.con Tryz.f275 x = _ from slices_Clone_int.eq x).trans (V.cfl (by kernel_rfl) h))
noncomputable abbrev impl_copyKeys.con : V.Con := ⟨(.cons (.sl (.cons (.int .i64) .nil)) (.cons (.int .i64) .nil)), (.cons (.sl (.cons (.int .i64) .nil)) (.cons (.int .i64) .nil)), fun (x : List Int × Int) => impl_copyKeys x, [], [(true, 2)], [(true, 2)], [true, false], []⟩
noncomputable abbrev impl_copyKeys.E : V.Env := V.mkE V.tys [(275, slices_Clone_int.con)] [] [(1, 5)] [] [] []
theorem impl_copyKeys.eq (x0 : TKeys) : V.evBody impl_copyKeys.E impl_copyKeys.con Tryz.f228 ((x0.1, x0.2) : List Int × Int) = impl_copyKeys x0 := by kernel_rfl
theorem impl_copyKeys.ok : V.Valid Tryz.prog 228 impl_copyKeys.con :=
  V.fo (V.tab_cons slices_Clone_int.ok V.tab_nil) Tryz.func228 (by kernel_rfl) (fun x y h => (show V.evBody impl_copyKeys.E impl_copyKeys.con Tryz.f228 x = _ from impl_copyKeys.eq x).trans (V.cfl (by kernel_rfl) h))
noncomputable abbrev impl_IsLabel.con : V.Con := ⟨(.cons .str .nil), (.cons .bool .nil), fun (x : ByteArray) => impl_IsLabel x, [], [(false, 1)], [(false, 1)], [false], []⟩
noncomputable abbrev impl_IsLabel.E : V.Env := V.mkE V.tys [(151, impl_InRange.con)] [(4, [0, 6, 7], [])] [] [] [] []
noncomputable abbrev impl_IsLabel.kt (x0 : ByteArray) : V.Kt Bool := V.ktOf impl_IsLabel.E impl_IsLabel.con Tryz.f252 ((x0) : ByteArray)
noncomputable abbrev impl_IsLabel.s4 (x0 : ByteArray) (v4_1 : Int) (v4_2 : Int) : V.St := ⟨[(0, .v false [.val (.str x0)]), (6, .v false [.val (.int .i64 v4_1)]), (7, .v false [.val (.int .i64 v4_2)])], []⟩
theorem impl_IsLabel.r4 (x0 : ByteArray) (R : V.St → Option Bool) (v4_1 : Int) (v4_2 : Int) : V.loopF impl_IsLabel.E Tryz.f252.ntmps [1, 0, 1, 0] [] (V.codeOf Tryz.f252) (impl_IsLabel.kt x0) R (impl_IsLabel.s4 x0 v4_1 v4_2) = impl_IsLabel.g4 x0 (fun v4_1 v4_2 => R (impl_IsLabel.s4 x0 v4_1 v4_2)) v4_1 v4_2 := by kernel_rfl
theorem impl_IsLabel.e4 (x0 : ByteArray) : ∀ (n : Nat) (v4_1 : Int) (v4_2 : Int), V.loopN (V.loopF impl_IsLabel.E Tryz.f252.ntmps [1, 0, 1, 0] [] (V.codeOf Tryz.f252) (impl_IsLabel.kt x0)) n (impl_IsLabel.s4 x0 v4_1 v4_2) = impl_IsLabel.l4 x0 n v4_1 v4_2 := by
  intro n
  induction n with
  | zero => intros; rw [V.loopN_z]; rfl
  | succ n ih =>
    intro v4_1 v4_2
    rw [V.loopN_s, impl_IsLabel.r4]
    simp only [ih]
    first | exact (impl_IsLabel.u4 ..).symm | rfl
theorem impl_IsLabel.v (x0 : ByteArray) : V.evBody impl_IsLabel.E impl_IsLabel.con Tryz.f252 ((x0) : ByteArray) = impl_IsLabel.b x0 (fun v4_1 v4_2 => V.loopN (V.loopF impl_IsLabel.E Tryz.f252.ntmps [1, 0, 1, 0] [] (V.codeOf Tryz.f252) (impl_IsLabel.kt x0)) V.KK (impl_IsLabel.s4 x0 v4_1 v4_2)) := by kernel_rfl
theorem impl_IsLabel.eq (x0 : ByteArray) : V.evBody impl_IsLabel.E impl_IsLabel.con Tryz.f252 ((x0) : ByteArray) = impl_IsLabel x0 := by
  rw [impl_IsLabel.v]
  simp only [impl_IsLabel.e4]
  rfl
theorem impl_IsLabel.ok : V.Valid Tryz.prog 252 impl_IsLabel.con :=
  V.fo (V.tab_cons impl_InRange.ok V.tab_nil) Tryz.func252 (by kernel_rfl) (fun x y h => (show V.evBody impl_IsLabel.E impl_IsLabel.con Tryz.f252 x = _ from impl_IsLabel.eq x).trans (V.cfl (by kernel_rfl) h))
noncomputable abbrev impl_isDigest.con : V.Con := ⟨(.cons (.int .i64) .nil), (.cons .bool .nil), fun (x : Int) => impl_isDigest x, [], [(false, 1)], [(false, 1)], [false], []⟩
noncomputable abbrev impl_isDigest.E : V.Env := V.mkE V.tys [(151, impl_InRange.con)] [] [] [] [] []
theorem impl_isDigest.eq (x0 : Int) : V.evBody impl_isDigest.E impl_isDigest.con Tryz.f217 ((x0) : Int) = impl_isDigest x0 := by kernel_rfl
theorem impl_isDigest.ok : V.Valid Tryz.prog 217 impl_isDigest.con :=
  V.fo (V.tab_cons impl_InRange.ok V.tab_nil) Tryz.func217 (by kernel_rfl) (fun x y h => (show V.evBody impl_isDigest.E impl_isDigest.con Tryz.f217 x = _ from impl_isDigest.eq x).trans (V.cfl (by kernel_rfl) h))
noncomputable abbrev impl_IsPath_1.con : V.Con := ⟨(.cons .str .nil), (.cons .bool .nil), fun (x : ByteArray) => impl_IsPath_1 x, [], [(false, 1)], [(false, 1)], [false], []⟩
noncomputable abbrev impl_IsPath_1.E : V.Env := V.mkE V.tys [(252, impl_IsLabel.con)] [] [] [] [] []
theorem impl_IsPath_1.eq (x0 : ByteArray) : V.evBody impl_IsPath_1.E impl_IsPath_1.con Tryz.f296 ((x0) : ByteArray) = impl_IsPath_1 x0 := by kernel_rfl
theorem impl_IsPath_1.ok : V.Valid Tryz.prog 296 impl_IsPath_1.con :=
  V.fo (V.tab_cons impl_IsLabel.ok V.tab_nil) Tryz.func296 (by kernel_rfl) (fun x y h => (show V.evBody impl_IsPath_1.E impl_IsPath_1.con Tryz.f296 x = _ from impl_IsPath_1.eq x).trans (V.cfl (by kernel_rfl) h))
noncomputable abbrev slices_IndexFunc_string__IsPath_1.con : V.Con := ⟨(.cons (.sl (.cons .str .nil)) (.cons (.fn 296 false .nil .nil) .nil)), (.cons (.int .i64) .nil), fun (x : List ByteArray × (Unit) × (Unit)) => slices_IndexFunc_string__IsPath_1 x.1 x.2, [], [(false, 1), (false, 1)], [(false, 1)], [false], []⟩
noncomputable abbrev slices_IndexFunc_string__IsPath_1.E : V.Env := V.mkE V.tys [(296, impl_IsPath_1.con)] [(4, [0, 1, 7, 8], [])] [] [] [] []
noncomputable abbrev slices_IndexFunc_string__IsPath_1.kt (x0 : List ByteArray) (x1 : (Unit) × (Unit)) : V.Kt Int := V.ktOf slices_IndexFunc_string__IsPath_1.E slices_IndexFunc_string__IsPath_1.con Tryz.f312 ((x0, x1) : List ByteArray × (Unit) × (Unit))
noncomputable abbrev slices_IndexFunc_string__IsPath_1.s4 (x0 : List ByteArray) (v4_1 : Int) (v4_2 : Int) : V.St := ⟨[(0, .v false [.val (.sl (.cons .str .nil) x0)]), (1, .v false [.val (.fn 296 false .nil .nil () ())]), (7, .v false [.val (.int .i64 v4_1)]), (8, .v false [.val (.int .i64 v4_2)])], []⟩
theorem slices_IndexFunc_string__IsPath_1.r4 (x0 : List ByteArray) (x1 : (Unit) × (Unit)) (R : V.St → Option Int) (v4_1 : Int) (v4_2 : Int) : V.loopF slices_IndexFunc_string__IsPath_1.E Tryz.f312.ntmps [1, 0, 1, 0] [] (V.codeOf Tryz.f312) (slices_IndexFunc_string__IsPath_1.kt x0 x1) R (slices_IndexFunc_string__IsPath_1.s4 x0 v4_1 v4_2) = slices_IndexFunc_string__IsPath_1.g4 x0 (fun v4_1 v4_2 => R (slices_IndexFunc_string__IsPath_1.s4 x0 v4_1 v4_2)) v4_1 v4_2 := by kernel_rfl
theorem slices_IndexFunc_string__IsPath_1.e4 (x0 : List ByteArray) (x1 : (Unit) × (Unit)) : ∀ (n : Nat) (v4_1 : Int) (v4_2 : Int), V.loopN (V.loopF slices_IndexFunc_string__IsPath_1.E Tryz.f312.ntmps [1, 0, 1, 0] [] (V.codeOf Tryz.f312) (slices_IndexFunc_string__IsPath_1.kt x0 x1)) n (slices_IndexFunc_string__IsPath_1.s4 x0 v4_1 v4_2) = slices_IndexFunc_string__IsPath_1.l4 x0 n v4_1 v4_2 := by
  intro n
  induction n with
  | zero => intros; rw [V.loopN_z]; rfl
  | succ n ih =>
    intro v4_1 v4_2
    rw [V.loopN_s, slices_IndexFunc_string__IsPath_1.r4]
    simp only [ih]
    first | exact (slices_IndexFunc_string__IsPath_1.u4 ..).symm | rfl
theorem slices_IndexFunc_string__IsPath_1.v (x0 : List ByteArray) (x1 : (Unit) × (Unit)) : V.evBody slices_IndexFunc_string__IsPath_1.E slices_IndexFunc_string__IsPath_1.con Tryz.f312 ((x0, x1) : List ByteArray × (Unit) × (Unit)) = slices_IndexFunc_string__IsPath_1.b x0 x1 (fun v4_1 v4_2 => V.loopN (V.loopF slices_IndexFunc_string__IsPath_1.E Tryz.f312.ntmps [1, 0, 1, 0] [] (V.codeOf Tryz.f312) (slices_IndexFunc_string__IsPath_1.kt x0 x1)) V.KK (slices_IndexFunc_string__IsPath_1.s4 x0 v4_1 v4_2)) := by kernel_rfl
theorem slices_IndexFunc_string__IsPath_1.eq (x0 : List ByteArray) (x1 : (Unit) × (Unit)) : V.evBody slices_IndexFunc_string__IsPath_1.E slices_IndexFunc_string__IsPath_1.con Tryz.f312 ((x0, x1) : List ByteArray × (Unit) × (Unit)) = slices_IndexFunc_string__IsPath_1 x0 x1 := by
  rw [slices_IndexFunc_string__IsPath_1.v]
  simp only [slices_IndexFunc_string__IsPath_1.e4]
  rfl
theorem slices_IndexFunc_string__IsPath_1.ok : V.Valid Tryz.prog 312 slices_IndexFunc_string__IsPath_1.con :=
  V.fo (V.tab_cons impl_IsPath_1.ok V.tab_nil) Tryz.func312 (by kernel_rfl) (fun x y h => (show V.evBody slices_IndexFunc_string__IsPath_1.E slices_IndexFunc_string__IsPath_1.con Tryz.f312 x = _ from slices_IndexFunc_string__IsPath_1.eq x.1 x.2).trans (V.cfl (by kernel_rfl) h))
noncomputable abbrev slices_ContainsFunc_string__IsPath_1.con : V.Con := ⟨(.cons (.sl (.cons .str .nil)) (.cons (.fn 296 false .nil .nil) .nil)), (.cons .bool .nil), fun (x : List ByteArray × (Unit) × (Unit)) => slices_ContainsFunc_string__IsPath_1 x.1 x.2, [], [(false, 1), (false, 1)], [(false, 1)], [false], []⟩
noncomputable abbrev slices_ContainsFunc_string__IsPath_1.E : V.Env := V.mkE V.tys [(312, slices_IndexFunc_string__IsPath_1.con)] [] [] [] [] []
theorem slices_ContainsFunc_string__IsPath_1.eq (x0 : List ByteArray) (x1 : (Unit) × (Unit)) : V.evBody slices_ContainsFunc_string__IsPath_1.E slices_ContainsFunc_string__IsPath_1.con Tryz.f295 ((x0, x1) : List ByteArray × (Unit) × (Unit)) = slices_ContainsFunc_string__IsPath_1 x0 x1 := by kernel_rfl
theorem slices_ContainsFunc_string__IsPath_1.ok : V.Valid Tryz.prog 295 slices_ContainsFunc_string__IsPath_1.con :=
  V.fo (V.tab_cons slices_IndexFunc_string__IsPath_1.ok V.tab_nil) Tryz.func295 (by kernel_rfl) (fun x y h => (show V.evBody slices_ContainsFunc_string__IsPath_1.E slices_ContainsFunc_string__IsPath_1.con Tryz.f295 x = _ from slices_ContainsFunc_string__IsPath_1.eq x.1 x.2).trans (V.cfl (by kernel_rfl) h))
noncomputable abbrev impl_IsPath.con : V.Con := ⟨(.cons (.sl (.cons .str .nil)) .nil), (.cons .bool .nil), fun (x : List ByteArray) => impl_IsPath x, [], [(false, 1)], [(false, 1)], [false], []⟩
noncomputable abbrev impl_IsPath.E : V.Env := V.mkE V.tys [(151, impl_InRange.con), (295, slices_ContainsFunc_string__IsPath_1.con)] [] [] [] [] []
theorem impl_IsPath.eq (x0 : List ByteArray) : V.evBody impl_IsPath.E impl_IsPath.con Tryz.f253 ((x0) : List ByteArray) = impl_IsPath x0 := by kernel_rfl
theorem impl_IsPath.ok : V.Valid Tryz.prog 253 impl_IsPath.con :=
  V.fo (V.tab_cons impl_InRange.ok (V.tab_cons slices_ContainsFunc_string__IsPath_1.ok V.tab_nil)) Tryz.func253 (by kernel_rfl) (fun x y h => (show V.evBody impl_IsPath.E impl_IsPath.con Tryz.f253 x = _ from impl_IsPath.eq x).trans (V.cfl (by kernel_rfl) h))
noncomputable abbrev impl_IsEntry.con : V.Con := ⟨V.eEntry, (.cons .bool .nil), fun (x : ByteArray × Int × Int × List ByteArray) => impl_IsEntry x, [], [(true, 4)], [(false, 1)], [false], []⟩
noncomputable abbrev impl_IsEntry.E : V.Env := V.mkE V.tys [(151, impl_InRange.con), (217, impl_isDigest.con), (252, impl_IsLabel.con), (253, impl_IsPath.con)] [] [] [] [] []
theorem impl_IsEntry.eq (x0 : TEntry) : V.evBody impl_IsEntry.E impl_IsEntry.con Tryz.f192 ((x0.1, x0.2.1, x0.2.2.1, x0.2.2.2) : ByteArray × Int × Int × List ByteArray) = impl_IsEntry x0 := by kernel_rfl
theorem impl_IsEntry.ok : V.Valid Tryz.prog 192 impl_IsEntry.con :=
  V.fo (V.tab_cons impl_InRange.ok (V.tab_cons impl_isDigest.ok (V.tab_cons impl_IsLabel.ok (V.tab_cons impl_IsPath.ok V.tab_nil)))) Tryz.func192 (by kernel_rfl) (fun x y h => (show V.evBody impl_IsEntry.E impl_IsEntry.con Tryz.f192 x = _ from impl_IsEntry.eq x).trans (V.cfl (by kernel_rfl) h))
noncomputable abbrev internal_bytealg_CompareString.con : V.Con := ⟨.cons .str (.cons .str .nil), .cons (.int .i64) .nil, fun (x : ByteArray × ByteArray) => internal_bytealg_CompareString x.1 x.2, [], [(false, 1), (false, 1)], [(false, 1)], [false], []⟩
theorem internal_bytealg_CompareString.ok : V.Valid Tryz.prog 297 internal_bytealg_CompareString.con :=
  V.cmp_valid (ρ := ⟨fun n => bif Nat.beq n 213 then 297 else 313, fun t => bif Nat.beq t 3 then 3 else 9, fun x => x⟩) { mixed := V.mixed, f213 := by kernel_rfl, f265 := by kernel_rfl, t3 := by kernel_rfl, a3 := fun w => rfl, z3 := fun w => rfl, v3 := fun w => rfl, t9 := by kernel_rfl, a9 := fun w => rfl, z9 := fun w => rfl, v9 := fun w => rfl }
noncomputable abbrev strings_Compare.con : V.Con := ⟨(.cons .str (.cons .str .nil)), (.cons (.int .i64) .nil), fun (x : ByteArray × ByteArray) => strings_Compare x.1 x.2, [], [(false, 1), (false, 1)], [(false, 1)], [false], []⟩
noncomputable abbrev strings_Compare.E : V.Env := V.mkE V.tys [(297, internal_bytealg_CompareString.con)] [] [] [] [] []
theorem strings_Compare.eq (x0 : ByteArray) (x1 : ByteArray) : V.evBody strings_Compare.E strings_Compare.con Tryz.f254 ((x0, x1) : ByteArray × ByteArray) = strings_Compare x0 x1 := by kernel_rfl
theorem strings_Compare.ok : V.Valid Tryz.prog 254 strings_Compare.con :=
  V.fo (V.tab_cons internal_bytealg_CompareString.ok V.tab_nil) Tryz.func254 (by kernel_rfl) (fun x y h => (show V.evBody strings_Compare.E strings_Compare.con Tryz.f254 x = _ from strings_Compare.eq x.1 x.2).trans (V.cfl (by kernel_rfl) h))
noncomputable abbrev impl_CompareLabels.con : V.Con := ⟨(.cons .str (.cons .str .nil)), (.cons (.int .i64) .nil), fun (x : ByteArray × ByteArray) => impl_CompareLabels x.1 x.2, [], [(false, 1), (false, 1)], [(false, 1)], [false], []⟩
noncomputable abbrev impl_CompareLabels.E : V.Env := V.mkE V.tys [(254, strings_Compare.con)] [] [] [] [] []
theorem impl_CompareLabels.eq (x0 : ByteArray) (x1 : ByteArray) : V.evBody impl_CompareLabels.E impl_CompareLabels.con Tryz.f193 ((x0, x1) : ByteArray × ByteArray) = impl_CompareLabels x0 x1 := by kernel_rfl
theorem impl_CompareLabels.ok : V.Valid Tryz.prog 193 impl_CompareLabels.con :=
  V.fo (V.tab_cons strings_Compare.ok V.tab_nil) Tryz.func193 (by kernel_rfl) (fun x y h => (show V.evBody impl_CompareLabels.E impl_CompareLabels.con Tryz.f193 x = _ from impl_CompareLabels.eq x.1 x.2).trans (V.cfl (by kernel_rfl) h))
noncomputable abbrev impl_AreEntries.con : V.Con := ⟨(.cons (.sl V.eEntry) .nil), (.cons .bool .nil), fun (x : List TEntry) => impl_AreEntries x, [], [(false, 1)], [(false, 1)], [false], []⟩
noncomputable abbrev impl_AreEntries.E : V.Env := V.mkE V.tys [(192, impl_IsEntry.con), (193, impl_CompareLabels.con)] [(4, [0, 5, 6, 7], [])] [(4, 15)] [] [] []
noncomputable abbrev impl_AreEntries.kt (x0 : List TEntry) : V.Kt Bool := V.ktOf impl_AreEntries.E impl_AreEntries.con Tryz.f91 ((x0) : List TEntry)
noncomputable abbrev impl_AreEntries.s4 (x0 : List TEntry) (v4_2 : Int) (v4_3 : Int) : V.St := ⟨[(0, .v false [.val (.sl V.eEntry x0)]), (5, .v false [.val (.sl V.eEntry x0)]), (6, .v false [.val (.int .i64 v4_2)]), (7, .v false [.val (.int .i64 v4_3)])], []⟩
theorem impl_AreEntries.r4 (x0 : List TEntry) (R : V.St → Option Bool) (v4_2 : Int) (v4_3 : Int) : V.loopF impl_AreEntries.E Tryz.f91.ntmps [1, 0, 1, 0] [] (V.codeOf Tryz.f91) (impl_AreEntries.kt x0) R (impl_AreEntries.s4 x0 v4_2 v4_3) = impl_AreEntries.g4 x0 (fun v4_2 v4_3 => R (impl_AreEntries.s4 x0 v4_2 v4_3)) v4_2 v4_3 := by kernel_rfl
theorem impl_AreEntries.e4 (x0 : List TEntry) : ∀ (n : Nat) (v4_2 : Int) (v4_3 : Int), V.loopN (V.loopF impl_AreEntries.E Tryz.f91.ntmps [1, 0, 1, 0] [] (V.codeOf Tryz.f91) (impl_AreEntries.kt x0)) n (impl_AreEntries.s4 x0 v4_2 v4_3) = impl_AreEntries.l4 x0 n v4_2 v4_3 := by
  intro n
  induction n with
  | zero => intros; rw [V.loopN_z]; rfl
  | succ n ih =>
    intro v4_2 v4_3
    rw [V.loopN_s, impl_AreEntries.r4]
    simp only [ih]
    first | exact (impl_AreEntries.u4 ..).symm | rfl
theorem impl_AreEntries.v (x0 : List TEntry) : V.evBody impl_AreEntries.E impl_AreEntries.con Tryz.f91 ((x0) : List TEntry) = impl_AreEntries.b x0 (fun v4_2 v4_3 => V.loopN (V.loopF impl_AreEntries.E Tryz.f91.ntmps [1, 0, 1, 0] [] (V.codeOf Tryz.f91) (impl_AreEntries.kt x0)) V.KK (impl_AreEntries.s4 x0 v4_2 v4_3)) := by kernel_rfl
theorem impl_AreEntries.eq (x0 : List TEntry) : V.evBody impl_AreEntries.E impl_AreEntries.con Tryz.f91 ((x0) : List TEntry) = impl_AreEntries x0 := by
  rw [impl_AreEntries.v]
  simp only [impl_AreEntries.e4]
  rfl
theorem impl_AreEntries.ok : V.Valid Tryz.prog 91 impl_AreEntries.con :=
  V.fo (V.tab_cons impl_IsEntry.ok (V.tab_cons impl_CompareLabels.ok V.tab_nil)) Tryz.func91 (by kernel_rfl) (fun x y h => (show V.evBody impl_AreEntries.E impl_AreEntries.con Tryz.f91 x = _ from impl_AreEntries.eq x).trans (V.cfl (by kernel_rfl) h))
noncomputable abbrev impl_isSpan.con : V.Con := ⟨V.A0, (.cons .bool .nil), fun (x : V.D0) => impl_isSpan (V.p0_0 x), [], [(true, 16)], [(false, 1)], [false], []⟩
noncomputable abbrev impl_isSpan.E : V.Env := V.mkE V.tys [] [] [] [] [] []
noncomputable abbrev impl_isSpan.kt (x0 : THead) : V.Kt Bool := V.ktOf impl_isSpan.E impl_isSpan.con Tryz.f255 (V.fl0 x0)
noncomputable abbrev impl_isSpan.s (x0 : THead) : V.St := ⟨[(0, .v true [.val (.int .i64 x0.1), .val (.int .i64 x0.2.1), .val (.int .i64 x0.2.2.1), .val (.int .i64 x0.2.2.2.1), .val (.int .i64 x0.2.2.2.2.1), .val (.int .i64 x0.2.2.2.2.2.1), .val (.int .i64 x0.2.2.2.2.2.2.1), .val (.int .i64 x0.2.2.2.2.2.2.2.1), .val (.sl (.cons (.int .i64) .nil) x0.2.2.2.2.2.2.2.2.1), .val (.int .i64 x0.2.2.2.2.2.2.2.2.2.1), .val (.sl (.cons (.int .i64) .nil) x0.2.2.2.2.2.2.2.2.2.2.1), .val (.int .i64 x0.2.2.2.2.2.2.2.2.2.2.2.1), .val (.int .i64 x0.2.2.2.2.2.2.2.2.2.2.2.2.1), .val (.sl (.cons (.int .i64) .nil) x0.2.2.2.2.2.2.2.2.2.2.2.2.2.1), .val (.int .i64 x0.2.2.2.2.2.2.2.2.2.2.2.2.2.2.1), .val (.bool x0.2.2.2.2.2.2.2.2.2.2.2.2.2.2.2)])], []⟩
theorem impl_isSpan.v0 (x0 : THead) : V.evBody impl_isSpan.E impl_isSpan.con Tryz.f255 (V.fl0 x0) = V.evC impl_isSpan.E Tryz.f255.ntmps (V.codeOf Tryz.f255) (impl_isSpan.kt x0) (impl_isSpan.s x0) := by kernel_rfl
theorem impl_isSpan.v (x0 : THead) : V.evC impl_isSpan.E Tryz.f255.ntmps (V.codeOf Tryz.f255) (impl_isSpan.kt x0) (impl_isSpan.s x0) = impl_isSpan x0 := by kernel_rfl
theorem impl_isSpan.eq (x0 : THead) : V.evBody impl_isSpan.E impl_isSpan.con Tryz.f255 (V.fl0 x0) = impl_isSpan x0 := (impl_isSpan.v0 x0).trans (impl_isSpan.v x0)
theorem impl_isSpan.ok : V.Valid Tryz.prog 255 impl_isSpan.con :=
  V.fo V.tab_nil Tryz.func255 (by kernel_rfl) (fun x y h => (show V.evBody impl_isSpan.E impl_isSpan.con Tryz.f255 x = _ from impl_isSpan.eq (V.p0_0 x)).trans (V.cfl (by kernel_rfl) h))
noncomputable abbrev impl_ascending.con : V.Con := ⟨(.cons (.sl (.cons (.int .i64) .nil)) .nil), (.cons .bool .nil), fun (x : List Int) => impl_ascending x, [], [(false, 1)], [(false, 1)], [false], []⟩
noncomputable abbrev impl_ascending.E : V.Env := V.mkE V.tys [] [(4, [0, 5, 6], [])] [(4, 12)] [] [] []
noncomputable abbrev impl_ascending.kt (x0 : List Int) : V.Kt Bool := V.ktOf impl_ascending.E impl_ascending.con Tryz.f298 ((x0) : List Int)
noncomputable abbrev impl_ascending.s4 (x0 : List Int) (v4_1 : Int) (v4_2 : Int) : V.St := ⟨[(0, .v false [.val (.sl (.cons (.int .i64) .nil) x0)]), (5, .v false [.val (.int .i64 v4_1)]), (6, .v false [.val (.int .i64 v4_2)])], []⟩
theorem impl_ascending.r4 (x0 : List Int) (R : V.St → Option Bool) (v4_1 : Int) (v4_2 : Int) : V.loopF impl_ascending.E Tryz.f298.ntmps [1, 0, 1, 0] [] (V.codeOf Tryz.f298) (impl_ascending.kt x0) R (impl_ascending.s4 x0 v4_1 v4_2) = impl_ascending.g4 x0 (fun v4_1 v4_2 => R (impl_ascending.s4 x0 v4_1 v4_2)) v4_1 v4_2 := by kernel_rfl
theorem impl_ascending.e4 (x0 : List Int) : ∀ (n : Nat) (v4_1 : Int) (v4_2 : Int), V.loopN (V.loopF impl_ascending.E Tryz.f298.ntmps [1, 0, 1, 0] [] (V.codeOf Tryz.f298) (impl_ascending.kt x0)) n (impl_ascending.s4 x0 v4_1 v4_2) = impl_ascending.l4 x0 n v4_1 v4_2 := by
  intro n
  induction n with
  | zero => intros; rw [V.loopN_z]; rfl
  | succ n ih =>
    intro v4_1 v4_2
    rw [V.loopN_s, impl_ascending.r4]
    simp only [ih]
    first | exact (impl_ascending.u4 ..).symm | rfl
theorem impl_ascending.v (x0 : List Int) : V.evBody impl_ascending.E impl_ascending.con Tryz.f298 ((x0) : List Int) = impl_ascending.b x0 (fun v4_1 v4_2 => V.loopN (V.loopF impl_ascending.E Tryz.f298.ntmps [1, 0, 1, 0] [] (V.codeOf Tryz.f298) (impl_ascending.kt x0)) V.KK (impl_ascending.s4 x0 v4_1 v4_2)) := by kernel_rfl
theorem impl_ascending.eq (x0 : List Int) : V.evBody impl_ascending.E impl_ascending.con Tryz.f298 ((x0) : List Int) = impl_ascending x0 := by
  rw [impl_ascending.v]
  simp only [impl_ascending.e4]
  rfl
theorem impl_ascending.ok : V.Valid Tryz.prog 298 impl_ascending.con :=
  V.fo V.tab_nil Tryz.func298 (by kernel_rfl) (fun x y h => (show V.evBody impl_ascending.E impl_ascending.con Tryz.f298 x = _ from impl_ascending.eq x).trans (V.cfl (by kernel_rfl) h))
noncomputable abbrev impl_isKey.con : V.Con := ⟨(.cons (.int .i64) .nil), (.cons .bool .nil), fun (x : Int) => impl_isKey x, [], [(false, 1)], [(false, 1)], [false], []⟩
noncomputable abbrev impl_isKey.E : V.Env := V.mkE V.tys [(151, impl_InRange.con)] [] [] [] [] []
theorem impl_isKey.eq (x0 : Int) : V.evBody impl_isKey.E impl_isKey.con Tryz.f218 ((x0) : Int) = impl_isKey x0 := by kernel_rfl
theorem impl_isKey.ok : V.Valid Tryz.prog 218 impl_isKey.con :=
  V.fo (V.tab_cons impl_InRange.ok V.tab_nil) Tryz.func218 (by kernel_rfl) (fun x y h => (show V.evBody impl_isKey.E impl_isKey.con Tryz.f218 x = _ from impl_isKey.eq x).trans (V.cfl (by kernel_rfl) h))
noncomputable abbrev impl_IsKeys.con : V.Con := ⟨(.cons (.sl (.cons (.int .i64) .nil)) (.cons (.int .i64) .nil)), (.cons .bool .nil), fun (x : List Int × Int) => impl_IsKeys x, [], [(true, 2)], [(false, 1)], [false], []⟩
noncomputable abbrev impl_IsKeys.E : V.Env := V.mkE V.tys [(151, impl_InRange.con), (218, impl_isKey.con), (298, impl_ascending.con)] [] [] [] [] []
theorem impl_IsKeys.eq (x0 : TKeys) : V.evBody impl_IsKeys.E impl_IsKeys.con Tryz.f256 ((x0.1, x0.2) : List Int × Int) = impl_IsKeys x0 := by kernel_rfl
theorem impl_IsKeys.ok : V.Valid Tryz.prog 256 impl_IsKeys.con :=
  V.fo (V.tab_cons impl_InRange.ok (V.tab_cons impl_isKey.ok (V.tab_cons impl_ascending.ok V.tab_nil))) Tryz.func256 (by kernel_rfl) (fun x y h => (show V.evBody impl_IsKeys.E impl_IsKeys.con Tryz.f256 x = _ from impl_IsKeys.eq x).trans (V.cfl (by kernel_rfl) h))
noncomputable abbrev impl_NoKeys.con : V.Con := ⟨(.cons (.sl (.cons (.int .i64) .nil)) (.cons (.int .i64) .nil)), (.cons .bool .nil), fun (x : List Int × Int) => impl_NoKeys x, [], [(true, 2)], [(false, 1)], [false], []⟩
noncomputable abbrev impl_NoKeys.E : V.Env := V.mkE V.tys [] [] [] [] [] []
theorem impl_NoKeys.eq (x0 : TKeys) : V.evBody impl_NoKeys.E impl_NoKeys.con Tryz.f259 ((x0.1, x0.2) : List Int × Int) = impl_NoKeys x0 := by kernel_rfl
theorem impl_NoKeys.ok : V.Valid Tryz.prog 259 impl_NoKeys.con :=
  V.fo V.tab_nil Tryz.func259 (by kernel_rfl) (fun x y h => (show V.evBody impl_NoKeys.E impl_NoKeys.con Tryz.f259 x = _ from impl_NoKeys.eq x).trans (V.cfl (by kernel_rfl) h))
noncomputable abbrev impl_isMaybe.con : V.Con := ⟨(.cons (.sl (.cons (.int .i64) .nil)) (.cons (.int .i64) .nil)), (.cons .bool .nil), fun (x : List Int × Int) => impl_isMaybe x, [], [(true, 2)], [(false, 1)], [false], []⟩
noncomputable abbrev impl_isMaybe.E : V.Env := V.mkE V.tys [(256, impl_IsKeys.con), (259, impl_NoKeys.con)] [] [] [] [] []
theorem impl_isMaybe.eq (x0 : TKeys) : V.evBody impl_isMaybe.E impl_isMaybe.con Tryz.f257 ((x0.1, x0.2) : List Int × Int) = impl_isMaybe x0 := by kernel_rfl
theorem impl_isMaybe.ok : V.Valid Tryz.prog 257 impl_isMaybe.con :=
  V.fo (V.tab_cons impl_IsKeys.ok (V.tab_cons impl_NoKeys.ok V.tab_nil)) Tryz.func257 (by kernel_rfl) (fun x y h => (show V.evBody impl_isMaybe.E impl_isMaybe.con Tryz.f257 x = _ from impl_isMaybe.eq x).trans (V.cfl (by kernel_rfl) h))
noncomputable abbrev impl_isWait.con : V.Con := ⟨(.cons (.int .i64) (.cons (.sl (.cons (.int .i64) .nil)) (.cons (.int .i64) .nil))), (.cons .bool .nil), fun (x : Int × List Int × Int) => impl_isWait x.1 x.2, [], [(false, 1), (true, 2)], [(false, 1)], [false], []⟩
noncomputable abbrev impl_isWait.E : V.Env := V.mkE V.tys [(151, impl_InRange.con), (259, impl_NoKeys.con)] [] [] [] [] []
theorem impl_isWait.eq (x0 : Int) (x1 : TKeys) : V.evBody impl_isWait.E impl_isWait.con Tryz.f258 ((x0, x1.1, x1.2) : Int × List Int × Int) = impl_isWait x0 x1 := by kernel_rfl
theorem impl_isWait.ok : V.Valid Tryz.prog 258 impl_isWait.con :=
  V.fo (V.tab_cons impl_InRange.ok (V.tab_cons impl_NoKeys.ok V.tab_nil)) Tryz.func258 (by kernel_rfl) (fun x y h => (show V.evBody impl_isWait.E impl_isWait.con Tryz.f258 x = _ from impl_isWait.eq x.1 x.2).trans (V.cfl (by kernel_rfl) h))
noncomputable abbrev impl_IsHead.con : V.Con := ⟨V.A0, (.cons .bool .nil), fun (x : V.D0) => impl_IsHead (V.p0_0 x), [], [(true, 16)], [(false, 1)], [false], []⟩
noncomputable abbrev impl_IsHead.E : V.Env := V.mkE V.tys [(151, impl_InRange.con), (217, impl_isDigest.con), (255, impl_isSpan.con), (256, impl_IsKeys.con), (257, impl_isMaybe.con), (258, impl_isWait.con), (259, impl_NoKeys.con)] [] [] [] [] []
noncomputable abbrev impl_IsHead.kt (x0 : THead) : V.Kt Bool := V.ktOf impl_IsHead.E impl_IsHead.con Tryz.f194 (V.fl0 x0)
noncomputable abbrev impl_IsHead.s (x0 : THead) : V.St := ⟨[(0, .v true [.val (.int .i64 x0.1), .val (.int .i64 x0.2.1), .val (.int .i64 x0.2.2.1), .val (.int .i64 x0.2.2.2.1), .val (.int .i64 x0.2.2.2.2.1), .val (.int .i64 x0.2.2.2.2.2.1), .val (.int .i64 x0.2.2.2.2.2.2.1), .val (.int .i64 x0.2.2.2.2.2.2.2.1), .val (.sl (.cons (.int .i64) .nil) x0.2.2.2.2.2.2.2.2.1), .val (.int .i64 x0.2.2.2.2.2.2.2.2.2.1), .val (.sl (.cons (.int .i64) .nil) x0.2.2.2.2.2.2.2.2.2.2.1), .val (.int .i64 x0.2.2.2.2.2.2.2.2.2.2.2.1), .val (.int .i64 x0.2.2.2.2.2.2.2.2.2.2.2.2.1), .val (.sl (.cons (.int .i64) .nil) x0.2.2.2.2.2.2.2.2.2.2.2.2.2.1), .val (.int .i64 x0.2.2.2.2.2.2.2.2.2.2.2.2.2.2.1), .val (.bool x0.2.2.2.2.2.2.2.2.2.2.2.2.2.2.2)])], []⟩
theorem impl_IsHead.v0 (x0 : THead) : V.evBody impl_IsHead.E impl_IsHead.con Tryz.f194 (V.fl0 x0) = V.evC impl_IsHead.E Tryz.f194.ntmps (V.codeOf Tryz.f194) (impl_IsHead.kt x0) (impl_IsHead.s x0) := by kernel_rfl
theorem impl_IsHead.v (x0 : THead) : V.evC impl_IsHead.E Tryz.f194.ntmps (V.codeOf Tryz.f194) (impl_IsHead.kt x0) (impl_IsHead.s x0) = impl_IsHead x0 := by kernel_rfl
theorem impl_IsHead.eq (x0 : THead) : V.evBody impl_IsHead.E impl_IsHead.con Tryz.f194 (V.fl0 x0) = impl_IsHead x0 := (impl_IsHead.v0 x0).trans (impl_IsHead.v x0)
theorem impl_IsHead.ok : V.Valid Tryz.prog 194 impl_IsHead.con :=
  V.fo (V.tab_cons impl_InRange.ok (V.tab_cons impl_isDigest.ok (V.tab_cons impl_isSpan.ok (V.tab_cons impl_IsKeys.ok (V.tab_cons impl_isMaybe.ok (V.tab_cons impl_isWait.ok (V.tab_cons impl_NoKeys.ok V.tab_nil))))))) Tryz.func194 (by kernel_rfl) (fun x y h => (show V.evBody impl_IsHead.E impl_IsHead.con Tryz.f194 x = _ from impl_IsHead.eq (V.p0_0 x)).trans (V.cfl (by kernel_rfl) h))
noncomputable abbrev impl_FirstHead.con : V.Con := ⟨(.cons (.sl (.cons (.int .i64) .nil)) (.cons (.int .i64) (.cons (.int .i64) (.cons (.sl V.eEntry) (.cons (.int .i64) (.cons (.int .i64) .nil)))))), V.eRHeadBool, fun (x : List Int × Int × Int × List TEntry × Int × Int) => impl_FirstHead (x.1, x.2.1) x.2.2.1 x.2.2.2.1 x.2.2.2.2.1 x.2.2.2.2.2, [], [(true, 2), (false, 1), (false, 1), (false, 1), (false, 1)], [(true, 16), (false, 1)], [false, false, false, false, false, false, false, false, true, false, true, false, false, true, false, false, false], []⟩
noncomputable abbrev impl_FirstHead.E : V.Env := V.mkE V.tys [(91, impl_AreEntries.con), (94, impl_RootOf.con), (194, impl_IsHead.con), (196, impl_until.con), (227, impl_ZoneOf.con), (228, impl_copyKeys.con)] [(7, [10, 12, 35], [])] [(1, 16)] [] [] []
noncomputable abbrev impl_FirstHead.kt (x0 : TKeys) (x1 : Int) (x2 : List TEntry) (x3 : Int) (x4 : Int) : V.Kt TRHeadBool := V.ktOf impl_FirstHead.E impl_FirstHead.con Tryz.f141 ((x0.1, x0.2, x1, x2, x3, x4) : List Int × Int × Int × List TEntry × Int × Int)
noncomputable abbrev impl_FirstHead.s7 (x1 : Int) (x3 : Int) (y1 : Int) (y2 : Int) (y3 : Int) (y4 : TKeys) (v7_0 : Bool) (v7_19 : Int) : V.St := ⟨[(10, .v false [.ptr 64064 0]), (12, .v false [.ptr 128960 0]), (35, .v false [.val (.bool v7_0)])], [(64064, .box [.val (.int .i64 (0 : Int)), .val (.int .i64 (0 : Int)), .val (.int .i64 (0 : Int)), .val (.int .i64 (0 : Int)), .val (.int .i64 (0 : Int)), .val (.int .i64 (0 : Int)), .val (.int .i64 (0 : Int)), .val (.int .i64 (0 : Int)), .nil0, .val (.int .i64 (0 : Int)), .nil0, .val (.int .i64 (0 : Int)), .val (.int .i64 (0 : Int)), .nil0, .val (.int .i64 (0 : Int)), .val (.bool false)]), (128960, .box [.val (.int .i64 y1), .val (.int .i64 (0 : Int)), .val (.int .i64 (1 : Int)), .val (.int .i64 x3), .val (.int .i64 y2), .val (.int .i64 v7_19), .val (.int .i64 y3), .val (.int .i64 x1), .ref 64000000000008253448, .val (.int .i64 y4.2), .nil0, .val (.int .i64 (0 : Int)), .val (.int .i64 (0 : Int)), .nil0, .val (.int .i64 (0 : Int)), .val (.bool false)]), (64000000000008253448, .row (.cons (.int .i64) .nil) true y4.1)]⟩
theorem impl_FirstHead.r7 (x0 : TKeys) (x1 : Int) (x2 : List TEntry) (x3 : Int) (x4 : Int) (y1 : Int) (y2 : Int) (y3 : Int) (y4 : TKeys) (v7_0 : Bool) (v7_19 : Int) : V.normK 7 ([10, 12, 35], []) (V.joinF impl_FirstHead.E Tryz.f141.ntmps [1, 1, 0] [] (V.codeOf Tryz.f141) (impl_FirstHead.kt x0 x1 x2 x3 x4)) (impl_FirstHead.s7 x1 x3 y1 y2 y3 y4 v7_0 v7_19) = impl_FirstHead.g7 x1 x3 y1 y2 y3 y4 v7_0 v7_19 := by kernel_rfl
theorem impl_FirstHead.e7 (x0 : TKeys) (x1 : Int) (x2 : List TEntry) (x3 : Int) (x4 : Int) (y1 : Int) (y2 : Int) (y3 : Int) (y4 : TKeys) (v7_0 : Bool) (v7_19 : Int) : V.normK 7 ([10, 12, 35], []) (V.joinF impl_FirstHead.E Tryz.f141.ntmps [1, 1, 0] [] (V.codeOf Tryz.f141) (impl_FirstHead.kt x0 x1 x2 x3 x4)) (impl_FirstHead.s7 x1 x3 y1 y2 y3 y4 v7_0 v7_19) = impl_FirstHead.l7 x1 x3 y1 y2 y3 y4 v7_0 v7_19 := by
  rw [impl_FirstHead.r7]
  rfl
theorem impl_FirstHead.v (x0 : TKeys) (x1 : Int) (x2 : List TEntry) (x3 : Int) (x4 : Int) : V.evBody impl_FirstHead.E impl_FirstHead.con Tryz.f141 ((x0.1, x0.2, x1, x2, x3, x4) : List Int × Int × Int × List TEntry × Int × Int) = impl_FirstHead.b x0 x1 x2 x3 x4 (fun y1 y2 y3 y4 v7_0 v7_19 => V.normK 7 ([10, 12, 35], []) (V.joinF impl_FirstHead.E Tryz.f141.ntmps [1, 1, 0] [] (V.codeOf Tryz.f141) (impl_FirstHead.kt x0 x1 x2 x3 x4)) (impl_FirstHead.s7 x1 x3 y1 y2 y3 y4 v7_0 v7_19)) := by kernel_rfl
theorem impl_FirstHead.eq (x0 : TKeys) (x1 : Int) (x2 : List TEntry) (x3 : Int) (x4 : Int) : V.evBody impl_FirstHead.E impl_FirstHead.con Tryz.f141 ((x0.1, x0.2, x1, x2, x3, x4) : List Int × Int × Int × List TEntry × Int × Int) = impl_FirstHead x0 x1 x2 x3 x4 := by
  rw [impl_FirstHead.v]
  simp only [impl_FirstHead.e7]
  rfl
theorem impl_FirstHead.ok : V.Valid Tryz.prog 141 impl_FirstHead.con :=
  V.fo (V.tab_cons impl_AreEntries.ok (V.tab_cons impl_RootOf.ok (V.tab_cons impl_IsHead.ok (V.tab_cons impl_until.ok (V.tab_cons impl_ZoneOf.ok (V.tab_cons impl_copyKeys.ok V.tab_nil)))))) Tryz.func141 (by kernel_rfl) (fun x y h => (show V.evBody impl_FirstHead.E impl_FirstHead.con Tryz.f141 x = _ from impl_FirstHead.eq (x.1, x.2.1) x.2.2.1 x.2.2.2.1 x.2.2.2.2.1 x.2.2.2.2.2).trans (V.cfl (by kernel_rfl) h))
noncomputable abbrev impl_copyHead.con : V.Con := ⟨V.A0, V.eHead, fun (x : V.D0) => impl_copyHead (V.p0_0 x), [], [(true, 16)], [(true, 16)], [false, false, false, false, false, false, false, false, true, false, true, false, false, true, false, false], []⟩
noncomputable abbrev impl_copyHead.E : V.Env := V.mkE V.tys [(228, impl_copyKeys.con)] [] [(1, 10)] [] [] []
noncomputable abbrev impl_copyHead.kt (x0 : THead) : V.Kt THead := V.ktOf impl_copyHead.E impl_copyHead.con Tryz.f195 (V.fl0 x0)
noncomputable abbrev impl_copyHead.s (x0 : THead) : V.St := ⟨[(0, .v true [.val (.int .i64 x0.1), .val (.int .i64 x0.2.1), .val (.int .i64 x0.2.2.1), .val (.int .i64 x0.2.2.2.1), .val (.int .i64 x0.2.2.2.2.1), .val (.int .i64 x0.2.2.2.2.2.1), .val (.int .i64 x0.2.2.2.2.2.2.1), .val (.int .i64 x0.2.2.2.2.2.2.2.1), .val (.sl (.cons (.int .i64) .nil) x0.2.2.2.2.2.2.2.2.1), .val (.int .i64 x0.2.2.2.2.2.2.2.2.2.1), .val (.sl (.cons (.int .i64) .nil) x0.2.2.2.2.2.2.2.2.2.2.1), .val (.int .i64 x0.2.2.2.2.2.2.2.2.2.2.2.1), .val (.int .i64 x0.2.2.2.2.2.2.2.2.2.2.2.2.1), .val (.sl (.cons (.int .i64) .nil) x0.2.2.2.2.2.2.2.2.2.2.2.2.2.1), .val (.int .i64 x0.2.2.2.2.2.2.2.2.2.2.2.2.2.2.1), .val (.bool x0.2.2.2.2.2.2.2.2.2.2.2.2.2.2.2)])], []⟩
theorem impl_copyHead.v0 (x0 : THead) : V.evBody impl_copyHead.E impl_copyHead.con Tryz.f195 (V.fl0 x0) = V.evC impl_copyHead.E Tryz.f195.ntmps (V.codeOf Tryz.f195) (impl_copyHead.kt x0) (impl_copyHead.s x0) := by kernel_rfl
theorem impl_copyHead.v (x0 : THead) : V.evC impl_copyHead.E Tryz.f195.ntmps (V.codeOf Tryz.f195) (impl_copyHead.kt x0) (impl_copyHead.s x0) = impl_copyHead x0 := by kernel_rfl
theorem impl_copyHead.eq (x0 : THead) : V.evBody impl_copyHead.E impl_copyHead.con Tryz.f195 (V.fl0 x0) = impl_copyHead x0 := (impl_copyHead.v0 x0).trans (impl_copyHead.v x0)
theorem impl_copyHead.ok : V.Valid Tryz.prog 195 impl_copyHead.con :=
  V.fo (V.tab_cons impl_copyKeys.ok V.tab_nil) Tryz.func195 (by kernel_rfl) (fun x y h => (show V.evBody impl_copyHead.E impl_copyHead.con Tryz.f195 x = _ from impl_copyHead.eq (V.p0_0 x)).trans (V.cfl (by kernel_rfl) h))
noncomputable abbrev impl_bit.con : V.Con := ⟨(.cons .bool .nil), (.cons (.int .i64) .nil), fun (x : Bool) => impl_bit x, [], [(false, 1)], [(false, 1)], [false], []⟩
noncomputable abbrev impl_bit.E : V.Env := V.mkE V.tys [] [] [] [] [] []
theorem impl_bit.eq (x0 : Bool) : V.evBody impl_bit.E impl_bit.con Tryz.f272 ((x0) : Bool) = impl_bit x0 := by kernel_rfl
theorem impl_bit.ok : V.Valid Tryz.prog 272 impl_bit.con :=
  V.fo V.tab_nil Tryz.func272 (by kernel_rfl) (fun x y h => (show V.evBody impl_bit.E impl_bit.con Tryz.f272 x = _ from impl_bit.eq x).trans (V.cfl (by kernel_rfl) h))
noncomputable abbrev slices_Grow_int.con : V.Con := ⟨(.cons (.sl (.cons (.int .i64) .nil)) (.cons (.int .i64) .nil)), (.cons (.sl (.cons (.int .i64) .nil)) .nil), fun (x : List Int × Int) => slices_Grow_int x.1 x.2, [], [(false, 1), (false, 1)], [(false, 1)], [true], [0]⟩
noncomputable abbrev slices_Grow_int.E : V.Env := V.mkE V.tys [] [(7, [0, 1], [])] [] [] [] []
noncomputable abbrev slices_Grow_int.kt (x0 : List Int) (x1 : Int) : V.Kt (List Int) := V.ktOf slices_Grow_int.E slices_Grow_int.con Tryz.f303 ((x0, x1) : List Int × Int)
noncomputable abbrev slices_Grow_int.s7 (x1 : Int) : V.St := ⟨[(0, .v false [.nil0]), (1, .v false [.val (.int .i64 x1)])], []⟩
theorem slices_Grow_int.r7 (x0 : List Int) (x1 : Int) : V.normK 7 ([0, 1], []) (V.joinF slices_Grow_int.E Tryz.f303.ntmps [1] [] (V.codeOf Tryz.f303) (slices_Grow_int.kt x0 x1)) (slices_Grow_int.s7 x1) = slices_Grow_int.g7 x1 := by kernel_rfl
theorem slices_Grow_int.e7 (x0 : List Int) (x1 : Int) : V.normK 7 ([0, 1], []) (V.joinF slices_Grow_int.E Tryz.f303.ntmps [1] [] (V.codeOf Tryz.f303) (slices_Grow_int.kt x0 x1)) (slices_Grow_int.s7 x1) = slices_Grow_int.l7 x1 := by
  rw [slices_Grow_int.r7]
  rfl
theorem slices_Grow_int.v (x0 : List Int) (x1 : Int) : V.evBody slices_Grow_int.E slices_Grow_int.con Tryz.f303 ((x0, x1) : List Int × Int) = slices_Grow_int.b x0 x1 (V.normK 7 ([0, 1], []) (V.joinF slices_Grow_int.E Tryz.f303.ntmps [1] [] (V.codeOf Tryz.f303) (slices_Grow_int.kt x0 x1)) (slices_Grow_int.s7 x1)) := by kernel_rfl
theorem slices_Grow_int.eq (x0 : List Int) (x1 : Int) : V.evBody slices_Grow_int.E slices_Grow_int.con Tryz.f303 ((x0, x1) : List Int × Int) = slices_Grow_int x0 x1 := by
  rw [slices_Grow_int.v]
  simp only [slices_Grow_int.e7]
  rfl
theorem slices_Grow_int.ok : V.Valid Tryz.prog 303 slices_Grow_int.con :=
  V.fo V.tab_nil Tryz.func303 (by kernel_rfl) (fun x y h => (show V.evBody slices_Grow_int.E slices_Grow_int.con Tryz.f303 x = _ from slices_Grow_int.eq x.1 x.2).trans (V.cfl (by kernel_rfl) h))
noncomputable abbrev slices_Concat_int.con : V.Con := ⟨(.cons (.sl (.cons (.sl (.cons (.int .i64) .nil)) .nil)) .nil), (.cons (.sl (.cons (.int .i64) .nil)) .nil), fun (x : List (List Int)) => slices_Concat_int x, [], [(false, 1)], [(false, 1)], [true], []⟩
noncomputable abbrev slices_Concat_int.E : V.Env := V.mkE V.tys [(303, slices_Grow_int.con)] [(6, [0, 3, 9, 10, 11], []), (22, [6, 25, 26, 27], [])] [] [] [] []
noncomputable abbrev slices_Concat_int.kt (x0 : List (List Int)) : V.Kt (List Int) := V.ktOf slices_Concat_int.E slices_Concat_int.con Tryz.f270 ((x0) : List (List Int))
noncomputable abbrev slices_Concat_int.s22 (x0 : List (List Int)) (v22_1 : Int) (v22_2 : Int) (v22_3 : List Int) : V.St := ⟨[(6, .v false [.ref 64000140800384]), (25, .v false [.val (.sl (.cons (.sl (.cons (.int .i64) .nil)) .nil) x0)]), (26, .v false [.val (.int .i64 v22_1)]), (27, .v false [.val (.int .i64 v22_2)])], [(64000140800384, .row (.cons (.int .i64) .nil) true v22_3)]⟩
noncomputable abbrev slices_Concat_int.s6 (x0 : List (List Int)) (v6_1 : Int) (v6_3 : Int) (v6_4 : Int) : V.St := ⟨[(0, .v false [.val (.sl (.cons (.sl (.cons (.int .i64) .nil)) .nil) x0)]), (3, .v false [.val (.int .i64 v6_1)]), (9, .v false [.val (.sl (.cons (.sl (.cons (.int .i64) .nil)) .nil) x0)]), (10, .v false [.val (.int .i64 v6_3)]), (11, .v false [.val (.int .i64 v6_4)])], []⟩
theorem slices_Concat_int.r22 (x0 : List (List Int)) (R : V.St → Option (List Int)) (v22_1 : Int) (v22_2 : Int) (v22_3 : List Int) : V.loopF slices_Concat_int.E Tryz.f270.ntmps [1, 1, 1, 1, 0, 1, 0] [] (V.codeOf Tryz.f270) (slices_Concat_int.kt x0) R (slices_Concat_int.s22 x0 v22_1 v22_2 v22_3) = slices_Concat_int.g22 x0 (fun v22_1 v22_2 v22_3 => R (slices_Concat_int.s22 x0 v22_1 v22_2 v22_3)) v22_1 v22_2 v22_3 := by kernel_rfl
theorem slices_Concat_int.e22 (x0 : List (List Int)) : ∀ (n : Nat) (v22_1 : Int) (v22_2 : Int) (v22_3 : List Int), V.loopN (V.loopF slices_Concat_int.E Tryz.f270.ntmps [1, 1, 1, 1, 0, 1, 0] [] (V.codeOf Tryz.f270) (slices_Concat_int.kt x0)) n (slices_Concat_int.s22 x0 v22_1 v22_2 v22_3) = slices_Concat_int.l22 x0 n v22_1 v22_2 v22_3 := by
  intro n
  induction n with
  | zero => intros; rw [V.loopN_z]; rfl
  | succ n ih =>
    intro v22_1 v22_2 v22_3
    rw [V.loopN_s, slices_Concat_int.r22]
    simp only [ih]
    first | exact (slices_Concat_int.u22 ..).symm | rfl
theorem slices_Concat_int.r6 (x0 : List (List Int)) (R : V.St → Option (List Int)) (v6_1 : Int) (v6_3 : Int) (v6_4 : Int) : V.loopF slices_Concat_int.E Tryz.f270.ntmps [1, 1, 0, 1, 0] [] (V.codeOf Tryz.f270) (slices_Concat_int.kt x0) R (slices_Concat_int.s6 x0 v6_1 v6_3 v6_4) = slices_Concat_int.g6 x0 (fun v6_1 v6_3 v6_4 => R (slices_Concat_int.s6 x0 v6_1 v6_3 v6_4)) (fun v22_1 v22_2 v22_3 => V.loopN (V.loopF slices_Concat_int.E Tryz.f270.ntmps [1, 1, 1, 1, 0, 1, 0] [] (V.codeOf Tryz.f270) (slices_Concat_int.kt x0)) V.KK (slices_Concat_int.s22 x0 v22_1 v22_2 v22_3)) v6_1 v6_3 v6_4 := by kernel_rfl
theorem slices_Concat_int.e6 (x0 : List (List Int)) : ∀ (n : Nat) (v6_1 : Int) (v6_3 : Int) (v6_4 : Int), V.loopN (V.loopF slices_Concat_int.E Tryz.f270.ntmps [1, 1, 0, 1, 0] [] (V.codeOf Tryz.f270) (slices_Concat_int.kt x0)) n (slices_Concat_int.s6 x0 v6_1 v6_3 v6_4) = slices_Concat_int.l6 x0 n v6_1 v6_3 v6_4 := by
  intro n
  induction n with
  | zero => intros; rw [V.loopN_z]; rfl
  | succ n ih =>
    intro v6_1 v6_3 v6_4
    rw [V.loopN_s, slices_Concat_int.r6]
    simp only [slices_Concat_int.e22, ih]
    first | exact (slices_Concat_int.u6 ..).symm | rfl
theorem slices_Concat_int.v (x0 : List (List Int)) : V.evBody slices_Concat_int.E slices_Concat_int.con Tryz.f270 ((x0) : List (List Int)) = slices_Concat_int.b x0 (fun v6_1 v6_3 v6_4 => V.loopN (V.loopF slices_Concat_int.E Tryz.f270.ntmps [1, 1, 0, 1, 0] [] (V.codeOf Tryz.f270) (slices_Concat_int.kt x0)) V.KK (slices_Concat_int.s6 x0 v6_1 v6_3 v6_4)) := by kernel_rfl
theorem slices_Concat_int.eq (x0 : List (List Int)) : V.evBody slices_Concat_int.E slices_Concat_int.con Tryz.f270 ((x0) : List (List Int)) = slices_Concat_int x0 := by
  rw [slices_Concat_int.v]
  simp only [slices_Concat_int.e6]
  rfl
theorem slices_Concat_int.ok : V.Valid Tryz.prog 270 slices_Concat_int.con :=
  V.fo (V.tab_cons slices_Grow_int.ok V.tab_nil) Tryz.func270 (by kernel_rfl) (fun x y h => (show V.evBody slices_Concat_int.E slices_Concat_int.con Tryz.f270 x = _ from slices_Concat_int.eq x).trans (V.cfl (by kernel_rfl) h))
noncomputable abbrev impl_HeadInts.con : V.Con := ⟨V.A0, (.cons (.sl (.cons (.int .i64) .nil)) .nil), fun (x : V.D0) => impl_HeadInts (V.p0_0 x), [], [(true, 16)], [(false, 1)], [true], []⟩
noncomputable abbrev impl_HeadInts.E : V.Env := V.mkE V.tys [(270, slices_Concat_int.con), (271, impl_KeysInts.con), (272, impl_bit.con)] [] [(1, 33)] [] [] []
noncomputable abbrev impl_HeadInts.kt (x0 : THead) : V.Kt (List Int) := V.ktOf impl_HeadInts.E impl_HeadInts.con Tryz.f210 (V.fl0 x0)
noncomputable abbrev impl_HeadInts.s (x0 : THead) : V.St := ⟨[(0, .v true [.val (.int .i64 x0.1), .val (.int .i64 x0.2.1), .val (.int .i64 x0.2.2.1), .val (.int .i64 x0.2.2.2.1), .val (.int .i64 x0.2.2.2.2.1), .val (.int .i64 x0.2.2.2.2.2.1), .val (.int .i64 x0.2.2.2.2.2.2.1), .val (.int .i64 x0.2.2.2.2.2.2.2.1), .val (.sl (.cons (.int .i64) .nil) x0.2.2.2.2.2.2.2.2.1), .val (.int .i64 x0.2.2.2.2.2.2.2.2.2.1), .val (.sl (.cons (.int .i64) .nil) x0.2.2.2.2.2.2.2.2.2.2.1), .val (.int .i64 x0.2.2.2.2.2.2.2.2.2.2.2.1), .val (.int .i64 x0.2.2.2.2.2.2.2.2.2.2.2.2.1), .val (.sl (.cons (.int .i64) .nil) x0.2.2.2.2.2.2.2.2.2.2.2.2.2.1), .val (.int .i64 x0.2.2.2.2.2.2.2.2.2.2.2.2.2.2.1), .val (.bool x0.2.2.2.2.2.2.2.2.2.2.2.2.2.2.2)])], []⟩
theorem impl_HeadInts.v0 (x0 : THead) : V.evBody impl_HeadInts.E impl_HeadInts.con Tryz.f210 (V.fl0 x0) = V.evC impl_HeadInts.E Tryz.f210.ntmps (V.codeOf Tryz.f210) (impl_HeadInts.kt x0) (impl_HeadInts.s x0) := by kernel_rfl
theorem impl_HeadInts.v (x0 : THead) : V.evC impl_HeadInts.E Tryz.f210.ntmps (V.codeOf Tryz.f210) (impl_HeadInts.kt x0) (impl_HeadInts.s x0) = impl_HeadInts x0 := by kernel_rfl
theorem impl_HeadInts.eq (x0 : THead) : V.evBody impl_HeadInts.E impl_HeadInts.con Tryz.f210 (V.fl0 x0) = impl_HeadInts x0 := (impl_HeadInts.v0 x0).trans (impl_HeadInts.v x0)
theorem impl_HeadInts.ok : V.Valid Tryz.prog 210 impl_HeadInts.con :=
  V.fo (V.tab_cons slices_Concat_int.ok (V.tab_cons impl_KeysInts.ok (V.tab_cons impl_bit.ok V.tab_nil))) Tryz.func210 (by kernel_rfl) (fun x y h => (show V.evBody impl_HeadInts.E impl_HeadInts.con Tryz.f210 x = _ from impl_HeadInts.eq (V.p0_0 x)).trans (V.cfl (by kernel_rfl) h))
noncomputable abbrev slices_Index_int.con : V.Con := ⟨(.cons (.sl (.cons (.int .i64) .nil)) (.cons (.int .i64) .nil)), (.cons (.int .i64) .nil), fun (x : List Int × Int) => slices_Index_int x.1 x.2, [], [(false, 1), (false, 1)], [(false, 1)], [false], []⟩
noncomputable abbrev slices_Index_int.E : V.Env := V.mkE V.tys [] [(4, [0, 1, 7, 8], [])] [] [] [] []
noncomputable abbrev slices_Index_int.kt (x0 : List Int) (x1 : Int) : V.Kt Int := V.ktOf slices_Index_int.E slices_Index_int.con Tryz.f304 ((x0, x1) : List Int × Int)
noncomputable abbrev slices_Index_int.s4 (x0 : List Int) (x1 : Int) (v4_2 : Int) (v4_3 : Int) : V.St := ⟨[(0, .v false [.val (.sl (.cons (.int .i64) .nil) x0)]), (1, .v false [.val (.int .i64 x1)]), (7, .v false [.val (.int .i64 v4_2)]), (8, .v false [.val (.int .i64 v4_3)])], []⟩
theorem slices_Index_int.r4 (x0 : List Int) (x1 : Int) (R : V.St → Option Int) (v4_2 : Int) (v4_3 : Int) : V.loopF slices_Index_int.E Tryz.f304.ntmps [1, 0, 1, 0] [] (V.codeOf Tryz.f304) (slices_Index_int.kt x0 x1) R (slices_Index_int.s4 x0 x1 v4_2 v4_3) = slices_Index_int.g4 x0 x1 (fun v4_2 v4_3 => R (slices_Index_int.s4 x0 x1 v4_2 v4_3)) v4_2 v4_3 := by kernel_rfl
theorem slices_Index_int.e4 (x0 : List Int) (x1 : Int) : ∀ (n : Nat) (v4_2 : Int) (v4_3 : Int), V.loopN (V.loopF slices_Index_int.E Tryz.f304.ntmps [1, 0, 1, 0] [] (V.codeOf Tryz.f304) (slices_Index_int.kt x0 x1)) n (slices_Index_int.s4 x0 x1 v4_2 v4_3) = slices_Index_int.l4 x0 x1 n v4_2 v4_3 := by
  intro n
  induction n with
  | zero => intros; rw [V.loopN_z]; rfl
  | succ n ih =>
    intro v4_2 v4_3
    rw [V.loopN_s, slices_Index_int.r4]
    simp only [ih]
    first | exact (slices_Index_int.u4 ..).symm | rfl
theorem slices_Index_int.v (x0 : List Int) (x1 : Int) : V.evBody slices_Index_int.E slices_Index_int.con Tryz.f304 ((x0, x1) : List Int × Int) = slices_Index_int.b x0 x1 (fun v4_2 v4_3 => V.loopN (V.loopF slices_Index_int.E Tryz.f304.ntmps [1, 0, 1, 0] [] (V.codeOf Tryz.f304) (slices_Index_int.kt x0 x1)) V.KK (slices_Index_int.s4 x0 x1 v4_2 v4_3)) := by kernel_rfl
theorem slices_Index_int.eq (x0 : List Int) (x1 : Int) : V.evBody slices_Index_int.E slices_Index_int.con Tryz.f304 ((x0, x1) : List Int × Int) = slices_Index_int x0 x1 := by
  rw [slices_Index_int.v]
  simp only [slices_Index_int.e4]
  rfl
theorem slices_Index_int.ok : V.Valid Tryz.prog 304 slices_Index_int.con :=
  V.fo V.tab_nil Tryz.func304 (by kernel_rfl) (fun x y h => (show V.evBody slices_Index_int.E slices_Index_int.con Tryz.f304 x = _ from slices_Index_int.eq x.1 x.2).trans (V.cfl (by kernel_rfl) h))
noncomputable abbrev slices_Contains_int.con : V.Con := ⟨(.cons (.sl (.cons (.int .i64) .nil)) (.cons (.int .i64) .nil)), (.cons .bool .nil), fun (x : List Int × Int) => slices_Contains_int x.1 x.2, [], [(false, 1), (false, 1)], [(false, 1)], [false], []⟩
noncomputable abbrev slices_Contains_int.E : V.Env := V.mkE V.tys [(304, slices_Index_int.con)] [] [] [] [] []
theorem slices_Contains_int.eq (x0 : List Int) (x1 : Int) : V.evBody slices_Contains_int.E slices_Contains_int.con Tryz.f276 ((x0, x1) : List Int × Int) = slices_Contains_int x0 x1 := by kernel_rfl
theorem slices_Contains_int.ok : V.Valid Tryz.prog 276 slices_Contains_int.con :=
  V.fo (V.tab_cons slices_Index_int.ok V.tab_nil) Tryz.func276 (by kernel_rfl) (fun x y h => (show V.evBody slices_Contains_int.E slices_Contains_int.con Tryz.f276 x = _ from slices_Contains_int.eq x.1 x.2).trans (V.cfl (by kernel_rfl) h))
noncomputable abbrev impl_KeyedHash.con : V.Con := ⟨(.cons (.int .i64) (.cons (.sl (.cons (.int .i64) .nil)) .nil)), (.cons (.int .i64) .nil), fun (x : Int × List Int) => impl_KeyedHash x.1 x.2, [], [(false, 1), (false, 1)], [(false, 1)], [false], []⟩
noncomputable abbrev impl_KeyedHash.E : V.Env := V.mkE V.tys [(260, impl_Hash.con), (270, slices_Concat_int.con)] [] [] [128320] [] []
theorem impl_KeyedHash.eq (x0 : Int) (x1 : List Int) : V.evBody impl_KeyedHash.E impl_KeyedHash.con Tryz.f222 ((x0, x1) : Int × List Int) = impl_KeyedHash x0 x1 := by kernel_rfl
theorem impl_KeyedHash.ok : V.Valid Tryz.prog 222 impl_KeyedHash.con :=
  V.fo (V.tab_cons impl_Hash.ok (V.tab_cons slices_Concat_int.ok V.tab_nil)) Tryz.func222 (by kernel_rfl) (fun x y h => (show V.evBody impl_KeyedHash.E impl_KeyedHash.con Tryz.f222 x = _ from impl_KeyedHash.eq x.1 x.2).trans (V.cfl (by kernel_rfl) h))
noncomputable abbrev impl_TagOf.con : V.Con := ⟨(.cons (.int .i64) (.cons (.sl (.cons (.int .i64) .nil)) .nil)), (.cons (.int .i64) .nil), fun (x : Int × List Int) => impl_TagOf x.1 x.2, [], [(false, 1), (false, 1)], [(false, 1)], [false], []⟩
noncomputable abbrev impl_TagOf.E : V.Env := V.mkE V.tys [(222, impl_KeyedHash.con)] [] [] [] [] []
theorem impl_TagOf.eq (x0 : Int) (x1 : List Int) : V.evBody impl_TagOf.E impl_TagOf.con Tryz.f128 ((x0, x1) : Int × List Int) = impl_TagOf x0 x1 := by kernel_rfl
theorem impl_TagOf.ok : V.Valid Tryz.prog 128 impl_TagOf.con :=
  V.fo (V.tab_cons impl_KeyedHash.ok V.tab_nil) Tryz.func128 (by kernel_rfl) (fun x y h => (show V.evBody impl_TagOf.E impl_TagOf.con Tryz.f128 x = _ from impl_TagOf.eq x.1 x.2).trans (V.cfl (by kernel_rfl) h))
noncomputable abbrev impl_SignBy.con : V.Con := ⟨(.cons (.sl (.cons (.int .i64) .nil)) (.cons (.sl (.cons (.int .i64) .nil)) (.cons (.int .i64) (.cons (.sl (.cons (.int .i64) .nil)) .nil)))), (.cons (.sl (.cons (.int .i64) (.cons (.int .i64) .nil))) .nil), fun (x : List Int × List Int × Int × List Int) => impl_SignBy x.1 (x.2.1, x.2.2.1) x.2.2.2, [], [(false, 1), (true, 2), (false, 1)], [(false, 1)], [true], []⟩
noncomputable abbrev impl_SignBy.E : V.Env := V.mkE V.tys [(128, impl_TagOf.con), (276, slices_Contains_int.con)] [(6, [0, 2, 7, 12, 13, 14], [(64000038400448, (.cons (.int .i64) (.cons (.int .i64) .nil)), true)])] [] [] [] []
noncomputable abbrev impl_SignBy.kt (x0 : List Int) (x1 : TKeys) (x2 : List Int) : V.Kt (List TSig) := V.ktOf impl_SignBy.E impl_SignBy.con Tryz.f229 ((x0, x1.1, x1.2, x2) : List Int × List Int × Int × List Int)
noncomputable abbrev impl_SignBy.s6 (x0 : List Int) (x1 : TKeys) (x2 : List Int) (v6_3 : Int) (v6_4 : Int) (v6_5 : List TSig) : V.St := ⟨[(0, .v false [.val (.sl (.cons (.int .i64) .nil) x0)]), (2, .v false [.val (.sl (.cons (.int .i64) .nil) x2)]), (7, .v false [.ref 64000038400448]), (12, .v false [.val (.sl (.cons (.int .i64) .nil) x1.1)]), (13, .v false [.val (.int .i64 v6_3)]), (14, .v false [.val (.int .i64 v6_4)])], [(64000038400448, .row (.cons (.int .i64) (.cons (.int .i64) .nil)) true v6_5)]⟩
theorem impl_SignBy.r6 (x0 : List Int) (x1 : TKeys) (x2 : List Int) (R : V.St → Option (List TSig)) (v6_3 : Int) (v6_4 : Int) (v6_5 : List TSig) : V.loopF impl_SignBy.E Tryz.f229.ntmps [1, 1, 0, 1, 0] [] (V.codeOf Tryz.f229) (impl_SignBy.kt x0 x1 x2) R (impl_SignBy.s6 x0 x1 x2 v6_3 v6_4 v6_5) = impl_SignBy.g6 x0 x1 x2 (fun v6_3 v6_4 v6_5 => R (impl_SignBy.s6 x0 x1 x2 v6_3 v6_4 v6_5)) v6_3 v6_4 v6_5 := by kernel_rfl
theorem impl_SignBy.e6 (x0 : List Int) (x1 : TKeys) (x2 : List Int) : ∀ (n : Nat) (v6_3 : Int) (v6_4 : Int) (v6_5 : List TSig), V.loopN (V.loopF impl_SignBy.E Tryz.f229.ntmps [1, 1, 0, 1, 0] [] (V.codeOf Tryz.f229) (impl_SignBy.kt x0 x1 x2)) n (impl_SignBy.s6 x0 x1 x2 v6_3 v6_4 v6_5) = impl_SignBy.l6 x0 x1 x2 n v6_3 v6_4 v6_5 := by
  intro n
  induction n with
  | zero => intros; rw [V.loopN_z]; rfl
  | succ n ih =>
    intro v6_3 v6_4 v6_5
    rw [V.loopN_s, impl_SignBy.r6]
    simp only [ih]
    first | exact (impl_SignBy.u6 ..).symm | rfl
theorem impl_SignBy.v (x0 : List Int) (x1 : TKeys) (x2 : List Int) : V.evBody impl_SignBy.E impl_SignBy.con Tryz.f229 ((x0, x1.1, x1.2, x2) : List Int × List Int × Int × List Int) = impl_SignBy.b x0 x1 x2 (fun v6_3 v6_4 v6_5 => V.loopN (V.loopF impl_SignBy.E Tryz.f229.ntmps [1, 1, 0, 1, 0] [] (V.codeOf Tryz.f229) (impl_SignBy.kt x0 x1 x2)) V.KK (impl_SignBy.s6 x0 x1 x2 v6_3 v6_4 v6_5)) := by kernel_rfl
theorem impl_SignBy.eq (x0 : List Int) (x1 : TKeys) (x2 : List Int) : V.evBody impl_SignBy.E impl_SignBy.con Tryz.f229 ((x0, x1.1, x1.2, x2) : List Int × List Int × Int × List Int) = impl_SignBy x0 x1 x2 := by
  rw [impl_SignBy.v]
  simp only [impl_SignBy.e6]
  rfl
theorem impl_SignBy.ok : V.Valid Tryz.prog 229 impl_SignBy.con :=
  V.fo (V.tab_cons impl_TagOf.ok (V.tab_cons slices_Contains_int.ok V.tab_nil)) Tryz.func229 (by kernel_rfl) (fun x y h => (show V.evBody impl_SignBy.E impl_SignBy.con Tryz.f229 x = _ from impl_SignBy.eq x.1 (x.2.1, x.2.2.1) x.2.2.2).trans (V.cfl (by kernel_rfl) h))
noncomputable abbrev impl_SignHead.con : V.Con := ⟨V.A1, V.eSigned, fun (x : V.D1) => impl_SignHead (V.p1_0 x) (V.p1_1 x) (V.p1_2 x), [], [(false, 1), (true, 2), (true, 16)], [(true, 17)], [false, false, false, false, false, false, false, false, true, false, true, false, false, true, false, false, true], []⟩
noncomputable abbrev impl_SignHead.E : V.Env := V.mkE V.tys [(195, impl_copyHead.con), (210, impl_HeadInts.con), (229, impl_SignBy.con)] [] [(1, 6)] [] [] []
noncomputable abbrev impl_SignHead.kt (x0 : List Int) (x1 : TKeys) (x2 : THead) : V.Kt TSigned := V.ktOf impl_SignHead.E impl_SignHead.con Tryz.f142 (V.fl1 x0 x1 x2)
noncomputable abbrev impl_SignHead.s (x0 : List Int) (x1 : TKeys) (x2 : THead) : V.St := ⟨[(0, .v false [.val (.sl (.cons (.int .i64) .nil) x0)]), (1, .v true [.val (.sl (.cons (.int .i64) .nil) x1.1), .val (.int .i64 x1.2)]), (2, .v true [.val (.int .i64 x2.1), .val (.int .i64 x2.2.1), .val (.int .i64 x2.2.2.1), .val (.int .i64 x2.2.2.2.1), .val (.int .i64 x2.2.2.2.2.1), .val (.int .i64 x2.2.2.2.2.2.1), .val (.int .i64 x2.2.2.2.2.2.2.1), .val (.int .i64 x2.2.2.2.2.2.2.2.1), .val (.sl (.cons (.int .i64) .nil) x2.2.2.2.2.2.2.2.2.1), .val (.int .i64 x2.2.2.2.2.2.2.2.2.2.1), .val (.sl (.cons (.int .i64) .nil) x2.2.2.2.2.2.2.2.2.2.2.1), .val (.int .i64 x2.2.2.2.2.2.2.2.2.2.2.2.1), .val (.int .i64 x2.2.2.2.2.2.2.2.2.2.2.2.2.1), .val (.sl (.cons (.int .i64) .nil) x2.2.2.2.2.2.2.2.2.2.2.2.2.2.1), .val (.int .i64 x2.2.2.2.2.2.2.2.2.2.2.2.2.2.2.1), .val (.bool x2.2.2.2.2.2.2.2.2.2.2.2.2.2.2.2)])], []⟩
theorem impl_SignHead.v0 (x0 : List Int) (x1 : TKeys) (x2 : THead) : V.evBody impl_SignHead.E impl_SignHead.con Tryz.f142 (V.fl1 x0 x1 x2) = V.evC impl_SignHead.E Tryz.f142.ntmps (V.codeOf Tryz.f142) (impl_SignHead.kt x0 x1 x2) (impl_SignHead.s x0 x1 x2) := by kernel_rfl
theorem impl_SignHead.v (x0 : List Int) (x1 : TKeys) (x2 : THead) : V.evC impl_SignHead.E Tryz.f142.ntmps (V.codeOf Tryz.f142) (impl_SignHead.kt x0 x1 x2) (impl_SignHead.s x0 x1 x2) = impl_SignHead x0 x1 x2 := by kernel_rfl
theorem impl_SignHead.eq (x0 : List Int) (x1 : TKeys) (x2 : THead) : V.evBody impl_SignHead.E impl_SignHead.con Tryz.f142 (V.fl1 x0 x1 x2) = impl_SignHead x0 x1 x2 := (impl_SignHead.v0 x0 x1 x2).trans (impl_SignHead.v x0 x1 x2)
theorem impl_SignHead.ok : V.Valid Tryz.prog 142 impl_SignHead.con :=
  V.fo (V.tab_cons impl_copyHead.ok (V.tab_cons impl_HeadInts.ok (V.tab_cons impl_SignBy.ok V.tab_nil))) Tryz.func142 (by kernel_rfl) (fun x y h => (show V.evBody impl_SignHead.E impl_SignHead.con Tryz.f142 x = _ from impl_SignHead.eq (V.p1_0 x) (V.p1_1 x) (V.p1_2 x)).trans (V.cfl (by kernel_rfl) h))
noncomputable abbrev slices_Clone_string.con : V.Con := ⟨(.cons (.sl (.cons .str .nil)) .nil), (.cons (.sl (.cons .str .nil)) .nil), fun (x : List ByteArray) => slices_Clone_string x, [], [(false, 1)], [(false, 1)], [true], []⟩
noncomputable abbrev slices_Clone_string.E : V.Env := V.mkE V.tys [] [] [] [] [] []
theorem slices_Clone_string.eq (x0 : List ByteArray) : V.evBody slices_Clone_string.E slices_Clone_string.con Tryz.f240 ((x0) : List ByteArray) = slices_Clone_string x0 := by kernel_rfl
theorem slices_Clone_string.ok : V.Valid Tryz.prog 240 slices_Clone_string.con :=
  V.fo V.tab_nil Tryz.func240 (by kernel_rfl) (fun x y h => (show V.evBody slices_Clone_string.E slices_Clone_string.con Tryz.f240 x = _ from slices_Clone_string.eq x).trans (V.cfl (by kernel_rfl) h))
noncomputable abbrev impl_copyEntry.con : V.Con := ⟨V.eEntry, V.eEntry, fun (x : ByteArray × Int × Int × List ByteArray) => impl_copyEntry x, [], [(true, 4)], [(true, 4)], [false, false, false, true], []⟩
noncomputable abbrev impl_copyEntry.E : V.Env := V.mkE V.tys [(240, slices_Clone_string.con)] [] [] [] [] []
theorem impl_copyEntry.eq (x0 : TEntry) : V.evBody impl_copyEntry.E impl_copyEntry.con Tryz.f167 ((x0.1, x0.2.1, x0.2.2.1, x0.2.2.2) : ByteArray × Int × Int × List ByteArray) = impl_copyEntry x0 := by kernel_rfl
theorem impl_copyEntry.ok : V.Valid Tryz.prog 167 impl_copyEntry.con :=
  V.fo (V.tab_cons slices_Clone_string.ok V.tab_nil) Tryz.func167 (by kernel_rfl) (fun x y h => (show V.evBody impl_copyEntry.E impl_copyEntry.con Tryz.f167 x = _ from impl_copyEntry.eq x).trans (V.cfl (by kernel_rfl) h))
noncomputable abbrev impl_copyEntries.con : V.Con := ⟨(.cons (.sl V.eEntry) .nil), (.cons (.sl V.eEntry) .nil), fun (x : List TEntry) => impl_copyEntries x, [], [(false, 1)], [(false, 1)], [true], []⟩
noncomputable abbrev impl_copyEntries.E : V.Env := V.mkE V.tys [(167, impl_copyEntry.con)] [(6, [3, 7, 8, 9], [(64000038400192, V.eEntry, true)])] [] [] [] []
noncomputable abbrev impl_copyEntries.kt (x0 : List TEntry) : V.Kt (List TEntry) := V.ktOf impl_copyEntries.E impl_copyEntries.con Tryz.f143 ((x0) : List TEntry)
noncomputable abbrev impl_copyEntries.s6 (x0 : List TEntry) (v6_1 : Int) (v6_2 : Int) (v6_3 : List TEntry) : V.St := ⟨[(3, .v false [.ref 64000038400192]), (7, .v false [.val (.sl V.eEntry x0)]), (8, .v false [.val (.int .i64 v6_1)]), (9, .v false [.val (.int .i64 v6_2)])], [(64000038400192, .row V.eEntry true v6_3)]⟩
theorem impl_copyEntries.r6 (x0 : List TEntry) (R : V.St → Option (List TEntry)) (v6_1 : Int) (v6_2 : Int) (v6_3 : List TEntry) : V.loopF impl_copyEntries.E Tryz.f143.ntmps [1, 1, 0, 1, 0] [] (V.codeOf Tryz.f143) (impl_copyEntries.kt x0) R (impl_copyEntries.s6 x0 v6_1 v6_2 v6_3) = impl_copyEntries.g6 x0 (fun v6_1 v6_2 v6_3 => R (impl_copyEntries.s6 x0 v6_1 v6_2 v6_3)) v6_1 v6_2 v6_3 := by kernel_rfl
theorem impl_copyEntries.e6 (x0 : List TEntry) : ∀ (n : Nat) (v6_1 : Int) (v6_2 : Int) (v6_3 : List TEntry), V.loopN (V.loopF impl_copyEntries.E Tryz.f143.ntmps [1, 1, 0, 1, 0] [] (V.codeOf Tryz.f143) (impl_copyEntries.kt x0)) n (impl_copyEntries.s6 x0 v6_1 v6_2 v6_3) = impl_copyEntries.l6 x0 n v6_1 v6_2 v6_3 := by
  intro n
  induction n with
  | zero => intros; rw [V.loopN_z]; rfl
  | succ n ih =>
    intro v6_1 v6_2 v6_3
    rw [V.loopN_s, impl_copyEntries.r6]
    simp only [ih]
    first | exact (impl_copyEntries.u6 ..).symm | rfl
theorem impl_copyEntries.v (x0 : List TEntry) : V.evBody impl_copyEntries.E impl_copyEntries.con Tryz.f143 ((x0) : List TEntry) = impl_copyEntries.b x0 (fun v6_1 v6_2 v6_3 => V.loopN (V.loopF impl_copyEntries.E Tryz.f143.ntmps [1, 1, 0, 1, 0] [] (V.codeOf Tryz.f143) (impl_copyEntries.kt x0)) V.KK (impl_copyEntries.s6 x0 v6_1 v6_2 v6_3)) := by kernel_rfl
theorem impl_copyEntries.eq (x0 : List TEntry) : V.evBody impl_copyEntries.E impl_copyEntries.con Tryz.f143 ((x0) : List TEntry) = impl_copyEntries x0 := by
  rw [impl_copyEntries.v]
  simp only [impl_copyEntries.e6]
  rfl
theorem impl_copyEntries.ok : V.Valid Tryz.prog 143 impl_copyEntries.con :=
  V.fo (V.tab_cons impl_copyEntry.ok V.tab_nil) Tryz.func143 (by kernel_rfl) (fun x y h => (show V.evBody impl_copyEntries.E impl_copyEntries.con Tryz.f143 x = _ from impl_copyEntries.eq x).trans (V.cfl (by kernel_rfl) h))
noncomputable abbrev impl_NewZone.con : V.Con := ⟨(.cons (.sl (.cons (.int .i64) .nil)) (.cons (.int .i64) (.cons (.int .i64) (.cons (.sl V.eEntry) (.cons (.int .i64) (.cons (.int .i64) .nil)))))), (.cons (.sl V.eSigned) (.cons (.sl V.eEntry) (.cons .bool .nil))), fun (x : List Int × Int × Int × List TEntry × Int × Int) => impl_NewZone (x.1, x.2.1) x.2.2.1 x.2.2.2.1 x.2.2.2.2.1 x.2.2.2.2.2, [], [(true, 2), (false, 1), (false, 1), (false, 1), (false, 1)], [(true, 2), (false, 1)], [true, true, false], []⟩
noncomputable abbrev impl_NewZone.E : V.Env := V.mkE V.tys [(141, impl_FirstHead.con), (142, impl_SignHead.con), (143, impl_copyEntries.con)] [] [] [] [] []
theorem impl_NewZone.eq (x0 : TKeys) (x1 : Int) (x2 : List TEntry) (x3 : Int) (x4 : Int) : V.evBody impl_NewZone.E impl_NewZone.con Tryz.f53 ((x0.1, x0.2, x1, x2, x3, x4) : List Int × Int × Int × List TEntry × Int × Int) = impl_NewZone x0 x1 x2 x3 x4 := by kernel_rfl
theorem impl_NewZone.ok : V.Valid Tryz.prog 53 impl_NewZone.con :=
  V.fo (V.tab_cons impl_FirstHead.ok (V.tab_cons impl_SignHead.ok (V.tab_cons impl_copyEntries.ok V.tab_nil))) Tryz.func53 (by kernel_rfl) (fun x y h => (show V.evBody impl_NewZone.E impl_NewZone.con Tryz.f53 x = _ from impl_NewZone.eq (x.1, x.2.1) x.2.2.1 x.2.2.2.1 x.2.2.2.2.1 x.2.2.2.2.2).trans (V.cfl (by kernel_rfl) h))
noncomputable abbrev laws_eqIntS.con : V.Con := ⟨(.cons (.sl (.cons (.int .i64) .nil)) (.cons (.sl (.cons (.int .i64) .nil)) .nil)), (.cons .bool .nil), fun (x : List Int × List Int) => laws_eqIntS x.1 x.2, [], [(false, 1), (false, 1)], [(false, 1)], [false], []⟩
noncomputable abbrev laws_eqIntS.E : V.Env := V.mkE V.tys [] [(8, [0, 1, 5], [])] [(6, 8)] [] [] []
noncomputable abbrev laws_eqIntS.kt (x0 : List Int) (x1 : List Int) : V.Kt Bool := V.ktOf laws_eqIntS.E laws_eqIntS.con Tryz.f79 ((x0, x1) : List Int × List Int)
noncomputable abbrev laws_eqIntS.s8 (x0 : List Int) (x1 : List Int) (v8_2 : Int) : V.St := ⟨[(0, .v false [.val (.sl (.cons (.int .i64) .nil) x0)]), (1, .v false [.val (.sl (.cons (.int .i64) .nil) x1)]), (5, .v false [.val (.int .i64 v8_2)])], []⟩
theorem laws_eqIntS.r8 (x0 : List Int) (x1 : List Int) (R : V.St → Option Bool) (v8_2 : Int) : V.loopF laws_eqIntS.E Tryz.f79.ntmps [1, 1, 0, 1, 0] [] (V.codeOf Tryz.f79) (laws_eqIntS.kt x0 x1) R (laws_eqIntS.s8 x0 x1 v8_2) = laws_eqIntS.g8 x0 x1 (fun v8_2 => R (laws_eqIntS.s8 x0 x1 v8_2)) v8_2 := by kernel_rfl
theorem laws_eqIntS.e8 (x0 : List Int) (x1 : List Int) : ∀ (n : Nat) (v8_2 : Int), V.loopN (V.loopF laws_eqIntS.E Tryz.f79.ntmps [1, 1, 0, 1, 0] [] (V.codeOf Tryz.f79) (laws_eqIntS.kt x0 x1)) n (laws_eqIntS.s8 x0 x1 v8_2) = laws_eqIntS.l8 x0 x1 n v8_2 := by
  intro n
  induction n with
  | zero => intros; rw [V.loopN_z]; rfl
  | succ n ih =>
    intro v8_2
    rw [V.loopN_s, laws_eqIntS.r8]
    simp only [ih]
    first | exact (laws_eqIntS.u8 ..).symm | rfl
theorem laws_eqIntS.v (x0 : List Int) (x1 : List Int) : V.evBody laws_eqIntS.E laws_eqIntS.con Tryz.f79 ((x0, x1) : List Int × List Int) = laws_eqIntS.b x0 x1 (fun v8_2 => V.loopN (V.loopF laws_eqIntS.E Tryz.f79.ntmps [1, 1, 0, 1, 0] [] (V.codeOf Tryz.f79) (laws_eqIntS.kt x0 x1)) V.KK (laws_eqIntS.s8 x0 x1 v8_2)) := by kernel_rfl
theorem laws_eqIntS.eq (x0 : List Int) (x1 : List Int) : V.evBody laws_eqIntS.E laws_eqIntS.con Tryz.f79 ((x0, x1) : List Int × List Int) = laws_eqIntS x0 x1 := by
  rw [laws_eqIntS.v]
  simp only [laws_eqIntS.e8]
  rfl
theorem laws_eqIntS.ok : V.Valid Tryz.prog 79 laws_eqIntS.con :=
  V.fo V.tab_nil Tryz.func79 (by kernel_rfl) (fun x y h => (show V.evBody laws_eqIntS.E laws_eqIntS.con Tryz.f79 x = _ from laws_eqIntS.eq x.1 x.2).trans (V.cfl (by kernel_rfl) h))
noncomputable abbrev laws_eqKeys.con : V.Con := ⟨(.cons (.sl (.cons (.int .i64) .nil)) (.cons (.int .i64) (.cons (.sl (.cons (.int .i64) .nil)) (.cons (.int .i64) .nil)))), (.cons .bool .nil), fun (x : List Int × Int × List Int × Int) => laws_eqKeys (x.1, x.2.1) x.2.2, [], [(true, 2), (true, 2)], [(false, 1)], [false], []⟩
noncomputable abbrev laws_eqKeys.E : V.Env := V.mkE V.tys [(79, laws_eqIntS.con)] [] [] [] [] []
theorem laws_eqKeys.eq (x0 : TKeys) (x1 : TKeys) : V.evBody laws_eqKeys.E laws_eqKeys.con Tryz.f54 ((x0.1, x0.2, x1.1, x1.2) : List Int × Int × List Int × Int) = laws_eqKeys x0 x1 := by kernel_rfl
theorem laws_eqKeys.ok : V.Valid Tryz.prog 54 laws_eqKeys.con :=
  V.fo (V.tab_cons laws_eqIntS.ok V.tab_nil) Tryz.func54 (by kernel_rfl) (fun x y h => (show V.evBody laws_eqKeys.E laws_eqKeys.con Tryz.f54 x = _ from laws_eqKeys.eq (x.1, x.2.1) x.2.2).trans (V.cfl (by kernel_rfl) h))
noncomputable abbrev laws_eqHead.con : V.Con := ⟨V.A2, (.cons .bool .nil), fun (x : V.D2) => laws_eqHead (V.p2_0 x) (V.p2_1 x), [], [(true, 16), (true, 16)], [(false, 1)], [false], []⟩
noncomputable abbrev laws_eqHead.E : V.Env := V.mkE V.tys [(54, laws_eqKeys.con)] [] [] [] [] []
noncomputable abbrev laws_eqHead.kt (x0 : THead) (x1 : THead) : V.Kt Bool := V.ktOf laws_eqHead.E laws_eqHead.con Tryz.f21 (V.fl2 x0 x1)
noncomputable abbrev laws_eqHead.s (x0 : THead) (x1 : THead) : V.St := ⟨[(0, .v true [.val (.int .i64 x0.1), .val (.int .i64 x0.2.1), .val (.int .i64 x0.2.2.1), .val (.int .i64 x0.2.2.2.1), .val (.int .i64 x0.2.2.2.2.1), .val (.int .i64 x0.2.2.2.2.2.1), .val (.int .i64 x0.2.2.2.2.2.2.1), .val (.int .i64 x0.2.2.2.2.2.2.2.1), .val (.sl (.cons (.int .i64) .nil) x0.2.2.2.2.2.2.2.2.1), .val (.int .i64 x0.2.2.2.2.2.2.2.2.2.1), .val (.sl (.cons (.int .i64) .nil) x0.2.2.2.2.2.2.2.2.2.2.1), .val (.int .i64 x0.2.2.2.2.2.2.2.2.2.2.2.1), .val (.int .i64 x0.2.2.2.2.2.2.2.2.2.2.2.2.1), .val (.sl (.cons (.int .i64) .nil) x0.2.2.2.2.2.2.2.2.2.2.2.2.2.1), .val (.int .i64 x0.2.2.2.2.2.2.2.2.2.2.2.2.2.2.1), .val (.bool x0.2.2.2.2.2.2.2.2.2.2.2.2.2.2.2)]), (1, .v true [.val (.int .i64 x1.1), .val (.int .i64 x1.2.1), .val (.int .i64 x1.2.2.1), .val (.int .i64 x1.2.2.2.1), .val (.int .i64 x1.2.2.2.2.1), .val (.int .i64 x1.2.2.2.2.2.1), .val (.int .i64 x1.2.2.2.2.2.2.1), .val (.int .i64 x1.2.2.2.2.2.2.2.1), .val (.sl (.cons (.int .i64) .nil) x1.2.2.2.2.2.2.2.2.1), .val (.int .i64 x1.2.2.2.2.2.2.2.2.2.1), .val (.sl (.cons (.int .i64) .nil) x1.2.2.2.2.2.2.2.2.2.2.1), .val (.int .i64 x1.2.2.2.2.2.2.2.2.2.2.2.1), .val (.int .i64 x1.2.2.2.2.2.2.2.2.2.2.2.2.1), .val (.sl (.cons (.int .i64) .nil) x1.2.2.2.2.2.2.2.2.2.2.2.2.2.1), .val (.int .i64 x1.2.2.2.2.2.2.2.2.2.2.2.2.2.2.1), .val (.bool x1.2.2.2.2.2.2.2.2.2.2.2.2.2.2.2)])], []⟩
theorem laws_eqHead.v0 (x0 : THead) (x1 : THead) : V.evBody laws_eqHead.E laws_eqHead.con Tryz.f21 (V.fl2 x0 x1) = V.evC laws_eqHead.E Tryz.f21.ntmps (V.codeOf Tryz.f21) (laws_eqHead.kt x0 x1) (laws_eqHead.s x0 x1) := by kernel_rfl
theorem laws_eqHead.v (x0 : THead) (x1 : THead) : V.evC laws_eqHead.E Tryz.f21.ntmps (V.codeOf Tryz.f21) (laws_eqHead.kt x0 x1) (laws_eqHead.s x0 x1) = laws_eqHead x0 x1 := by kernel_rfl
theorem laws_eqHead.eq (x0 : THead) (x1 : THead) : V.evBody laws_eqHead.E laws_eqHead.con Tryz.f21 (V.fl2 x0 x1) = laws_eqHead x0 x1 := (laws_eqHead.v0 x0 x1).trans (laws_eqHead.v x0 x1)
theorem laws_eqHead.ok : V.Valid Tryz.prog 21 laws_eqHead.con :=
  V.fo (V.tab_cons laws_eqKeys.ok V.tab_nil) Tryz.func21 (by kernel_rfl) (fun x y h => (show V.evBody laws_eqHead.E laws_eqHead.con Tryz.f21 x = _ from laws_eqHead.eq (V.p2_0 x) (V.p2_1 x)).trans (V.cfl (by kernel_rfl) h))
noncomputable abbrev laws_eqSig.con : V.Con := ⟨(.cons (.int .i64) (.cons (.int .i64) (.cons (.int .i64) (.cons (.int .i64) .nil)))), (.cons .bool .nil), fun (x : Int × Int × Int × Int) => laws_eqSig (x.1, x.2.1) x.2.2, [], [(true, 2), (true, 2)], [(false, 1)], [false], []⟩
noncomputable abbrev laws_eqSig.E : V.Env := V.mkE V.tys [] [] [] [] [] []
theorem laws_eqSig.eq (x0 : TSig) (x1 : TSig) : V.evBody laws_eqSig.E laws_eqSig.con Tryz.f40 ((x0.1, x0.2, x1.1, x1.2) : Int × Int × Int × Int) = laws_eqSig x0 x1 := by kernel_rfl
theorem laws_eqSig.ok : V.Valid Tryz.prog 40 laws_eqSig.con :=
  V.fo V.tab_nil Tryz.func40 (by kernel_rfl) (fun x y h => (show V.evBody laws_eqSig.E laws_eqSig.con Tryz.f40 x = _ from laws_eqSig.eq (x.1, x.2.1) x.2.2).trans (V.cfl (by kernel_rfl) h))
noncomputable abbrev laws_eqSigS.con : V.Con := ⟨(.cons (.sl (.cons (.int .i64) (.cons (.int .i64) .nil))) (.cons (.sl (.cons (.int .i64) (.cons (.int .i64) .nil))) .nil)), (.cons .bool .nil), fun (x : List TSig × List TSig) => laws_eqSigS x.1 x.2, [], [(false, 1), (false, 1)], [(false, 1)], [false], []⟩
noncomputable abbrev laws_eqSigS.E : V.Env := V.mkE V.tys [(40, laws_eqSig.con)] [(8, [0, 1, 5], [])] [(6, 8)] [] [] []
noncomputable abbrev laws_eqSigS.kt (x0 : List TSig) (x1 : List TSig) : V.Kt Bool := V.ktOf laws_eqSigS.E laws_eqSigS.con Tryz.f212 ((x0, x1) : List TSig × List TSig)
noncomputable abbrev laws_eqSigS.s8 (x0 : List TSig) (x1 : List TSig) (v8_2 : Int) : V.St := ⟨[(0, .v false [.val (.sl (.cons (.int .i64) (.cons (.int .i64) .nil)) x0)]), (1, .v false [.val (.sl (.cons (.int .i64) (.cons (.int .i64) .nil)) x1)]), (5, .v false [.val (.int .i64 v8_2)])], []⟩
theorem laws_eqSigS.r8 (x0 : List TSig) (x1 : List TSig) (R : V.St → Option Bool) (v8_2 : Int) : V.loopF laws_eqSigS.E Tryz.f212.ntmps [1, 1, 0, 1, 0] [] (V.codeOf Tryz.f212) (laws_eqSigS.kt x0 x1) R (laws_eqSigS.s8 x0 x1 v8_2) = laws_eqSigS.g8 x0 x1 (fun v8_2 => R (laws_eqSigS.s8 x0 x1 v8_2)) v8_2 := by kernel_rfl
theorem laws_eqSigS.e8 (x0 : List TSig) (x1 : List TSig) : ∀ (n : Nat) (v8_2 : Int), V.loopN (V.loopF laws_eqSigS.E Tryz.f212.ntmps [1, 1, 0, 1, 0] [] (V.codeOf Tryz.f212) (laws_eqSigS.kt x0 x1)) n (laws_eqSigS.s8 x0 x1 v8_2) = laws_eqSigS.l8 x0 x1 n v8_2 := by
  intro n
  induction n with
  | zero => intros; rw [V.loopN_z]; rfl
  | succ n ih =>
    intro v8_2
    rw [V.loopN_s, laws_eqSigS.r8]
    simp only [ih]
    first | exact (laws_eqSigS.u8 ..).symm | rfl
theorem laws_eqSigS.v (x0 : List TSig) (x1 : List TSig) : V.evBody laws_eqSigS.E laws_eqSigS.con Tryz.f212 ((x0, x1) : List TSig × List TSig) = laws_eqSigS.b x0 x1 (fun v8_2 => V.loopN (V.loopF laws_eqSigS.E Tryz.f212.ntmps [1, 1, 0, 1, 0] [] (V.codeOf Tryz.f212) (laws_eqSigS.kt x0 x1)) V.KK (laws_eqSigS.s8 x0 x1 v8_2)) := by kernel_rfl
theorem laws_eqSigS.eq (x0 : List TSig) (x1 : List TSig) : V.evBody laws_eqSigS.E laws_eqSigS.con Tryz.f212 ((x0, x1) : List TSig × List TSig) = laws_eqSigS x0 x1 := by
  rw [laws_eqSigS.v]
  simp only [laws_eqSigS.e8]
  rfl
theorem laws_eqSigS.ok : V.Valid Tryz.prog 212 laws_eqSigS.con :=
  V.fo (V.tab_cons laws_eqSig.ok V.tab_nil) Tryz.func212 (by kernel_rfl) (fun x y h => (show V.evBody laws_eqSigS.E laws_eqSigS.con Tryz.f212 x = _ from laws_eqSigS.eq x.1 x.2).trans (V.cfl (by kernel_rfl) h))
noncomputable abbrev laws_eqSigned.con : V.Con := ⟨V.A3, (.cons .bool .nil), fun (x : V.D3) => laws_eqSigned (V.p3_0 x) (V.p3_1 x), [], [(true, 17), (true, 17)], [(false, 1)], [false], []⟩
noncomputable abbrev laws_eqSigned.E : V.Env := V.mkE V.tys [(21, laws_eqHead.con), (212, laws_eqSigS.con)] [] [] [] [] []
noncomputable abbrev laws_eqSigned.kt (x0 : TSigned) (x1 : TSigned) : V.Kt Bool := V.ktOf laws_eqSigned.E laws_eqSigned.con Tryz.f108 (V.fl3 x0 x1)
noncomputable abbrev laws_eqSigned.s (x0 : TSigned) (x1 : TSigned) : V.St := ⟨[(0, .v true [.val (.int .i64 x0.1), .val (.int .i64 x0.2.1), .val (.int .i64 x0.2.2.1), .val (.int .i64 x0.2.2.2.1), .val (.int .i64 x0.2.2.2.2.1), .val (.int .i64 x0.2.2.2.2.2.1), .val (.int .i64 x0.2.2.2.2.2.2.1), .val (.int .i64 x0.2.2.2.2.2.2.2.1), .val (.sl (.cons (.int .i64) .nil) x0.2.2.2.2.2.2.2.2.1), .val (.int .i64 x0.2.2.2.2.2.2.2.2.2.1), .val (.sl (.cons (.int .i64) .nil) x0.2.2.2.2.2.2.2.2.2.2.1), .val (.int .i64 x0.2.2.2.2.2.2.2.2.2.2.2.1), .val (.int .i64 x0.2.2.2.2.2.2.2.2.2.2.2.2.1), .val (.sl (.cons (.int .i64) .nil) x0.2.2.2.2.2.2.2.2.2.2.2.2.2.1), .val (.int .i64 x0.2.2.2.2.2.2.2.2.2.2.2.2.2.2.1), .val (.bool x0.2.2.2.2.2.2.2.2.2.2.2.2.2.2.2.1), .val (.sl (.cons (.int .i64) (.cons (.int .i64) .nil)) x0.2.2.2.2.2.2.2.2.2.2.2.2.2.2.2.2)]), (1, .v true [.val (.int .i64 x1.1), .val (.int .i64 x1.2.1), .val (.int .i64 x1.2.2.1), .val (.int .i64 x1.2.2.2.1), .val (.int .i64 x1.2.2.2.2.1), .val (.int .i64 x1.2.2.2.2.2.1), .val (.int .i64 x1.2.2.2.2.2.2.1), .val (.int .i64 x1.2.2.2.2.2.2.2.1), .val (.sl (.cons (.int .i64) .nil) x1.2.2.2.2.2.2.2.2.1), .val (.int .i64 x1.2.2.2.2.2.2.2.2.2.1), .val (.sl (.cons (.int .i64) .nil) x1.2.2.2.2.2.2.2.2.2.2.1), .val (.int .i64 x1.2.2.2.2.2.2.2.2.2.2.2.1), .val (.int .i64 x1.2.2.2.2.2.2.2.2.2.2.2.2.1), .val (.sl (.cons (.int .i64) .nil) x1.2.2.2.2.2.2.2.2.2.2.2.2.2.1), .val (.int .i64 x1.2.2.2.2.2.2.2.2.2.2.2.2.2.2.1), .val (.bool x1.2.2.2.2.2.2.2.2.2.2.2.2.2.2.2.1), .val (.sl (.cons (.int .i64) (.cons (.int .i64) .nil)) x1.2.2.2.2.2.2.2.2.2.2.2.2.2.2.2.2)])], []⟩
theorem laws_eqSigned.v0 (x0 : TSigned) (x1 : TSigned) : V.evBody laws_eqSigned.E laws_eqSigned.con Tryz.f108 (V.fl3 x0 x1) = V.evC laws_eqSigned.E Tryz.f108.ntmps (V.codeOf Tryz.f108) (laws_eqSigned.kt x0 x1) (laws_eqSigned.s x0 x1) := by kernel_rfl
theorem laws_eqSigned.v (x0 : TSigned) (x1 : TSigned) : V.evC laws_eqSigned.E Tryz.f108.ntmps (V.codeOf Tryz.f108) (laws_eqSigned.kt x0 x1) (laws_eqSigned.s x0 x1) = laws_eqSigned x0 x1 := by kernel_rfl
theorem laws_eqSigned.eq (x0 : TSigned) (x1 : TSigned) : V.evBody laws_eqSigned.E laws_eqSigned.con Tryz.f108 (V.fl3 x0 x1) = laws_eqSigned x0 x1 := (laws_eqSigned.v0 x0 x1).trans (laws_eqSigned.v x0 x1)
theorem laws_eqSigned.ok : V.Valid Tryz.prog 108 laws_eqSigned.con :=
  V.fo (V.tab_cons laws_eqHead.ok (V.tab_cons laws_eqSigS.ok V.tab_nil)) Tryz.func108 (by kernel_rfl) (fun x y h => (show V.evBody laws_eqSigned.E laws_eqSigned.con Tryz.f108 x = _ from laws_eqSigned.eq (V.p3_0 x) (V.p3_1 x)).trans (V.cfl (by kernel_rfl) h))
noncomputable abbrev laws_eqSignedS.con : V.Con := ⟨(.cons (.sl V.eSigned) (.cons (.sl V.eSigned) .nil)), (.cons .bool .nil), fun (x : List TSigned × List TSigned) => laws_eqSignedS x.1 x.2, [], [(false, 1), (false, 1)], [(false, 1)], [false], []⟩
noncomputable abbrev laws_eqSignedS.E : V.Env := V.mkE V.tys [(108, laws_eqSigned.con)] [(8, [0, 1, 5], [])] [(6, 8)] [] [] []
noncomputable abbrev laws_eqSignedS.kt (x0 : List TSigned) (x1 : List TSigned) : V.Kt Bool := V.ktOf laws_eqSignedS.E laws_eqSignedS.con Tryz.f31 ((x0, x1) : List TSigned × List TSigned)
noncomputable abbrev laws_eqSignedS.s8 (x0 : List TSigned) (x1 : List TSigned) (v8_2 : Int) : V.St := ⟨[(0, .v false [.val (.sl V.eSigned x0)]), (1, .v false [.val (.sl V.eSigned x1)]), (5, .v false [.val (.int .i64 v8_2)])], []⟩
theorem laws_eqSignedS.r8 (x0 : List TSigned) (x1 : List TSigned) (R : V.St → Option Bool) (v8_2 : Int) : V.loopF laws_eqSignedS.E Tryz.f31.ntmps [1, 1, 0, 1, 0] [] (V.codeOf Tryz.f31) (laws_eqSignedS.kt x0 x1) R (laws_eqSignedS.s8 x0 x1 v8_2) = laws_eqSignedS.g8 x0 x1 (fun v8_2 => R (laws_eqSignedS.s8 x0 x1 v8_2)) v8_2 := by kernel_rfl
theorem laws_eqSignedS.e8 (x0 : List TSigned) (x1 : List TSigned) : ∀ (n : Nat) (v8_2 : Int), V.loopN (V.loopF laws_eqSignedS.E Tryz.f31.ntmps [1, 1, 0, 1, 0] [] (V.codeOf Tryz.f31) (laws_eqSignedS.kt x0 x1)) n (laws_eqSignedS.s8 x0 x1 v8_2) = laws_eqSignedS.l8 x0 x1 n v8_2 := by
  intro n
  induction n with
  | zero => intros; rw [V.loopN_z]; rfl
  | succ n ih =>
    intro v8_2
    rw [V.loopN_s, laws_eqSignedS.r8]
    simp only [ih]
    first | exact (laws_eqSignedS.u8 ..).symm | rfl
theorem laws_eqSignedS.v (x0 : List TSigned) (x1 : List TSigned) : V.evBody laws_eqSignedS.E laws_eqSignedS.con Tryz.f31 ((x0, x1) : List TSigned × List TSigned) = laws_eqSignedS.b x0 x1 (fun v8_2 => V.loopN (V.loopF laws_eqSignedS.E Tryz.f31.ntmps [1, 1, 0, 1, 0] [] (V.codeOf Tryz.f31) (laws_eqSignedS.kt x0 x1)) V.KK (laws_eqSignedS.s8 x0 x1 v8_2)) := by kernel_rfl
theorem laws_eqSignedS.eq (x0 : List TSigned) (x1 : List TSigned) : V.evBody laws_eqSignedS.E laws_eqSignedS.con Tryz.f31 ((x0, x1) : List TSigned × List TSigned) = laws_eqSignedS x0 x1 := by
  rw [laws_eqSignedS.v]
  simp only [laws_eqSignedS.e8]
  rfl
theorem laws_eqSignedS.ok : V.Valid Tryz.prog 31 laws_eqSignedS.con :=
  V.fo (V.tab_cons laws_eqSigned.ok V.tab_nil) Tryz.func31 (by kernel_rfl) (fun x y h => (show V.evBody laws_eqSignedS.E laws_eqSignedS.con Tryz.f31 x = _ from laws_eqSignedS.eq x.1 x.2).trans (V.cfl (by kernel_rfl) h))
noncomputable abbrev laws_eqStringS.con : V.Con := ⟨(.cons (.sl (.cons .str .nil)) (.cons (.sl (.cons .str .nil)) .nil)), (.cons .bool .nil), fun (x : List ByteArray × List ByteArray) => laws_eqStringS x.1 x.2, [], [(false, 1), (false, 1)], [(false, 1)], [false], []⟩
noncomputable abbrev laws_eqStringS.E : V.Env := V.mkE V.tys [] [(8, [0, 1, 5], [])] [(6, 8)] [] [] []
noncomputable abbrev laws_eqStringS.kt (x0 : List ByteArray) (x1 : List ByteArray) : V.Kt Bool := V.ktOf laws_eqStringS.E laws_eqStringS.con Tryz.f168 ((x0, x1) : List ByteArray × List ByteArray)
noncomputable abbrev laws_eqStringS.s8 (x0 : List ByteArray) (x1 : List ByteArray) (v8_2 : Int) : V.St := ⟨[(0, .v false [.val (.sl (.cons .str .nil) x0)]), (1, .v false [.val (.sl (.cons .str .nil) x1)]), (5, .v false [.val (.int .i64 v8_2)])], []⟩
theorem laws_eqStringS.r8 (x0 : List ByteArray) (x1 : List ByteArray) (R : V.St → Option Bool) (v8_2 : Int) : V.loopF laws_eqStringS.E Tryz.f168.ntmps [1, 1, 0, 1, 0] [] (V.codeOf Tryz.f168) (laws_eqStringS.kt x0 x1) R (laws_eqStringS.s8 x0 x1 v8_2) = laws_eqStringS.g8 x0 x1 (fun v8_2 => R (laws_eqStringS.s8 x0 x1 v8_2)) v8_2 := by kernel_rfl
theorem laws_eqStringS.e8 (x0 : List ByteArray) (x1 : List ByteArray) : ∀ (n : Nat) (v8_2 : Int), V.loopN (V.loopF laws_eqStringS.E Tryz.f168.ntmps [1, 1, 0, 1, 0] [] (V.codeOf Tryz.f168) (laws_eqStringS.kt x0 x1)) n (laws_eqStringS.s8 x0 x1 v8_2) = laws_eqStringS.l8 x0 x1 n v8_2 := by
  intro n
  induction n with
  | zero => intros; rw [V.loopN_z]; rfl
  | succ n ih =>
    intro v8_2
    rw [V.loopN_s, laws_eqStringS.r8]
    simp only [ih]
    first | exact (laws_eqStringS.u8 ..).symm | rfl
theorem laws_eqStringS.v (x0 : List ByteArray) (x1 : List ByteArray) : V.evBody laws_eqStringS.E laws_eqStringS.con Tryz.f168 ((x0, x1) : List ByteArray × List ByteArray) = laws_eqStringS.b x0 x1 (fun v8_2 => V.loopN (V.loopF laws_eqStringS.E Tryz.f168.ntmps [1, 1, 0, 1, 0] [] (V.codeOf Tryz.f168) (laws_eqStringS.kt x0 x1)) V.KK (laws_eqStringS.s8 x0 x1 v8_2)) := by kernel_rfl
theorem laws_eqStringS.eq (x0 : List ByteArray) (x1 : List ByteArray) : V.evBody laws_eqStringS.E laws_eqStringS.con Tryz.f168 ((x0, x1) : List ByteArray × List ByteArray) = laws_eqStringS x0 x1 := by
  rw [laws_eqStringS.v]
  simp only [laws_eqStringS.e8]
  rfl
theorem laws_eqStringS.ok : V.Valid Tryz.prog 168 laws_eqStringS.con :=
  V.fo V.tab_nil Tryz.func168 (by kernel_rfl) (fun x y h => (show V.evBody laws_eqStringS.E laws_eqStringS.con Tryz.f168 x = _ from laws_eqStringS.eq x.1 x.2).trans (V.cfl (by kernel_rfl) h))
noncomputable abbrev laws_eqEntry.con : V.Con := ⟨(.cons .str (.cons (.int .i64) (.cons (.int .i64) (.cons (.sl (.cons .str .nil)) (.cons .str (.cons (.int .i64) (.cons (.int .i64) (.cons (.sl (.cons .str .nil)) .nil)))))))), (.cons .bool .nil), fun (x : ByteArray × Int × Int × List ByteArray × ByteArray × Int × Int × List ByteArray) => laws_eqEntry (x.1, x.2.1, x.2.2.1, x.2.2.2.1) x.2.2.2.2, [], [(true, 4), (true, 4)], [(false, 1)], [false], []⟩
noncomputable abbrev laws_eqEntry.E : V.Env := V.mkE V.tys [(168, laws_eqStringS.con)] [] [] [] [] []
theorem laws_eqEntry.eq (x0 : TEntry) (x1 : TEntry) : V.evBody laws_eqEntry.E laws_eqEntry.con Tryz.f72 ((x0.1, x0.2.1, x0.2.2.1, x0.2.2.2, x1.1, x1.2.1, x1.2.2.1, x1.2.2.2) : ByteArray × Int × Int × List ByteArray × ByteArray × Int × Int × List ByteArray) = laws_eqEntry x0 x1 := by kernel_rfl
theorem laws_eqEntry.ok : V.Valid Tryz.prog 72 laws_eqEntry.con :=
  V.fo (V.tab_cons laws_eqStringS.ok V.tab_nil) Tryz.func72 (by kernel_rfl) (fun x y h => (show V.evBody laws_eqEntry.E laws_eqEntry.con Tryz.f72 x = _ from laws_eqEntry.eq (x.1, x.2.1, x.2.2.1, x.2.2.2.1) x.2.2.2.2).trans (V.cfl (by kernel_rfl) h))
noncomputable abbrev laws_eqEntryS.con : V.Con := ⟨(.cons (.sl V.eEntry) (.cons (.sl V.eEntry) .nil)), (.cons .bool .nil), fun (x : List TEntry × List TEntry) => laws_eqEntryS x.1 x.2, [], [(false, 1), (false, 1)], [(false, 1)], [false], []⟩
noncomputable abbrev laws_eqEntryS.E : V.Env := V.mkE V.tys [(72, laws_eqEntry.con)] [(8, [0, 1, 5], [])] [(6, 8)] [] [] []
noncomputable abbrev laws_eqEntryS.kt (x0 : List TEntry) (x1 : List TEntry) : V.Kt Bool := V.ktOf laws_eqEntryS.E laws_eqEntryS.con Tryz.f22 ((x0, x1) : List TEntry × List TEntry)
noncomputable abbrev laws_eqEntryS.s8 (x0 : List TEntry) (x1 : List TEntry) (v8_2 : Int) : V.St := ⟨[(0, .v false [.val (.sl V.eEntry x0)]), (1, .v false [.val (.sl V.eEntry x1)]), (5, .v false [.val (.int .i64 v8_2)])], []⟩
theorem laws_eqEntryS.r8 (x0 : List TEntry) (x1 : List TEntry) (R : V.St → Option Bool) (v8_2 : Int) : V.loopF laws_eqEntryS.E Tryz.f22.ntmps [1, 1, 0, 1, 0] [] (V.codeOf Tryz.f22) (laws_eqEntryS.kt x0 x1) R (laws_eqEntryS.s8 x0 x1 v8_2) = laws_eqEntryS.g8 x0 x1 (fun v8_2 => R (laws_eqEntryS.s8 x0 x1 v8_2)) v8_2 := by kernel_rfl
theorem laws_eqEntryS.e8 (x0 : List TEntry) (x1 : List TEntry) : ∀ (n : Nat) (v8_2 : Int), V.loopN (V.loopF laws_eqEntryS.E Tryz.f22.ntmps [1, 1, 0, 1, 0] [] (V.codeOf Tryz.f22) (laws_eqEntryS.kt x0 x1)) n (laws_eqEntryS.s8 x0 x1 v8_2) = laws_eqEntryS.l8 x0 x1 n v8_2 := by
  intro n
  induction n with
  | zero => intros; rw [V.loopN_z]; rfl
  | succ n ih =>
    intro v8_2
    rw [V.loopN_s, laws_eqEntryS.r8]
    simp only [ih]
    first | exact (laws_eqEntryS.u8 ..).symm | rfl
theorem laws_eqEntryS.v (x0 : List TEntry) (x1 : List TEntry) : V.evBody laws_eqEntryS.E laws_eqEntryS.con Tryz.f22 ((x0, x1) : List TEntry × List TEntry) = laws_eqEntryS.b x0 x1 (fun v8_2 => V.loopN (V.loopF laws_eqEntryS.E Tryz.f22.ntmps [1, 1, 0, 1, 0] [] (V.codeOf Tryz.f22) (laws_eqEntryS.kt x0 x1)) V.KK (laws_eqEntryS.s8 x0 x1 v8_2)) := by kernel_rfl
theorem laws_eqEntryS.eq (x0 : List TEntry) (x1 : List TEntry) : V.evBody laws_eqEntryS.E laws_eqEntryS.con Tryz.f22 ((x0, x1) : List TEntry × List TEntry) = laws_eqEntryS x0 x1 := by
  rw [laws_eqEntryS.v]
  simp only [laws_eqEntryS.e8]
  rfl
theorem laws_eqEntryS.ok : V.Valid Tryz.prog 22 laws_eqEntryS.con :=
  V.fo (V.tab_cons laws_eqEntry.ok V.tab_nil) Tryz.func22 (by kernel_rfl) (fun x y h => (show V.evBody laws_eqEntryS.E laws_eqEntryS.con Tryz.f22 x = _ from laws_eqEntryS.eq x.1 x.2).trans (V.cfl (by kernel_rfl) h))
noncomputable abbrev laws_eqZone.con : V.Con := ⟨(.cons (.sl V.eSigned) (.cons (.sl V.eEntry) (.cons (.sl V.eSigned) (.cons (.sl V.eEntry) .nil)))), (.cons .bool .nil), fun (x : List TSigned × List TEntry × List TSigned × List TEntry) => laws_eqZone (x.1, x.2.1) x.2.2, [], [(true, 2), (true, 2)], [(false, 1)], [false], []⟩
noncomputable abbrev laws_eqZone.E : V.Env := V.mkE V.tys [(22, laws_eqEntryS.con), (31, laws_eqSignedS.con)] [] [] [] [] []
theorem laws_eqZone.eq (x0 : TZone) (x1 : TZone) : V.evBody laws_eqZone.E laws_eqZone.con Tryz.f47 ((x0.1, x0.2, x1.1, x1.2) : List TSigned × List TEntry × List TSigned × List TEntry) = laws_eqZone x0 x1 := by kernel_rfl
theorem laws_eqZone.ok : V.Valid Tryz.prog 47 laws_eqZone.con :=
  V.fo (V.tab_cons laws_eqEntryS.ok (V.tab_cons laws_eqSignedS.ok V.tab_nil)) Tryz.func47 (by kernel_rfl) (fun x y h => (show V.evBody laws_eqZone.E laws_eqZone.con Tryz.f47 x = _ from laws_eqZone.eq (x.1, x.2.1) x.2.2).trans (V.cfl (by kernel_rfl) h))
noncomputable abbrev laws_markIntS.con : V.Con := ⟨(.cons (.sl (.cons (.int .i64) .nil)) (.cons (.int .i64) .nil)), (.cons (.sl (.cons (.int .i64) .nil)) (.cons (.int .i64) .nil)), fun (x : List Int × Int) => laws_markIntS x.1 x.2, [(0, false)], [(false, 1), (false, 1)], [(false, 1)], [false], []⟩
noncomputable abbrev laws_markIntS.E : V.Env := V.mkE V.tys [] [(4, [0, 1, 5], [])] [] [] [] []
noncomputable abbrev laws_markIntS.kt (x0 : List Int) (x1 : Int) : V.Kt TKeys := V.ktOf laws_markIntS.E laws_markIntS.con Tryz.f80 ((x0, x1) : List Int × Int)
noncomputable abbrev laws_markIntS.s4 (v4_0 : Int) (v4_1 : Int) (v4_2 : List Int) : V.St := ⟨[(0, .v false [.ref 0]), (1, .v false [.val (.int .i64 v4_0)]), (5, .v false [.val (.int .i64 v4_1)])], [(0, .row (.cons (.int .i64) .nil) true v4_2)]⟩
theorem laws_markIntS.r4 (x0 : List Int) (x1 : Int) (R : V.St → Option TKeys) (v4_0 : Int) (v4_1 : Int) (v4_2 : List Int) : V.loopF laws_markIntS.E Tryz.f80.ntmps [1, 0, 1, 0] [] (V.codeOf Tryz.f80) (laws_markIntS.kt x0 x1) R (laws_markIntS.s4 v4_0 v4_1 v4_2) = laws_markIntS.g4 (fun v4_0 v4_1 v4_2 => R (laws_markIntS.s4 v4_0 v4_1 v4_2)) v4_0 v4_1 v4_2 := by kernel_rfl
theorem laws_markIntS.e4 (x0 : List Int) (x1 : Int) : ∀ (n : Nat) (v4_0 : Int) (v4_1 : Int) (v4_2 : List Int), V.loopN (V.loopF laws_markIntS.E Tryz.f80.ntmps [1, 0, 1, 0] [] (V.codeOf Tryz.f80) (laws_markIntS.kt x0 x1)) n (laws_markIntS.s4 v4_0 v4_1 v4_2) = laws_markIntS.l4 n v4_0 v4_1 v4_2 := by
  intro n
  induction n with
  | zero => intros; rw [V.loopN_z]; rfl
  | succ n ih =>
    intro v4_0 v4_1 v4_2
    rw [V.loopN_s, laws_markIntS.r4]
    simp only [ih]
    first | exact (laws_markIntS.u4 ..).symm | rfl
theorem laws_markIntS.v (x0 : List Int) (x1 : Int) : V.evBody laws_markIntS.E laws_markIntS.con Tryz.f80 ((x0, x1) : List Int × Int) = laws_markIntS.b x0 x1 (fun v4_0 v4_1 v4_2 => V.loopN (V.loopF laws_markIntS.E Tryz.f80.ntmps [1, 0, 1, 0] [] (V.codeOf Tryz.f80) (laws_markIntS.kt x0 x1)) V.KK (laws_markIntS.s4 v4_0 v4_1 v4_2)) := by kernel_rfl
theorem laws_markIntS.eq (x0 : List Int) (x1 : Int) : V.evBody laws_markIntS.E laws_markIntS.con Tryz.f80 ((x0, x1) : List Int × Int) = laws_markIntS x0 x1 := by
  rw [laws_markIntS.v]
  simp only [laws_markIntS.e4]
  rfl
theorem laws_markIntS.ok : V.Valid Tryz.prog 80 laws_markIntS.con :=
  V.fo V.tab_nil Tryz.func80 (by kernel_rfl) (fun x y h => (show V.evBody laws_markIntS.E laws_markIntS.con Tryz.f80 x = _ from laws_markIntS.eq x.1 x.2).trans (V.cfl (by kernel_rfl) h))
noncomputable abbrev laws_markKeys.con : V.Con := ⟨(.cons (.sl (.cons (.int .i64) .nil)) (.cons (.int .i64) (.cons (.int .i64) .nil))), (.cons (.sl (.cons (.int .i64) .nil)) (.cons (.int .i64) .nil)), fun (x : List Int × Int × Int) => laws_markKeys (x.1, x.2.1) x.2.2, [(0, false)], [(true, 2), (false, 1)], [(false, 1)], [false], []⟩
noncomputable abbrev laws_markKeys.E : V.Env := V.mkE V.tys [(80, laws_markIntS.con)] [] [] [] [] []
theorem laws_markKeys.eq (x0 : TKeys) (x1 : Int) : V.evBody laws_markKeys.E laws_markKeys.con Tryz.f55 ((x0.1, x0.2, x1) : List Int × Int × Int) = laws_markKeys x0 x1 := by kernel_rfl
theorem laws_markKeys.ok : V.Valid Tryz.prog 55 laws_markKeys.con :=
  V.fo (V.tab_cons laws_markIntS.ok V.tab_nil) Tryz.func55 (by kernel_rfl) (fun x y h => (show V.evBody laws_markKeys.E laws_markKeys.con Tryz.f55 x = _ from laws_markKeys.eq (x.1, x.2.1) x.2.2).trans (V.cfl (by kernel_rfl) h))
noncomputable abbrev laws_markText.con : V.Con := ⟨(.cons (.int .i64) .nil), (.cons .str .nil), fun (x : Int) => laws_markText x, [], [(false, 1)], [(false, 1)], [false], []⟩
noncomputable abbrev laws_markText.E : V.Env := V.mkE V.tys [] [(8, [0, 3], [])] [] [] [] []
noncomputable abbrev laws_markText.kt (x0 : Int) : V.Kt ByteArray := V.ktOf laws_markText.E laws_markText.con Tryz.f95 ((x0) : Int)
noncomputable abbrev laws_markText.s8 (v8_0 : Int) (v8_1 : ByteArray) : V.St := ⟨[(0, .v false [.val (.int .i64 v8_0)]), (3, .v false [.val (.str v8_1)])], []⟩
theorem laws_markText.r8 (x0 : Int) (R : V.St → Option ByteArray) (v8_0 : Int) (v8_1 : ByteArray) : V.loopF laws_markText.E Tryz.f95.ntmps [1, 1, 1, 0, 0] [] (V.codeOf Tryz.f95) (laws_markText.kt x0) R (laws_markText.s8 v8_0 v8_1) = laws_markText.g8 (fun v8_0 v8_1 => R (laws_markText.s8 v8_0 v8_1)) v8_0 v8_1 := by kernel_rfl
theorem laws_markText.e8 (x0 : Int) : ∀ (n : Nat) (v8_0 : Int) (v8_1 : ByteArray), V.loopN (V.loopF laws_markText.E Tryz.f95.ntmps [1, 1, 1, 0, 0] [] (V.codeOf Tryz.f95) (laws_markText.kt x0)) n (laws_markText.s8 v8_0 v8_1) = laws_markText.l8 n v8_0 v8_1 := by
  intro n
  induction n with
  | zero => intros; rw [V.loopN_z]; rfl
  | succ n ih =>
    intro v8_0 v8_1
    rw [V.loopN_s, laws_markText.r8]
    simp only [ih]
    first | exact (laws_markText.u8 ..).symm | rfl
theorem laws_markText.v (x0 : Int) : V.evBody laws_markText.E laws_markText.con Tryz.f95 ((x0) : Int) = laws_markText.b x0 (fun v8_0 v8_1 => V.loopN (V.loopF laws_markText.E Tryz.f95.ntmps [1, 1, 1, 0, 0] [] (V.codeOf Tryz.f95) (laws_markText.kt x0)) V.KK (laws_markText.s8 v8_0 v8_1)) := by kernel_rfl
theorem laws_markText.eq (x0 : Int) : V.evBody laws_markText.E laws_markText.con Tryz.f95 ((x0) : Int) = laws_markText x0 := by
  rw [laws_markText.v]
  simp only [laws_markText.e8]
  rfl
theorem laws_markText.ok : V.Valid Tryz.prog 95 laws_markText.con :=
  V.fo V.tab_nil Tryz.func95 (by kernel_rfl) (fun x y h => (show V.evBody laws_markText.E laws_markText.con Tryz.f95 x = _ from laws_markText.eq x).trans (V.cfl (by kernel_rfl) h))
noncomputable abbrev laws_markStringS.con : V.Con := ⟨(.cons (.sl (.cons .str .nil)) (.cons (.int .i64) .nil)), (.cons (.sl (.cons .str .nil)) (.cons (.int .i64) .nil)), fun (x : List ByteArray × Int) => laws_markStringS x.1 x.2, [(0, false)], [(false, 1), (false, 1)], [(false, 1)], [false], []⟩
noncomputable abbrev laws_markStringS.E : V.Env := V.mkE V.tys [(95, laws_markText.con)] [(4, [0, 1, 5], [])] [] [] [] []
noncomputable abbrev laws_markStringS.kt (x0 : List ByteArray) (x1 : Int) : V.Kt (List ByteArray × Int) := V.ktOf laws_markStringS.E laws_markStringS.con Tryz.f96 ((x0, x1) : List ByteArray × Int)
noncomputable abbrev laws_markStringS.s4 (v4_0 : Int) (v4_1 : Int) (v4_2 : List ByteArray) : V.St := ⟨[(0, .v false [.ref 0]), (1, .v false [.val (.int .i64 v4_0)]), (5, .v false [.val (.int .i64 v4_1)])], [(0, .row (.cons .str .nil) true v4_2)]⟩
theorem laws_markStringS.r4 (x0 : List ByteArray) (x1 : Int) (R : V.St → Option (List ByteArray × Int)) (v4_0 : Int) (v4_1 : Int) (v4_2 : List ByteArray) : V.loopF laws_markStringS.E Tryz.f96.ntmps [1, 0, 1, 0] [] (V.codeOf Tryz.f96) (laws_markStringS.kt x0 x1) R (laws_markStringS.s4 v4_0 v4_1 v4_2) = laws_markStringS.g4 (fun v4_0 v4_1 v4_2 => R (laws_markStringS.s4 v4_0 v4_1 v4_2)) v4_0 v4_1 v4_2 := by kernel_rfl
theorem laws_markStringS.e4 (x0 : List ByteArray) (x1 : Int) : ∀ (n : Nat) (v4_0 : Int) (v4_1 : Int) (v4_2 : List ByteArray), V.loopN (V.loopF laws_markStringS.E Tryz.f96.ntmps [1, 0, 1, 0] [] (V.codeOf Tryz.f96) (laws_markStringS.kt x0 x1)) n (laws_markStringS.s4 v4_0 v4_1 v4_2) = laws_markStringS.l4 n v4_0 v4_1 v4_2 := by
  intro n
  induction n with
  | zero => intros; rw [V.loopN_z]; rfl
  | succ n ih =>
    intro v4_0 v4_1 v4_2
    rw [V.loopN_s, laws_markStringS.r4]
    simp only [ih]
    first | exact (laws_markStringS.u4 ..).symm | rfl
theorem laws_markStringS.v (x0 : List ByteArray) (x1 : Int) : V.evBody laws_markStringS.E laws_markStringS.con Tryz.f96 ((x0, x1) : List ByteArray × Int) = laws_markStringS.b x0 x1 (fun v4_0 v4_1 v4_2 => V.loopN (V.loopF laws_markStringS.E Tryz.f96.ntmps [1, 0, 1, 0] [] (V.codeOf Tryz.f96) (laws_markStringS.kt x0 x1)) V.KK (laws_markStringS.s4 v4_0 v4_1 v4_2)) := by kernel_rfl
theorem laws_markStringS.eq (x0 : List ByteArray) (x1 : Int) : V.evBody laws_markStringS.E laws_markStringS.con Tryz.f96 ((x0, x1) : List ByteArray × Int) = laws_markStringS x0 x1 := by
  rw [laws_markStringS.v]
  simp only [laws_markStringS.e4]
  rfl
theorem laws_markStringS.ok : V.Valid Tryz.prog 96 laws_markStringS.con :=
  V.fo (V.tab_cons laws_markText.ok V.tab_nil) Tryz.func96 (by kernel_rfl) (fun x y h => (show V.evBody laws_markStringS.E laws_markStringS.con Tryz.f96 x = _ from laws_markStringS.eq x.1 x.2).trans (V.cfl (by kernel_rfl) h))
noncomputable abbrev laws_markEntryS.con : V.Con := ⟨(.cons (.sl V.eEntry) (.cons (.int .i64) .nil)), (.cons (.sl V.eEntry) (.cons (.int .i64) .nil)), fun (x : List TEntry × Int) => laws_markEntryS x.1 x.2, [(0, false)], [(false, 1), (false, 1)], [(false, 1)], [false], []⟩
noncomputable abbrev laws_markEntryS.E : V.Env := V.mkE V.tys [(95, laws_markText.con), (96, laws_markStringS.con)] [(4, [0, 1, 5], [])] [] [] [] []
noncomputable abbrev laws_markEntryS.kt (x0 : List TEntry) (x1 : Int) : V.Kt (List TEntry × Int) := V.ktOf laws_markEntryS.E laws_markEntryS.con Tryz.f24 ((x0, x1) : List TEntry × Int)
noncomputable abbrev laws_markEntryS.s4 (v4_0 : Int) (v4_1 : Int) (v4_2 : List TEntry) : V.St := ⟨[(0, .v false [.ref 0]), (1, .v false [.val (.int .i64 v4_0)]), (5, .v false [.val (.int .i64 v4_1)])], [(0, .row V.eEntry true v4_2)]⟩
theorem laws_markEntryS.r4 (x0 : List TEntry) (x1 : Int) (R : V.St → Option (List TEntry × Int)) (v4_0 : Int) (v4_1 : Int) (v4_2 : List TEntry) : V.loopF laws_markEntryS.E Tryz.f24.ntmps [1, 0, 1, 0] [] (V.codeOf Tryz.f24) (laws_markEntryS.kt x0 x1) R (laws_markEntryS.s4 v4_0 v4_1 v4_2) = laws_markEntryS.g4 (fun v4_0 v4_1 v4_2 => R (laws_markEntryS.s4 v4_0 v4_1 v4_2)) v4_0 v4_1 v4_2 := by kernel_rfl
theorem laws_markEntryS.e4 (x0 : List TEntry) (x1 : Int) : ∀ (n : Nat) (v4_0 : Int) (v4_1 : Int) (v4_2 : List TEntry), V.loopN (V.loopF laws_markEntryS.E Tryz.f24.ntmps [1, 0, 1, 0] [] (V.codeOf Tryz.f24) (laws_markEntryS.kt x0 x1)) n (laws_markEntryS.s4 v4_0 v4_1 v4_2) = laws_markEntryS.l4 n v4_0 v4_1 v4_2 := by
  intro n
  induction n with
  | zero => intros; rw [V.loopN_z]; rfl
  | succ n ih =>
    intro v4_0 v4_1 v4_2
    rw [V.loopN_s, laws_markEntryS.r4]
    simp only [ih]
    first | exact (laws_markEntryS.u4 ..).symm | rfl
theorem laws_markEntryS.v (x0 : List TEntry) (x1 : Int) : V.evBody laws_markEntryS.E laws_markEntryS.con Tryz.f24 ((x0, x1) : List TEntry × Int) = laws_markEntryS.b x0 x1 (fun v4_0 v4_1 v4_2 => V.loopN (V.loopF laws_markEntryS.E Tryz.f24.ntmps [1, 0, 1, 0] [] (V.codeOf Tryz.f24) (laws_markEntryS.kt x0 x1)) V.KK (laws_markEntryS.s4 v4_0 v4_1 v4_2)) := by kernel_rfl
theorem laws_markEntryS.eq (x0 : List TEntry) (x1 : Int) : V.evBody laws_markEntryS.E laws_markEntryS.con Tryz.f24 ((x0, x1) : List TEntry × Int) = laws_markEntryS x0 x1 := by
  rw [laws_markEntryS.v]
  simp only [laws_markEntryS.e4]
  rfl
theorem laws_markEntryS.ok : V.Valid Tryz.prog 24 laws_markEntryS.con :=
  V.fo (V.tab_cons laws_markText.ok (V.tab_cons laws_markStringS.ok V.tab_nil)) Tryz.func24 (by kernel_rfl) (fun x y h => (show V.evBody laws_markEntryS.E laws_markEntryS.con Tryz.f24 x = _ from laws_markEntryS.eq x.1 x.2).trans (V.cfl (by kernel_rfl) h))
noncomputable abbrev laws_markSigS.con : V.Con := ⟨(.cons (.sl (.cons (.int .i64) (.cons (.int .i64) .nil))) (.cons (.int .i64) .nil)), (.cons (.sl (.cons (.int .i64) (.cons (.int .i64) .nil))) (.cons (.int .i64) .nil)), fun (x : List TSig × Int) => laws_markSigS x.1 x.2, [(0, false)], [(false, 1), (false, 1)], [(false, 1)], [false], []⟩
noncomputable abbrev laws_markSigS.E : V.Env := V.mkE V.tys [] [(4, [0, 1, 5], [])] [] [] [] []
noncomputable abbrev laws_markSigS.kt (x0 : List TSig) (x1 : Int) : V.Kt (List TSig × Int) := V.ktOf laws_markSigS.E laws_markSigS.con Tryz.f109 ((x0, x1) : List TSig × Int)
noncomputable abbrev laws_markSigS.s4 (v4_0 : Int) (v4_1 : Int) (v4_2 : List TSig) : V.St := ⟨[(0, .v false [.ref 0]), (1, .v false [.val (.int .i64 v4_0)]), (5, .v false [.val (.int .i64 v4_1)])], [(0, .row (.cons (.int .i64) (.cons (.int .i64) .nil)) true v4_2)]⟩
theorem laws_markSigS.r4 (x0 : List TSig) (x1 : Int) (R : V.St → Option (List TSig × Int)) (v4_0 : Int) (v4_1 : Int) (v4_2 : List TSig) : V.loopF laws_markSigS.E Tryz.f109.ntmps [1, 0, 1, 0] [] (V.codeOf Tryz.f109) (laws_markSigS.kt x0 x1) R (laws_markSigS.s4 v4_0 v4_1 v4_2) = laws_markSigS.g4 (fun v4_0 v4_1 v4_2 => R (laws_markSigS.s4 v4_0 v4_1 v4_2)) v4_0 v4_1 v4_2 := by kernel_rfl
theorem laws_markSigS.e4 (x0 : List TSig) (x1 : Int) : ∀ (n : Nat) (v4_0 : Int) (v4_1 : Int) (v4_2 : List TSig), V.loopN (V.loopF laws_markSigS.E Tryz.f109.ntmps [1, 0, 1, 0] [] (V.codeOf Tryz.f109) (laws_markSigS.kt x0 x1)) n (laws_markSigS.s4 v4_0 v4_1 v4_2) = laws_markSigS.l4 n v4_0 v4_1 v4_2 := by
  intro n
  induction n with
  | zero => intros; rw [V.loopN_z]; rfl
  | succ n ih =>
    intro v4_0 v4_1 v4_2
    rw [V.loopN_s, laws_markSigS.r4]
    simp only [ih]
    first | exact (laws_markSigS.u4 ..).symm | rfl
theorem laws_markSigS.v (x0 : List TSig) (x1 : Int) : V.evBody laws_markSigS.E laws_markSigS.con Tryz.f109 ((x0, x1) : List TSig × Int) = laws_markSigS.b x0 x1 (fun v4_0 v4_1 v4_2 => V.loopN (V.loopF laws_markSigS.E Tryz.f109.ntmps [1, 0, 1, 0] [] (V.codeOf Tryz.f109) (laws_markSigS.kt x0 x1)) V.KK (laws_markSigS.s4 v4_0 v4_1 v4_2)) := by kernel_rfl
theorem laws_markSigS.eq (x0 : List TSig) (x1 : Int) : V.evBody laws_markSigS.E laws_markSigS.con Tryz.f109 ((x0, x1) : List TSig × Int) = laws_markSigS x0 x1 := by
  rw [laws_markSigS.v]
  simp only [laws_markSigS.e4]
  rfl
theorem laws_markSigS.ok : V.Valid Tryz.prog 109 laws_markSigS.con :=
  V.fo V.tab_nil Tryz.func109 (by kernel_rfl) (fun x y h => (show V.evBody laws_markSigS.E laws_markSigS.con Tryz.f109 x = _ from laws_markSigS.eq x.1 x.2).trans (V.cfl (by kernel_rfl) h))
noncomputable abbrev laws_markSignedS.con : V.Con := ⟨(.cons (.sl V.eSigned) (.cons (.int .i64) .nil)), (.cons (.sl V.eSigned) (.cons (.int .i64) .nil)), fun (x : List TSigned × Int) => laws_markSignedS x.1 x.2, [(0, false)], [(false, 1), (false, 1)], [(false, 1)], [false], []⟩
noncomputable abbrev laws_markSignedS.E : V.Env := V.mkE V.tys [(80, laws_markIntS.con), (109, laws_markSigS.con)] [(4, [0, 1, 5], [])] [] [] [] []
noncomputable abbrev laws_markSignedS.kt (x0 : List TSigned) (x1 : Int) : V.Kt (List TSigned × Int) := V.ktOf laws_markSignedS.E laws_markSignedS.con Tryz.f32 ((x0, x1) : List TSigned × Int)
noncomputable abbrev laws_markSignedS.s4 (v4_0 : Int) (v4_1 : Int) (v4_2 : List TSigned) : V.St := ⟨[(0, .v false [.ref 0]), (1, .v false [.val (.int .i64 v4_0)]), (5, .v false [.val (.int .i64 v4_1)])], [(0, .row V.eSigned true v4_2)]⟩
theorem laws_markSignedS.r4 (x0 : List TSigned) (x1 : Int) (R : V.St → Option (List TSigned × Int)) (v4_0 : Int) (v4_1 : Int) (v4_2 : List TSigned) : V.loopF laws_markSignedS.E Tryz.f32.ntmps [1, 0, 1, 0] [] (V.codeOf Tryz.f32) (laws_markSignedS.kt x0 x1) R (laws_markSignedS.s4 v4_0 v4_1 v4_2) = laws_markSignedS.g4 (fun v4_0 v4_1 v4_2 => R (laws_markSignedS.s4 v4_0 v4_1 v4_2)) v4_0 v4_1 v4_2 := by kernel_rfl
theorem laws_markSignedS.e4 (x0 : List TSigned) (x1 : Int) : ∀ (n : Nat) (v4_0 : Int) (v4_1 : Int) (v4_2 : List TSigned), V.loopN (V.loopF laws_markSignedS.E Tryz.f32.ntmps [1, 0, 1, 0] [] (V.codeOf Tryz.f32) (laws_markSignedS.kt x0 x1)) n (laws_markSignedS.s4 v4_0 v4_1 v4_2) = laws_markSignedS.l4 n v4_0 v4_1 v4_2 := by
  intro n
  induction n with
  | zero => intros; rw [V.loopN_z]; rfl
  | succ n ih =>
    intro v4_0 v4_1 v4_2
    rw [V.loopN_s, laws_markSignedS.r4]
    simp only [ih]
    first | exact (laws_markSignedS.u4 ..).symm | rfl
theorem laws_markSignedS.v (x0 : List TSigned) (x1 : Int) : V.evBody laws_markSignedS.E laws_markSignedS.con Tryz.f32 ((x0, x1) : List TSigned × Int) = laws_markSignedS.b x0 x1 (fun v4_0 v4_1 v4_2 => V.loopN (V.loopF laws_markSignedS.E Tryz.f32.ntmps [1, 0, 1, 0] [] (V.codeOf Tryz.f32) (laws_markSignedS.kt x0 x1)) V.KK (laws_markSignedS.s4 v4_0 v4_1 v4_2)) := by kernel_rfl
theorem laws_markSignedS.eq (x0 : List TSigned) (x1 : Int) : V.evBody laws_markSignedS.E laws_markSignedS.con Tryz.f32 ((x0, x1) : List TSigned × Int) = laws_markSignedS x0 x1 := by
  rw [laws_markSignedS.v]
  simp only [laws_markSignedS.e4]
  rfl
theorem laws_markSignedS.ok : V.Valid Tryz.prog 32 laws_markSignedS.con :=
  V.fo (V.tab_cons laws_markIntS.ok (V.tab_cons laws_markSigS.ok V.tab_nil)) Tryz.func32 (by kernel_rfl) (fun x y h => (show V.evBody laws_markSignedS.E laws_markSignedS.con Tryz.f32 x = _ from laws_markSignedS.eq x.1 x.2).trans (V.cfl (by kernel_rfl) h))
noncomputable abbrev laws_markZone.con : V.Con := ⟨(.cons (.sl V.eSigned) (.cons (.sl V.eEntry) (.cons (.int .i64) .nil))), (.cons (.sl V.eSigned) (.cons (.sl V.eEntry) (.cons (.int .i64) .nil))), fun (x : List TSigned × List TEntry × Int) => laws_markZone (x.1, x.2.1) x.2.2, [(0, false), (1, false)], [(true, 2), (false, 1)], [(false, 1)], [false], []⟩
noncomputable abbrev laws_markZone.E : V.Env := V.mkE V.tys [(24, laws_markEntryS.con), (32, laws_markSignedS.con)] [] [] [] [] []
theorem laws_markZone.eq (x0 : TZone) (x1 : Int) : V.evBody laws_markZone.E laws_markZone.con Tryz.f56 ((x0.1, x0.2, x1) : List TSigned × List TEntry × Int) = laws_markZone x0 x1 := by kernel_rfl
theorem laws_markZone.ok : V.Valid Tryz.prog 56 laws_markZone.con :=
  V.fo (V.tab_cons laws_markEntryS.ok (V.tab_cons laws_markSignedS.ok V.tab_nil)) Tryz.func56 (by kernel_rfl) (fun x y h => (show V.evBody laws_markZone.E laws_markZone.con Tryz.f56 x = _ from laws_markZone.eq (x.1, x.2.1) x.2.2).trans (V.cfl (by kernel_rfl) h))
noncomputable abbrev laws_heldIntS.con : V.Con := ⟨(.cons (.sl (.cons (.int .i64) .nil)) (.cons (.int .i64) .nil)), (.cons (.int .i64) .nil), fun (x : List Int × Int) => laws_heldIntS x.1 x.2, [], [(false, 1), (false, 1)], [(false, 1)], [false], []⟩
noncomputable abbrev laws_heldIntS.E : V.Env := V.mkE V.tys [] [(4, [0, 1, 5], [])] [] [] [] []
noncomputable abbrev laws_heldIntS.kt (x0 : List Int) (x1 : Int) : V.Kt Int := V.ktOf laws_heldIntS.E laws_heldIntS.con Tryz.f201 ((x0, x1) : List Int × Int)
noncomputable abbrev laws_heldIntS.s4 (x0 : List Int) (v4_1 : Int) (v4_2 : Int) : V.St := ⟨[(0, .v false [.val (.sl (.cons (.int .i64) .nil) x0)]), (1, .v false [.val (.int .i64 v4_1)]), (5, .v false [.val (.int .i64 v4_2)])], []⟩
theorem laws_heldIntS.r4 (x0 : List Int) (x1 : Int) (R : V.St → Option Int) (v4_1 : Int) (v4_2 : Int) : V.loopF laws_heldIntS.E Tryz.f201.ntmps [1, 0, 1, 0] [] (V.codeOf Tryz.f201) (laws_heldIntS.kt x0 x1) R (laws_heldIntS.s4 x0 v4_1 v4_2) = laws_heldIntS.g4 x0 (fun v4_1 v4_2 => R (laws_heldIntS.s4 x0 v4_1 v4_2)) v4_1 v4_2 := by kernel_rfl
theorem laws_heldIntS.e4 (x0 : List Int) (x1 : Int) : ∀ (n : Nat) (v4_1 : Int) (v4_2 : Int), V.loopN (V.loopF laws_heldIntS.E Tryz.f201.ntmps [1, 0, 1, 0] [] (V.codeOf Tryz.f201) (laws_heldIntS.kt x0 x1)) n (laws_heldIntS.s4 x0 v4_1 v4_2) = laws_heldIntS.l4 x0 n v4_1 v4_2 := by
  intro n
  induction n with
  | zero => intros; rw [V.loopN_z]; rfl
  | succ n ih =>
    intro v4_1 v4_2
    rw [V.loopN_s, laws_heldIntS.r4]
    simp only [ih]
    first | exact (laws_heldIntS.u4 ..).symm | rfl
theorem laws_heldIntS.v (x0 : List Int) (x1 : Int) : V.evBody laws_heldIntS.E laws_heldIntS.con Tryz.f201 ((x0, x1) : List Int × Int) = laws_heldIntS.b x0 x1 (fun v4_1 v4_2 => V.loopN (V.loopF laws_heldIntS.E Tryz.f201.ntmps [1, 0, 1, 0] [] (V.codeOf Tryz.f201) (laws_heldIntS.kt x0 x1)) V.KK (laws_heldIntS.s4 x0 v4_1 v4_2)) := by kernel_rfl
theorem laws_heldIntS.eq (x0 : List Int) (x1 : Int) : V.evBody laws_heldIntS.E laws_heldIntS.con Tryz.f201 ((x0, x1) : List Int × Int) = laws_heldIntS x0 x1 := by
  rw [laws_heldIntS.v]
  simp only [laws_heldIntS.e4]
  rfl
theorem laws_heldIntS.ok : V.Valid Tryz.prog 201 laws_heldIntS.con :=
  V.fo V.tab_nil Tryz.func201 (by kernel_rfl) (fun x y h => (show V.evBody laws_heldIntS.E laws_heldIntS.con Tryz.f201 x = _ from laws_heldIntS.eq x.1 x.2).trans (V.cfl (by kernel_rfl) h))
noncomputable abbrev laws_heldSigS.con : V.Con := ⟨(.cons (.sl (.cons (.int .i64) (.cons (.int .i64) .nil))) (.cons (.int .i64) .nil)), (.cons (.int .i64) .nil), fun (x : List TSig × Int) => laws_heldSigS x.1 x.2, [], [(false, 1), (false, 1)], [(false, 1)], [false], []⟩
noncomputable abbrev laws_heldSigS.E : V.Env := V.mkE V.tys [] [(4, [0, 1, 5], [])] [] [] [] []
noncomputable abbrev laws_heldSigS.kt (x0 : List TSig) (x1 : Int) : V.Kt Int := V.ktOf laws_heldSigS.E laws_heldSigS.con Tryz.f213 ((x0, x1) : List TSig × Int)
noncomputable abbrev laws_heldSigS.s4 (x0 : List TSig) (v4_1 : Int) (v4_2 : Int) : V.St := ⟨[(0, .v false [.val (.sl (.cons (.int .i64) (.cons (.int .i64) .nil)) x0)]), (1, .v false [.val (.int .i64 v4_1)]), (5, .v false [.val (.int .i64 v4_2)])], []⟩
theorem laws_heldSigS.r4 (x0 : List TSig) (x1 : Int) (R : V.St → Option Int) (v4_1 : Int) (v4_2 : Int) : V.loopF laws_heldSigS.E Tryz.f213.ntmps [1, 0, 1, 0] [] (V.codeOf Tryz.f213) (laws_heldSigS.kt x0 x1) R (laws_heldSigS.s4 x0 v4_1 v4_2) = laws_heldSigS.g4 x0 (fun v4_1 v4_2 => R (laws_heldSigS.s4 x0 v4_1 v4_2)) v4_1 v4_2 := by kernel_rfl
theorem laws_heldSigS.e4 (x0 : List TSig) (x1 : Int) : ∀ (n : Nat) (v4_1 : Int) (v4_2 : Int), V.loopN (V.loopF laws_heldSigS.E Tryz.f213.ntmps [1, 0, 1, 0] [] (V.codeOf Tryz.f213) (laws_heldSigS.kt x0 x1)) n (laws_heldSigS.s4 x0 v4_1 v4_2) = laws_heldSigS.l4 x0 n v4_1 v4_2 := by
  intro n
  induction n with
  | zero => intros; rw [V.loopN_z]; rfl
  | succ n ih =>
    intro v4_1 v4_2
    rw [V.loopN_s, laws_heldSigS.r4]
    simp only [ih]
    first | exact (laws_heldSigS.u4 ..).symm | rfl
theorem laws_heldSigS.v (x0 : List TSig) (x1 : Int) : V.evBody laws_heldSigS.E laws_heldSigS.con Tryz.f213 ((x0, x1) : List TSig × Int) = laws_heldSigS.b x0 x1 (fun v4_1 v4_2 => V.loopN (V.loopF laws_heldSigS.E Tryz.f213.ntmps [1, 0, 1, 0] [] (V.codeOf Tryz.f213) (laws_heldSigS.kt x0 x1)) V.KK (laws_heldSigS.s4 x0 v4_1 v4_2)) := by kernel_rfl
theorem laws_heldSigS.eq (x0 : List TSig) (x1 : Int) : V.evBody laws_heldSigS.E laws_heldSigS.con Tryz.f213 ((x0, x1) : List TSig × Int) = laws_heldSigS x0 x1 := by
  rw [laws_heldSigS.v]
  simp only [laws_heldSigS.e4]
  rfl
theorem laws_heldSigS.ok : V.Valid Tryz.prog 213 laws_heldSigS.con :=
  V.fo V.tab_nil Tryz.func213 (by kernel_rfl) (fun x y h => (show V.evBody laws_heldSigS.E laws_heldSigS.con Tryz.f213 x = _ from laws_heldSigS.eq x.1 x.2).trans (V.cfl (by kernel_rfl) h))
noncomputable abbrev laws_heldSignedS.con : V.Con := ⟨(.cons (.sl V.eSigned) (.cons (.int .i64) .nil)), (.cons (.int .i64) .nil), fun (x : List TSigned × Int) => laws_heldSignedS x.1 x.2, [], [(false, 1), (false, 1)], [(false, 1)], [false], []⟩
noncomputable abbrev laws_heldSignedS.E : V.Env := V.mkE V.tys [(201, laws_heldIntS.con), (213, laws_heldSigS.con)] [(4, [0, 1, 5], [])] [] [] [] []
noncomputable abbrev laws_heldSignedS.kt (x0 : List TSigned) (x1 : Int) : V.Kt Int := V.ktOf laws_heldSignedS.E laws_heldSignedS.con Tryz.f144 ((x0, x1) : List TSigned × Int)
noncomputable abbrev laws_heldSignedS.s4 (x0 : List TSigned) (v4_1 : Int) (v4_2 : Int) : V.St := ⟨[(0, .v false [.val (.sl V.eSigned x0)]), (1, .v false [.val (.int .i64 v4_1)]), (5, .v false [.val (.int .i64 v4_2)])], []⟩
theorem laws_heldSignedS.r4 (x0 : List TSigned) (x1 : Int) (R : V.St → Option Int) (v4_1 : Int) (v4_2 : Int) : V.loopF laws_heldSignedS.E Tryz.f144.ntmps [1, 0, 1, 0] [] (V.codeOf Tryz.f144) (laws_heldSignedS.kt x0 x1) R (laws_heldSignedS.s4 x0 v4_1 v4_2) = laws_heldSignedS.g4 x0 (fun v4_1 v4_2 => R (laws_heldSignedS.s4 x0 v4_1 v4_2)) v4_1 v4_2 := by kernel_rfl
theorem laws_heldSignedS.e4 (x0 : List TSigned) (x1 : Int) : ∀ (n : Nat) (v4_1 : Int) (v4_2 : Int), V.loopN (V.loopF laws_heldSignedS.E Tryz.f144.ntmps [1, 0, 1, 0] [] (V.codeOf Tryz.f144) (laws_heldSignedS.kt x0 x1)) n (laws_heldSignedS.s4 x0 v4_1 v4_2) = laws_heldSignedS.l4 x0 n v4_1 v4_2 := by
  intro n
  induction n with
  | zero => intros; rw [V.loopN_z]; rfl
  | succ n ih =>
    intro v4_1 v4_2
    rw [V.loopN_s, laws_heldSignedS.r4]
    simp only [ih]
    first | exact (laws_heldSignedS.u4 ..).symm | rfl
theorem laws_heldSignedS.v (x0 : List TSigned) (x1 : Int) : V.evBody laws_heldSignedS.E laws_heldSignedS.con Tryz.f144 ((x0, x1) : List TSigned × Int) = laws_heldSignedS.b x0 x1 (fun v4_1 v4_2 => V.loopN (V.loopF laws_heldSignedS.E Tryz.f144.ntmps [1, 0, 1, 0] [] (V.codeOf Tryz.f144) (laws_heldSignedS.kt x0 x1)) V.KK (laws_heldSignedS.s4 x0 v4_1 v4_2)) := by kernel_rfl
theorem laws_heldSignedS.eq (x0 : List TSigned) (x1 : Int) : V.evBody laws_heldSignedS.E laws_heldSignedS.con Tryz.f144 ((x0, x1) : List TSigned × Int) = laws_heldSignedS x0 x1 := by
  rw [laws_heldSignedS.v]
  simp only [laws_heldSignedS.e4]
  rfl
theorem laws_heldSignedS.ok : V.Valid Tryz.prog 144 laws_heldSignedS.con :=
  V.fo (V.tab_cons laws_heldIntS.ok (V.tab_cons laws_heldSigS.ok V.tab_nil)) Tryz.func144 (by kernel_rfl) (fun x y h => (show V.evBody laws_heldSignedS.E laws_heldSignedS.con Tryz.f144 x = _ from laws_heldSignedS.eq x.1 x.2).trans (V.cfl (by kernel_rfl) h))
noncomputable abbrev laws_heldStringS.con : V.Con := ⟨(.cons (.sl (.cons .str .nil)) (.cons (.int .i64) .nil)), (.cons (.int .i64) .nil), fun (x : List ByteArray × Int) => laws_heldStringS x.1 x.2, [], [(false, 1), (false, 1)], [(false, 1)], [false], []⟩
noncomputable abbrev laws_heldStringS.E : V.Env := V.mkE V.tys [(95, laws_markText.con)] [(4, [0, 1, 5], [])] [(4, 6)] [] [] []
noncomputable abbrev laws_heldStringS.kt (x0 : List ByteArray) (x1 : Int) : V.Kt Int := V.ktOf laws_heldStringS.E laws_heldStringS.con Tryz.f171 ((x0, x1) : List ByteArray × Int)
noncomputable abbrev laws_heldStringS.s4 (x0 : List ByteArray) (v4_1 : Int) (v4_2 : Int) : V.St := ⟨[(0, .v false [.val (.sl (.cons .str .nil) x0)]), (1, .v false [.val (.int .i64 v4_1)]), (5, .v false [.val (.int .i64 v4_2)])], []⟩
theorem laws_heldStringS.r4 (x0 : List ByteArray) (x1 : Int) (R : V.St → Option Int) (v4_1 : Int) (v4_2 : Int) : V.loopF laws_heldStringS.E Tryz.f171.ntmps [1, 0, 1, 0] [] (V.codeOf Tryz.f171) (laws_heldStringS.kt x0 x1) R (laws_heldStringS.s4 x0 v4_1 v4_2) = laws_heldStringS.g4 x0 (fun v4_1 v4_2 => R (laws_heldStringS.s4 x0 v4_1 v4_2)) v4_1 v4_2 := by kernel_rfl
theorem laws_heldStringS.e4 (x0 : List ByteArray) (x1 : Int) : ∀ (n : Nat) (v4_1 : Int) (v4_2 : Int), V.loopN (V.loopF laws_heldStringS.E Tryz.f171.ntmps [1, 0, 1, 0] [] (V.codeOf Tryz.f171) (laws_heldStringS.kt x0 x1)) n (laws_heldStringS.s4 x0 v4_1 v4_2) = laws_heldStringS.l4 x0 n v4_1 v4_2 := by
  intro n
  induction n with
  | zero => intros; rw [V.loopN_z]; rfl
  | succ n ih =>
    intro v4_1 v4_2
    rw [V.loopN_s, laws_heldStringS.r4]
    simp only [ih]
    first | exact (laws_heldStringS.u4 ..).symm | rfl
theorem laws_heldStringS.v (x0 : List ByteArray) (x1 : Int) : V.evBody laws_heldStringS.E laws_heldStringS.con Tryz.f171 ((x0, x1) : List ByteArray × Int) = laws_heldStringS.b x0 x1 (fun v4_1 v4_2 => V.loopN (V.loopF laws_heldStringS.E Tryz.f171.ntmps [1, 0, 1, 0] [] (V.codeOf Tryz.f171) (laws_heldStringS.kt x0 x1)) V.KK (laws_heldStringS.s4 x0 v4_1 v4_2)) := by kernel_rfl
theorem laws_heldStringS.eq (x0 : List ByteArray) (x1 : Int) : V.evBody laws_heldStringS.E laws_heldStringS.con Tryz.f171 ((x0, x1) : List ByteArray × Int) = laws_heldStringS x0 x1 := by
  rw [laws_heldStringS.v]
  simp only [laws_heldStringS.e4]
  rfl
theorem laws_heldStringS.ok : V.Valid Tryz.prog 171 laws_heldStringS.con :=
  V.fo (V.tab_cons laws_markText.ok V.tab_nil) Tryz.func171 (by kernel_rfl) (fun x y h => (show V.evBody laws_heldStringS.E laws_heldStringS.con Tryz.f171 x = _ from laws_heldStringS.eq x.1 x.2).trans (V.cfl (by kernel_rfl) h))
noncomputable abbrev laws_heldEntryS.con : V.Con := ⟨(.cons (.sl V.eEntry) (.cons (.int .i64) .nil)), (.cons (.int .i64) .nil), fun (x : List TEntry × Int) => laws_heldEntryS x.1 x.2, [], [(false, 1), (false, 1)], [(false, 1)], [false], []⟩
noncomputable abbrev laws_heldEntryS.E : V.Env := V.mkE V.tys [(95, laws_markText.con), (171, laws_heldStringS.con)] [(4, [0, 1, 5], [])] [(4, 7)] [] [] []
noncomputable abbrev laws_heldEntryS.kt (x0 : List TEntry) (x1 : Int) : V.Kt Int := V.ktOf laws_heldEntryS.E laws_heldEntryS.con Tryz.f145 ((x0, x1) : List TEntry × Int)
noncomputable abbrev laws_heldEntryS.s4 (x0 : List TEntry) (v4_1 : Int) (v4_2 : Int) : V.St := ⟨[(0, .v false [.val (.sl V.eEntry x0)]), (1, .v false [.val (.int .i64 v4_1)]), (5, .v false [.val (.int .i64 v4_2)])], []⟩
theorem laws_heldEntryS.r4 (x0 : List TEntry) (x1 : Int) (R : V.St → Option Int) (v4_1 : Int) (v4_2 : Int) : V.loopF laws_heldEntryS.E Tryz.f145.ntmps [1, 0, 1, 0] [] (V.codeOf Tryz.f145) (laws_heldEntryS.kt x0 x1) R (laws_heldEntryS.s4 x0 v4_1 v4_2) = laws_heldEntryS.g4 x0 (fun v4_1 v4_2 => R (laws_heldEntryS.s4 x0 v4_1 v4_2)) v4_1 v4_2 := by kernel_rfl
theorem laws_heldEntryS.e4 (x0 : List TEntry) (x1 : Int) : ∀ (n : Nat) (v4_1 : Int) (v4_2 : Int), V.loopN (V.loopF laws_heldEntryS.E Tryz.f145.ntmps [1, 0, 1, 0] [] (V.codeOf Tryz.f145) (laws_heldEntryS.kt x0 x1)) n (laws_heldEntryS.s4 x0 v4_1 v4_2) = laws_heldEntryS.l4 x0 n v4_1 v4_2 := by
  intro n
  induction n with
  | zero => intros; rw [V.loopN_z]; rfl
  | succ n ih =>
    intro v4_1 v4_2
    rw [V.loopN_s, laws_heldEntryS.r4]
    simp only [ih]
    first | exact (laws_heldEntryS.u4 ..).symm | rfl
theorem laws_heldEntryS.v (x0 : List TEntry) (x1 : Int) : V.evBody laws_heldEntryS.E laws_heldEntryS.con Tryz.f145 ((x0, x1) : List TEntry × Int) = laws_heldEntryS.b x0 x1 (fun v4_1 v4_2 => V.loopN (V.loopF laws_heldEntryS.E Tryz.f145.ntmps [1, 0, 1, 0] [] (V.codeOf Tryz.f145) (laws_heldEntryS.kt x0 x1)) V.KK (laws_heldEntryS.s4 x0 v4_1 v4_2)) := by kernel_rfl
theorem laws_heldEntryS.eq (x0 : List TEntry) (x1 : Int) : V.evBody laws_heldEntryS.E laws_heldEntryS.con Tryz.f145 ((x0, x1) : List TEntry × Int) = laws_heldEntryS x0 x1 := by
  rw [laws_heldEntryS.v]
  simp only [laws_heldEntryS.e4]
  rfl
theorem laws_heldEntryS.ok : V.Valid Tryz.prog 145 laws_heldEntryS.con :=
  V.fo (V.tab_cons laws_markText.ok (V.tab_cons laws_heldStringS.ok V.tab_nil)) Tryz.func145 (by kernel_rfl) (fun x y h => (show V.evBody laws_heldEntryS.E laws_heldEntryS.con Tryz.f145 x = _ from laws_heldEntryS.eq x.1 x.2).trans (V.cfl (by kernel_rfl) h))
noncomputable abbrev laws_heldZone.con : V.Con := ⟨(.cons (.sl V.eSigned) (.cons (.sl V.eEntry) (.cons (.int .i64) .nil))), (.cons (.int .i64) .nil), fun (x : List TSigned × List TEntry × Int) => laws_heldZone (x.1, x.2.1) x.2.2, [], [(true, 2), (false, 1)], [(false, 1)], [false], []⟩
noncomputable abbrev laws_heldZone.E : V.Env := V.mkE V.tys [(144, laws_heldSignedS.con), (145, laws_heldEntryS.con)] [] [] [] [] []
theorem laws_heldZone.eq (x0 : TZone) (x1 : Int) : V.evBody laws_heldZone.E laws_heldZone.con Tryz.f57 ((x0.1, x0.2, x1) : List TSigned × List TEntry × Int) = laws_heldZone x0 x1 := by kernel_rfl
theorem laws_heldZone.ok : V.Valid Tryz.prog 57 laws_heldZone.con :=
  V.fo (V.tab_cons laws_heldSignedS.ok (V.tab_cons laws_heldEntryS.ok V.tab_nil)) Tryz.func57 (by kernel_rfl) (fun x y h => (show V.evBody laws_heldZone.E laws_heldZone.con Tryz.f57 x = _ from laws_heldZone.eq (x.1, x.2.1) x.2.2).trans (V.cfl (by kernel_rfl) h))
noncomputable abbrev laws_FnExactNewZone.con : V.Con := ⟨(.cons (.sl (.cons (.int .i64) .nil)) (.cons (.int .i64) (.cons (.int .i64) (.cons (.sl V.eEntry) (.cons (.int .i64) (.cons (.int .i64) .nil)))))), (.cons .bool .nil), fun (x : List Int × Int × Int × List TEntry × Int × Int) => laws_FnExactNewZone (x.1, x.2.1) x.2.2.1 x.2.2.2.1 x.2.2.2.2.1 x.2.2.2.2.2, [], [(true, 2), (false, 1), (false, 1), (false, 1), (false, 1)], [(false, 1)], [false], []⟩
noncomputable abbrev laws_FnExactNewZone.E : V.Env := V.mkE V.tys [(16, laws_szEntryS.con), (19, laws_toEntryS.con), (22, laws_eqEntryS.con), (24, laws_markEntryS.con), (47, laws_eqZone.con), (50, laws_szKeys.con), (51, spec_NewZone.con), (52, laws_toKeys.con), (53, impl_NewZone.con), (54, laws_eqKeys.con), (55, laws_markKeys.con), (56, laws_markZone.con), (57, laws_heldZone.con)] [(29, [1, 2, 3, 4, 5, 12, 13, 14, 15, 16, 17], []), (47, [1, 2, 3, 4, 5, 12, 13, 16], []), (69, [16, 19], [])] [(14, 3)] [] [] []
noncomputable abbrev laws_FnExactNewZone.kt (x0 : TKeys) (x1 : Int) (x2 : List TEntry) (x3 : Int) (x4 : Int) : V.Kt Bool := V.ktOf laws_FnExactNewZone.E laws_FnExactNewZone.con Tryz.f8 ((x0.1, x0.2, x1, x2, x3, x4) : List Int × Int × Int × List TEntry × Int × Int)
noncomputable abbrev laws_FnExactNewZone.s69 (y17 : TRZoneInt) : V.St := ⟨[(16, .v false [.ptr 768576 0]), (19, .v false [.val (.int .i64 y17.2.2)])], [(768576, .box [.ref 64000000000049188864, .ref 64000000000049188865]), (64000000000049188864, .row V.eSigned true y17.1), (64000000000049188865, .row V.eEntry true y17.2.1)]⟩
noncomputable abbrev laws_FnExactNewZone.s47 (x0 : TKeys) (x1 : Int) (x2 : List TEntry) (x3 : Int) (x4 : Int) (y5 : TRZoneBool) (y8 : TRZoneBool) : V.St := ⟨[(1, .v false [.val (.int .i64 x1)]), (2, .v false [.val (.sl V.eEntry x2)]), (3, .v false [.val (.int .i64 x3)]), (4, .v false [.val (.int .i64 x4)]), (5, .v false [.ptr 64000 0]), (12, .v false [.ptr 576704 0]), (13, .v false [.val (.bool y5.2.2)]), (16, .v false [.ptr 768576 0])], [(64000, .box [.val (.sl (.cons (.int .i64) .nil) x0.1), .val (.int .i64 x0.2)]), (576704, .box [.ref 64000000000036909056, .ref 64000000000036909057]), (64000000000036909056, .row V.eSigned true y5.1), (64000000000036909057, .row V.eEntry true y5.2.1), (768576, .box [.ref 64000000000049188864, .ref 64000000000049188865]), (64000000000049188864, .row V.eSigned true y8.1), (64000000000049188865, .row V.eEntry true y8.2.1)]⟩
noncomputable abbrev laws_FnExactNewZone.s29 (x0 : TKeys) (x1 : Int) (x2 : List TEntry) (x3 : Int) (x4 : Int) (y5 : TRZoneBool) (y6 : TKeys) (y7 : List TEntry) (y8 : TRZoneBool) : V.St := ⟨[(1, .v false [.val (.int .i64 x1)]), (2, .v false [.val (.sl V.eEntry x2)]), (3, .v false [.val (.int .i64 x3)]), (4, .v false [.val (.int .i64 x4)]), (5, .v false [.ptr 64000 0]), (12, .v false [.ptr 576704 0]), (13, .v false [.val (.bool y5.2.2)]), (14, .v false [.ptr 640128 0]), (15, .v false [.ref 64000185600960]), (16, .v false [.ptr 768576 0]), (17, .v false [.val (.bool y8.2.2)])], [(64000, .box [.val (.sl (.cons (.int .i64) .nil) x0.1), .val (.int .i64 x0.2)]), (576704, .box [.ref 64000000000036909056, .ref 64000000000036909057]), (64000000000036909056, .row V.eSigned true y5.1), (64000000000036909057, .row V.eEntry true y5.2.1), (640128, .box [.ref 64000000000040968192, .val (.int .i64 y6.2)]), (64000000000040968192, .row (.cons (.int .i64) .nil) true y6.1), (64000185600960, .row V.eEntry true y7), (768576, .box [.ref 64000000000049188864, .ref 64000000000049188865]), (64000000000049188864, .row V.eSigned true y8.1), (64000000000049188865, .row V.eEntry true y8.2.1)]⟩
theorem laws_FnExactNewZone.r69 (x0 : TKeys) (x1 : Int) (x2 : List TEntry) (x3 : Int) (x4 : Int) (y17 : TRZoneInt) : V.normK 69 ([16, 19], []) (V.joinF laws_FnExactNewZone.E Tryz.f8.ntmps [1, 1, 1, 1, 1, 1, 1, 1, 1, 1, 1, 1, 1, 1, 1, 1, 1, 1, 1, 1, 1, 1, 1, 1] [] (V.codeOf Tryz.f8) (laws_FnExactNewZone.kt x0 x1 x2 x3 x4)) (laws_FnExactNewZone.s69 y17) = laws_FnExactNewZone.g69 y17 := by kernel_rfl
theorem laws_FnExactNewZone.e69 (x0 : TKeys) (x1 : Int) (x2 : List TEntry) (x3 : Int) (x4 : Int) (y17 : TRZoneInt) : V.normK 69 ([16, 19], []) (V.joinF laws_FnExactNewZone.E Tryz.f8.ntmps [1, 1, 1, 1, 1, 1, 1, 1, 1, 1, 1, 1, 1, 1, 1, 1, 1, 1, 1, 1, 1, 1, 1, 1] [] (V.codeOf Tryz.f8) (laws_FnExactNewZone.kt x0 x1 x2 x3 x4)) (laws_FnExactNewZone.s69 y17) = laws_FnExactNewZone.l69 y17 := by
  rw [laws_FnExactNewZone.r69]
  rfl
theorem laws_FnExactNewZone.r47 (x0 : TKeys) (x1 : Int) (x2 : List TEntry) (x3 : Int) (x4 : Int) (y5 : TRZoneBool) (y8 : TRZoneBool) : V.normK 47 ([1, 2, 3, 4, 5, 12, 13, 16], []) (V.joinF laws_FnExactNewZone.E Tryz.f8.ntmps [1, 1, 1, 1, 1, 1, 1, 1, 1, 1, 1, 1, 1, 1, 1, 1] [] (V.codeOf Tryz.f8) (laws_FnExactNewZone.kt x0 x1 x2 x3 x4)) (laws_FnExactNewZone.s47 x0 x1 x2 x3 x4 y5 y8) = laws_FnExactNewZone.g47 x0 x1 x2 x3 x4 y5 y8 (fun y17 => V.normK 69 ([16, 19], []) (V.joinF laws_FnExactNewZone.E Tryz.f8.ntmps [1, 1, 1, 1, 1, 1, 1, 1, 1, 1, 1, 1, 1, 1, 1, 1, 1, 1, 1, 1, 1, 1, 1, 1] [] (V.codeOf Tryz.f8) (laws_FnExactNewZone.kt x0 x1 x2 x3 x4)) (laws_FnExactNewZone.s69 y17)) := by kernel_rfl
theorem laws_FnExactNewZone.e47 (x0 : TKeys) (x1 : Int) (x2 : List TEntry) (x3 : Int) (x4 : Int) (y5 : TRZoneBool) (y8 : TRZoneBool) : V.normK 47 ([1, 2, 3, 4, 5, 12, 13, 16], []) (V.joinF laws_FnExactNewZone.E Tryz.f8.ntmps [1, 1, 1, 1, 1, 1, 1, 1, 1, 1, 1, 1, 1, 1, 1, 1] [] (V.codeOf Tryz.f8) (laws_FnExactNewZone.kt x0 x1 x2 x3 x4)) (laws_FnExactNewZone.s47 x0 x1 x2 x3 x4 y5 y8) = laws_FnExactNewZone.l47 x0 x1 x2 x3 x4 y5 y8 := by
  rw [laws_FnExactNewZone.r47]
  simp only [laws_FnExactNewZone.e69]
  rfl
theorem laws_FnExactNewZone.r29 (x0 : TKeys) (x1 : Int) (x2 : List TEntry) (x3 : Int) (x4 : Int) (y5 : TRZoneBool) (y6 : TKeys) (y7 : List TEntry) (y8 : TRZoneBool) : V.normK 29 ([1, 2, 3, 4, 5, 12, 13, 14, 15, 16, 17], []) (V.joinF laws_FnExactNewZone.E Tryz.f8.ntmps [1, 1, 1, 1, 1, 1, 1, 1, 1, 1] [] (V.codeOf Tryz.f8) (laws_FnExactNewZone.kt x0 x1 x2 x3 x4)) (laws_FnExactNewZone.s29 x0 x1 x2 x3 x4 y5 y6 y7 y8) = laws_FnExactNewZone.g29 x0 x1 x2 x3 x4 y5 y6 y7 y8 (fun y5 y8 => V.normK 47 ([1, 2, 3, 4, 5, 12, 13, 16], []) (V.joinF laws_FnExactNewZone.E Tryz.f8.ntmps [1, 1, 1, 1, 1, 1, 1, 1, 1, 1, 1, 1, 1, 1, 1, 1] [] (V.codeOf Tryz.f8) (laws_FnExactNewZone.kt x0 x1 x2 x3 x4)) (laws_FnExactNewZone.s47 x0 x1 x2 x3 x4 y5 y8)) := by kernel_rfl
theorem laws_FnExactNewZone.e29 (x0 : TKeys) (x1 : Int) (x2 : List TEntry) (x3 : Int) (x4 : Int) (y5 : TRZoneBool) (y6 : TKeys) (y7 : List TEntry) (y8 : TRZoneBool) : V.normK 29 ([1, 2, 3, 4, 5, 12, 13, 14, 15, 16, 17], []) (V.joinF laws_FnExactNewZone.E Tryz.f8.ntmps [1, 1, 1, 1, 1, 1, 1, 1, 1, 1] [] (V.codeOf Tryz.f8) (laws_FnExactNewZone.kt x0 x1 x2 x3 x4)) (laws_FnExactNewZone.s29 x0 x1 x2 x3 x4 y5 y6 y7 y8) = laws_FnExactNewZone.l29 x0 x1 x2 x3 x4 y5 y6 y7 y8 := by
  rw [laws_FnExactNewZone.r29]
  simp only [laws_FnExactNewZone.e47]
  rfl
theorem laws_FnExactNewZone.v (x0 : TKeys) (x1 : Int) (x2 : List TEntry) (x3 : Int) (x4 : Int) : V.evBody laws_FnExactNewZone.E laws_FnExactNewZone.con Tryz.f8 ((x0.1, x0.2, x1, x2, x3, x4) : List Int × Int × Int × List TEntry × Int × Int) = laws_FnExactNewZone.b x0 x1 x2 x3 x4 (fun y5 y6 y7 y8 => V.normK 29 ([1, 2, 3, 4, 5, 12, 13, 14, 15, 16, 17], []) (V.joinF laws_FnExactNewZone.E Tryz.f8.ntmps [1, 1, 1, 1, 1, 1, 1, 1, 1, 1] [] (V.codeOf Tryz.f8) (laws_FnExactNewZone.kt x0 x1 x2 x3 x4)) (laws_FnExactNewZone.s29 x0 x1 x2 x3 x4 y5 y6 y7 y8)) := by kernel_rfl
theorem laws_FnExactNewZone.eq (x0 : TKeys) (x1 : Int) (x2 : List TEntry) (x3 : Int) (x4 : Int) : V.evBody laws_FnExactNewZone.E laws_FnExactNewZone.con Tryz.f8 ((x0.1, x0.2, x1, x2, x3, x4) : List Int × Int × Int × List TEntry × Int × Int) = laws_FnExactNewZone x0 x1 x2 x3 x4 := by
  rw [laws_FnExactNewZone.v]
  simp only [laws_FnExactNewZone.e29]
  rfl
theorem laws_FnExactNewZone.ok : V.Valid Tryz.prog 8 laws_FnExactNewZone.con :=
  V.fo (V.tab_cons laws_szEntryS.ok (V.tab_cons laws_toEntryS.ok (V.tab_cons laws_eqEntryS.ok (V.tab_cons laws_markEntryS.ok (V.tab_cons laws_eqZone.ok (V.tab_cons laws_szKeys.ok (V.tab_cons spec_NewZone.ok (V.tab_cons laws_toKeys.ok (V.tab_cons impl_NewZone.ok (V.tab_cons laws_eqKeys.ok (V.tab_cons laws_markKeys.ok (V.tab_cons laws_markZone.ok (V.tab_cons laws_heldZone.ok V.tab_nil))))))))))))) Tryz.func8 (by kernel_rfl) (fun x y h => (show V.evBody laws_FnExactNewZone.E laws_FnExactNewZone.con Tryz.f8 x = _ from laws_FnExactNewZone.eq (x.1, x.2.1) x.2.2.1 x.2.2.2.1 x.2.2.2.2.1 x.2.2.2.2.2).trans (V.cfl (by kernel_rfl) h))
end Go.Proofs.YtpioofmdambjoaaGreat
