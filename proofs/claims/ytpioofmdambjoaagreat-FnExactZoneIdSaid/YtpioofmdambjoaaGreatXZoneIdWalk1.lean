/- That the functions compute it, part 1. -/
import Derived.Test.YtpioofmdambjoaaGreatXZoneIdWalk0
namespace Go.Proofs.YtpioofmdambjoaaGreat
set_option linter.unusedVariables false
set_option maxRecDepth 100000
noncomputable abbrev laws_eqIntS.con : V.Con := ⟨(.cons (.sl (.cons (.int .i64) .nil)) (.cons (.sl (.cons (.int .i64) .nil)) .nil)), (.cons .bool .nil), fun (x : List Int × List Int) => laws_eqIntS x.1 x.2, [], [(false, 1), (false, 1)], [(false, 1)], [false], []⟩
noncomputable abbrev laws_eqIntS.E : V.Env := V.mkE V.tys [] [(8, [0, 1, 5], [])] [(6, 8)] [] [] []
noncomputable abbrev laws_eqIntS.kt (x0 : List Int) (x1 : List Int) : V.Kt Bool := V.ktOf laws_eqIntS.E laws_eqIntS.con Tryz.f79 ((x0, x1) : List Int × List Int)
noncomputable abbrev laws_eqIntS.s8 (x0 : List Int) (x1 : List Int) (v8_2 : Int) : V.St := ⟨[(0, .v false [.val (.sl (.cons (.int .i64) .nil) x0)]), (1, .v false [.val (.sl (.cons (.int .i64) .nil) x1)]), (5, .v false [.val (.int .i64 v8_2)])], []⟩
theorem laws_eqIntS.r8 (x0 : List Int) (x1 : List Int) (R : V.St → Option Bool) (v8_2 : Int) : V.loopF laws_eqIntS.E Tryz.f79.ntmps [1, 1, 0, 1, 0] [] (V.codeOf Tryz.f79) (laws_eqIntS.kt x0 x1) R (laws_eqIntS.s8 x0 x1 v8_2) = laws_eqIntS.g8 x0 x1 (fun v8_2 => R (laws_eqIntS.s8 x0 x1 v8_2)) v8_2 := by kernel_rfl
theorem laws_eqIntS.e8 (x0 : List Int) (x1 : List Int) : ∀ (n : Nat) (v8_2 : Int), V.loopN (V.loopF laws_eqIntS.E Tryz.f79.ntmps [1, 1, 0, 1, 0] [] (V.codeOf Tryz.f79) (laws_eqIntS.kt x0 x1)) n (laws_eqIntS.s8 x0 x1 v8_2) = laws_eqIntS.l8 x0 x1 n v8_2 := by
  intro n
  induction n with
  | zero => intros; rw [V.loopN_z]; rfl
  | succ n ih =>
    intro v8_2
    rw [V.loopN_s, laws_eqIntS.r8]
    simp only [ih]
    first | exact (laws_eqIntS.u8 ..).symm | rfl
theorem laws_eqIntS.v (x0 : List Int) (x1 : List Int) : V.evBody laws_eqIntS.E laws_eqIntS.con Tryz.f79 ((x0, x1) : List Int × List Int) = laws_eqIntS.b x0 x1 (fun v8_2 => V.loopN (V.loopF laws_eqIntS.E Tryz.f79.ntmps [1, 1, 0, 1, 0] [] (V.codeOf Tryz.f79) (laws_eqIntS.kt x0 x1)) V.KK (laws_eqIntS.s8 x0 x1 v8_2)) := by kernel_rfl
theorem laws_eqIntS.eq (x0 : List Int) (x1 : List Int) : V.evBody laws_eqIntS.E laws_eqIntS.con Tryz.f79 ((x0, x1) : List Int × List Int) = laws_eqIntS x0 x1 := by
  rw [laws_eqIntS.v]
  simp only [laws_eqIntS.e8]
  rfl
theorem laws_eqIntS.ok : V.Valid Tryz.prog 79 laws_eqIntS.con :=
  V.fo V.tab_nil Tryz.func79 (by kernel_rfl) (fun x y h => (show V.evBody laws_eqIntS.E laws_eqIntS.con Tryz.f79 x = _ from laws_eqIntS.eq x.1 x.2).trans (V.cfl (by kernel_rfl) h))
noncomputable abbrev laws_eqKeys.con : V.Con := ⟨(.cons (.sl (.cons (.int .i64) .nil)) (.cons (.int .i64) (.cons (.sl (.cons (.int .i64) .nil)) (.cons (.int .i64) .nil)))), (.cons .bool .nil), fun (x : List Int × Int × List Int × Int) => laws_eqKeys (x.1, x.2.1) x.2.2, [], [(true, 2), (true, 2)], [(false, 1)], [false], []⟩
noncomputable abbrev laws_eqKeys.E : V.Env := V.mkE V.tys [(79, laws_eqIntS.con)] [] [] [] [] []
theorem laws_eqKeys.eq (x0 : TKeys) (x1 : TKeys) : V.evBody laws_eqKeys.E laws_eqKeys.con Tryz.f54 ((x0.1, x0.2, x1.1, x1.2) : List Int × Int × List Int × Int) = laws_eqKeys x0 x1 := by kernel_rfl
theorem laws_eqKeys.ok : V.Valid Tryz.prog 54 laws_eqKeys.con :=
  V.fo (V.tab_cons laws_eqIntS.ok V.tab_nil) Tryz.func54 (by kernel_rfl) (fun x y h => (show V.evBody laws_eqKeys.E laws_eqKeys.con Tryz.f54 x = _ from laws_eqKeys.eq (x.1, x.2.1) x.2.2).trans (V.cfl (by kernel_rfl) h))
noncomputable abbrev laws_eqHead.con : V.Con := ⟨V.A4, (.cons .bool .nil), fun (x : V.D4) => laws_eqHead (V.p4_0 x) (V.p4_1 x), [], [(true, 16), (true, 16)], [(false, 1)], [false], []⟩
noncomputable abbrev laws_eqHead.E : V.Env := V.mkE V.tys [(54, laws_eqKeys.con)] [] [] [] [] []
noncomputable abbrev laws_eqHead.kt (x0 : THead) (x1 : THead) : V.Kt Bool := V.ktOf laws_eqHead.E laws_eqHead.con Tryz.f21 (V.fl4 x0 x1)
noncomputable abbrev laws_eqHead.s (x0 : THead) (x1 : THead) : V.St := ⟨[(0, .v true [.val (.int .i64 x0.1), .val (.int .i64 x0.2.1), .val (.int .i64 x0.2.2.1), .val (.int .i64 x0.2.2.2.1), .val (.int .i64 x0.2.2.2.2.1), .val (.int .i64 x0.2.2.2.2.2.1), .val (.int .i64 x0.2.2.2.2.2.2.1), .val (.int .i64 x0.2.2.2.2.2.2.2.1), .val (.sl (.cons (.int .i64) .nil) x0.2.2.2.2.2.2.2.2.1), .val (.int .i64 x0.2.2.2.2.2.2.2.2.2.1), .val (.sl (.cons (.int .i64) .nil) x0.2.2.2.2.2.2.2.2.2.2.1), .val (.int .i64 x0.2.2.2.2.2.2.2.2.2.2.2.1), .val (.int .i64 x0.2.2.2.2.2.2.2.2.2.2.2.2.1), .val (.sl (.cons (.int .i64) .nil) x0.2.2.2.2.2.2.2.2.2.2.2.2.2.1), .val (.int .i64 x0.2.2.2.2.2.2.2.2.2.2.2.2.2.2.1), .val (.bool x0.2.2.2.2.2.2.2.2.2.2.2.2.2.2.2)]), (1, .v true [.val (.int .i64 x1.1), .val (.int .i64 x1.2.1), .val (.int .i64 x1.2.2.1), .val (.int .i64 x1.2.2.2.1), .val (.int .i64 x1.2.2.2.2.1), .val (.int .i64 x1.2.2.2.2.2.1), .val (.int .i64 x1.2.2.2.2.2.2.1), .val (.int .i64 x1.2.2.2.2.2.2.2.1), .val (.sl (.cons (.int .i64) .nil) x1.2.2.2.2.2.2.2.2.1), .val (.int .i64 x1.2.2.2.2.2.2.2.2.2.1), .val (.sl (.cons (.int .i64) .nil) x1.2.2.2.2.2.2.2.2.2.2.1), .val (.int .i64 x1.2.2.2.2.2.2.2.2.2.2.2.1), .val (.int .i64 x1.2.2.2.2.2.2.2.2.2.2.2.2.1), .val (.sl (.cons (.int .i64) .nil) x1.2.2.2.2.2.2.2.2.2.2.2.2.2.1), .val (.int .i64 x1.2.2.2.2.2.2.2.2.2.2.2.2.2.2.1), .val (.bool x1.2.2.2.2.2.2.2.2.2.2.2.2.2.2.2)])], []⟩
theorem laws_eqHead.v0 (x0 : THead) (x1 : THead) : V.evBody laws_eqHead.E laws_eqHead.con Tryz.f21 (V.fl4 x0 x1) = V.evC laws_eqHead.E Tryz.f21.ntmps (V.codeOf Tryz.f21) (laws_eqHead.kt x0 x1) (laws_eqHead.s x0 x1) := by kernel_rfl
theorem laws_eqHead.v (x0 : THead) (x1 : THead) : V.evC laws_eqHead.E Tryz.f21.ntmps (V.codeOf Tryz.f21) (laws_eqHead.kt x0 x1) (laws_eqHead.s x0 x1) = laws_eqHead x0 x1 := by kernel_rfl
theorem laws_eqHead.eq (x0 : THead) (x1 : THead) : V.evBody laws_eqHead.E laws_eqHead.con Tryz.f21 (V.fl4 x0 x1) = laws_eqHead x0 x1 := (laws_eqHead.v0 x0 x1).trans (laws_eqHead.v x0 x1)
theorem laws_eqHead.ok : V.Valid Tryz.prog 21 laws_eqHead.con :=
  V.fo (V.tab_cons laws_eqKeys.ok V.tab_nil) Tryz.func21 (by kernel_rfl) (fun x y h => (show V.evBody laws_eqHead.E laws_eqHead.con Tryz.f21 x = _ from laws_eqHead.eq (V.p4_0 x) (V.p4_1 x)).trans (V.cfl (by kernel_rfl) h))
noncomputable abbrev laws_eqSig.con : V.Con := ⟨(.cons (.int .i64) (.cons (.int .i64) (.cons (.int .i64) (.cons (.int .i64) .nil)))), (.cons .bool .nil), fun (x : Int × Int × Int × Int) => laws_eqSig (x.1, x.2.1) x.2.2, [], [(true, 2), (true, 2)], [(false, 1)], [false], []⟩
noncomputable abbrev laws_eqSig.E : V.Env := V.mkE V.tys [] [] [] [] [] []
theorem laws_eqSig.eq (x0 : TSig) (x1 : TSig) : V.evBody laws_eqSig.E laws_eqSig.con Tryz.f40 ((x0.1, x0.2, x1.1, x1.2) : Int × Int × Int × Int) = laws_eqSig x0 x1 := by kernel_rfl
theorem laws_eqSig.ok : V.Valid Tryz.prog 40 laws_eqSig.con :=
  V.fo V.tab_nil Tryz.func40 (by kernel_rfl) (fun x y h => (show V.evBody laws_eqSig.E laws_eqSig.con Tryz.f40 x = _ from laws_eqSig.eq (x.1, x.2.1) x.2.2).trans (V.cfl (by kernel_rfl) h))
noncomputable abbrev laws_eqSigS.con : V.Con := ⟨(.cons (.sl (.cons (.int .i64) (.cons (.int .i64) .nil))) (.cons (.sl (.cons (.int .i64) (.cons (.int .i64) .nil))) .nil)), (.cons .bool .nil), fun (x : List TSig × List TSig) => laws_eqSigS x.1 x.2, [], [(false, 1), (false, 1)], [(false, 1)], [false], []⟩
noncomputable abbrev laws_eqSigS.E : V.Env := V.mkE V.tys [(40, laws_eqSig.con)] [(8, [0, 1, 5], [])] [(6, 8)] [] [] []
noncomputable abbrev laws_eqSigS.kt (x0 : List TSig) (x1 : List TSig) : V.Kt Bool := V.ktOf laws_eqSigS.E laws_eqSigS.con Tryz.f212 ((x0, x1) : List TSig × List TSig)
noncomputable abbrev laws_eqSigS.s8 (x0 : List TSig) (x1 : List TSig) (v8_2 : Int) : V.St := ⟨[(0, .v false [.val (.sl (.cons (.int .i64) (.cons (.int .i64) .nil)) x0)]), (1, .v false [.val (.sl (.cons (.int .i64) (.cons (.int .i64) .nil)) x1)]), (5, .v false [.val (.int .i64 v8_2)])], []⟩
theorem laws_eqSigS.r8 (x0 : List TSig) (x1 : List TSig) (R : V.St → Option Bool) (v8_2 : Int) : V.loopF laws_eqSigS.E Tryz.f212.ntmps [1, 1, 0, 1, 0] [] (V.codeOf Tryz.f212) (laws_eqSigS.kt x0 x1) R (laws_eqSigS.s8 x0 x1 v8_2) = laws_eqSigS.g8 x0 x1 (fun v8_2 => R (laws_eqSigS.s8 x0 x1 v8_2)) v8_2 := by kernel_rfl
theorem laws_eqSigS.e8 (x0 : List TSig) (x1 : List TSig) : ∀ (n : Nat) (v8_2 : Int), V.loopN (V.loopF laws_eqSigS.E Tryz.f212.ntmps [1, 1, 0, 1, 0] [] (V.codeOf Tryz.f212) (laws_eqSigS.kt x0 x1)) n (laws_eqSigS.s8 x0 x1 v8_2) = laws_eqSigS.l8 x0 x1 n v8_2 := by
  intro n
  induction n with
  | zero => intros; rw [V.loopN_z]; rfl
  | succ n ih =>
    intro v8_2
    rw [V.loopN_s, laws_eqSigS.r8]
    simp only [ih]
    first | exact (laws_eqSigS.u8 ..).symm | rfl
theorem laws_eqSigS.v (x0 : List TSig) (x1 : List TSig) : V.evBody laws_eqSigS.E laws_eqSigS.con Tryz.f212 ((x0, x1) : List TSig × List TSig) = laws_eqSigS.b x0 x1 (fun v8_2 => V.loopN (V.loopF laws_eqSigS.E Tryz.f212.ntmps [1, 1, 0, 1, 0] [] (V.codeOf Tryz.f212) (laws_eqSigS.kt x0 x1)) V.KK (laws_eqSigS.s8 x0 x1 v8_2)) := by kernel_rfl
theorem laws_eqSigS.eq (x0 : List TSig) (x1 : List TSig) : V.evBody laws_eqSigS.E laws_eqSigS.con Tryz.f212 ((x0, x1) : List TSig × List TSig) = laws_eqSigS x0 x1 := by
  rw [laws_eqSigS.v]
  simp only [laws_eqSigS.e8]
  rfl
theorem laws_eqSigS.ok : V.Valid Tryz.prog 212 laws_eqSigS.con :=
  V.fo (V.tab_cons laws_eqSig.ok V.tab_nil) Tryz.func212 (by kernel_rfl) (fun x y h => (show V.evBody laws_eqSigS.E laws_eqSigS.con Tryz.f212 x = _ from laws_eqSigS.eq x.1 x.2).trans (V.cfl (by kernel_rfl) h))
noncomputable abbrev laws_eqSigned.con : V.Con := ⟨V.A7, (.cons .bool .nil), fun (x : V.D7) => laws_eqSigned (V.p7_0 x) (V.p7_1 x), [], [(true, 17), (true, 17)], [(false, 1)], [false], []⟩
noncomputable abbrev laws_eqSigned.E : V.Env := V.mkE V.tys [(21, laws_eqHead.con), (212, laws_eqSigS.con)] [] [] [] [] []
noncomputable abbrev laws_eqSigned.kt (x0 : TSigned) (x1 : TSigned) : V.Kt Bool := V.ktOf laws_eqSigned.E laws_eqSigned.con Tryz.f108 (V.fl7 x0 x1)
noncomputable abbrev laws_eqSigned.s (x0 : TSigned) (x1 : TSigned) : V.St := ⟨[(0, .v true [.val (.int .i64 x0.1), .val (.int .i64 x0.2.1), .val (.int .i64 x0.2.2.1), .val (.int .i64 x0.2.2.2.1), .val (.int .i64 x0.2.2.2.2.1), .val (.int .i64 x0.2.2.2.2.2.1), .val (.int .i64 x0.2.2.2.2.2.2.1), .val (.int .i64 x0.2.2.2.2.2.2.2.1), .val (.sl (.cons (.int .i64) .nil) x0.2.2.2.2.2.2.2.2.1), .val (.int .i64 x0.2.2.2.2.2.2.2.2.2.1), .val (.sl (.cons (.int .i64) .nil) x0.2.2.2.2.2.2.2.2.2.2.1), .val (.int .i64 x0.2.2.2.2.2.2.2.2.2.2.2.1), .val (.int .i64 x0.2.2.2.2.2.2.2.2.2.2.2.2.1), .val (.sl (.cons (.int .i64) .nil) x0.2.2.2.2.2.2.2.2.2.2.2.2.2.1), .val (.int .i64 x0.2.2.2.2.2.2.2.2.2.2.2.2.2.2.1), .val (.bool x0.2.2.2.2.2.2.2.2.2.2.2.2.2.2.2.1), .val (.sl (.cons (.int .i64) (.cons (.int .i64) .nil)) x0.2.2.2.2.2.2.2.2.2.2.2.2.2.2.2.2)]), (1, .v true [.val (.int .i64 x1.1), .val (.int .i64 x1.2.1), .val (.int .i64 x1.2.2.1), .val (.int .i64 x1.2.2.2.1), .val (.int .i64 x1.2.2.2.2.1), .val (.int .i64 x1.2.2.2.2.2.1), .val (.int .i64 x1.2.2.2.2.2.2.1), .val (.int .i64 x1.2.2.2.2.2.2.2.1), .val (.sl (.cons (.int .i64) .nil) x1.2.2.2.2.2.2.2.2.1), .val (.int .i64 x1.2.2.2.2.2.2.2.2.2.1), .val (.sl (.cons (.int .i64) .nil) x1.2.2.2.2.2.2.2.2.2.2.1), .val (.int .i64 x1.2.2.2.2.2.2.2.2.2.2.2.1), .val (.int .i64 x1.2.2.2.2.2.2.2.2.2.2.2.2.1), .val (.sl (.cons (.int .i64) .nil) x1.2.2.2.2.2.2.2.2.2.2.2.2.2.1), .val (.int .i64 x1.2.2.2.2.2.2.2.2.2.2.2.2.2.2.1), .val (.bool x1.2.2.2.2.2.2.2.2.2.2.2.2.2.2.2.1), .val (.sl (.cons (.int .i64) (.cons (.int .i64) .nil)) x1.2.2.2.2.2.2.2.2.2.2.2.2.2.2.2.2)])], []⟩
theorem laws_eqSigned.v0 (x0 : TSigned) (x1 : TSigned) : V.evBody laws_eqSigned.E laws_eqSigned.con Tryz.f108 (V.fl7 x0 x1) = V.evC laws_eqSigned.E Tryz.f108.ntmps (V.codeOf Tryz.f108) (laws_eqSigned.kt x0 x1) (laws_eqSigned.s x0 x1) := by kernel_rfl
theorem laws_eqSigned.v (x0 : TSigned) (x1 : TSigned) : V.evC laws_eqSigned.E Tryz.f108.ntmps (V.codeOf Tryz.f108) (laws_eqSigned.kt x0 x1) (laws_eqSigned.s x0 x1) = laws_eqSigned x0 x1 := by kernel_rfl
theorem laws_eqSigned.eq (x0 : TSigned) (x1 : TSigned) : V.evBody laws_eqSigned.E laws_eqSigned.con Tryz.f108 (V.fl7 x0 x1) = laws_eqSigned x0 x1 := (laws_eqSigned.v0 x0 x1).trans (laws_eqSigned.v x0 x1)
theorem laws_eqSigned.ok : V.Valid Tryz.prog 108 laws_eqSigned.con :=
  V.fo (V.tab_cons laws_eqHead.ok (V.tab_cons laws_eqSigS.ok V.tab_nil)) Tryz.func108 (by kernel_rfl) (fun x y h => (show V.evBody laws_eqSigned.E laws_eqSigned.con Tryz.f108 x = _ from laws_eqSigned.eq (V.p7_0 x) (V.p7_1 x)).trans (V.cfl (by kernel_rfl) h))
noncomputable abbrev laws_eqSignedS.con : V.Con := ⟨(.cons (.sl V.eSigned) (.cons (.sl V.eSigned) .nil)), (.cons .bool .nil), fun (x : List TSigned × List TSigned) => laws_eqSignedS x.1 x.2, [], [(false, 1), (false, 1)], [(false, 1)], [false], []⟩
noncomputable abbrev laws_eqSignedS.E : V.Env := V.mkE V.tys [(108, laws_eqSigned.con)] [(8, [0, 1, 5], [])] [(6, 8)] [] [] []
noncomputable abbrev laws_eqSignedS.kt (x0 : List TSigned) (x1 : List TSigned) : V.Kt Bool := V.ktOf laws_eqSignedS.E laws_eqSignedS.con Tryz.f31 ((x0, x1) : List TSigned × List TSigned)
noncomputable abbrev laws_eqSignedS.s8 (x0 : List TSigned) (x1 : List TSigned) (v8_2 : Int) : V.St := ⟨[(0, .v false [.val (.sl V.eSigned x0)]), (1, .v false [.val (.sl V.eSigned x1)]), (5, .v false [.val (.int .i64 v8_2)])], []⟩
theorem laws_eqSignedS.r8 (x0 : List TSigned) (x1 : List TSigned) (R : V.St → Option Bool) (v8_2 : Int) : V.loopF laws_eqSignedS.E Tryz.f31.ntmps [1, 1, 0, 1, 0] [] (V.codeOf Tryz.f31) (laws_eqSignedS.kt x0 x1) R (laws_eqSignedS.s8 x0 x1 v8_2) = laws_eqSignedS.g8 x0 x1 (fun v8_2 => R (laws_eqSignedS.s8 x0 x1 v8_2)) v8_2 := by kernel_rfl
theorem laws_eqSignedS.e8 (x0 : List TSigned) (x1 : List TSigned) : ∀ (n : Nat) (v8_2 : Int), V.loopN (V.loopF laws_eqSignedS.E Tryz.f31.ntmps [1, 1, 0, 1, 0] [] (V.codeOf Tryz.f31) (laws_eqSignedS.kt x0 x1)) n (laws_eqSignedS.s8 x0 x1 v8_2) = laws_eqSignedS.l8 x0 x1 n v8_2 := by
  intro n
  induction n with
  | zero => intros; rw [V.loopN_z]; rfl
  | succ n ih =>
    intro v8_2
    rw [V.loopN_s, laws_eqSignedS.r8]
    simp only [ih]
    first | exact (laws_eqSignedS.u8 ..).symm | rfl
theorem laws_eqSignedS.v (x0 : List TSigned) (x1 : List TSigned) : V.evBody laws_eqSignedS.E laws_eqSignedS.con Tryz.f31 ((x0, x1) : List TSigned × List TSigned) = laws_eqSignedS.b x0 x1 (fun v8_2 => V.loopN (V.loopF laws_eqSignedS.E Tryz.f31.ntmps [1, 1, 0, 1, 0] [] (V.codeOf Tryz.f31) (laws_eqSignedS.kt x0 x1)) V.KK (laws_eqSignedS.s8 x0 x1 v8_2)) := by kernel_rfl
theorem laws_eqSignedS.eq (x0 : List TSigned) (x1 : List TSigned) : V.evBody laws_eqSignedS.E laws_eqSignedS.con Tryz.f31 ((x0, x1) : List TSigned × List TSigned) = laws_eqSignedS x0 x1 := by
  rw [laws_eqSignedS.v]
  simp only [laws_eqSignedS.e8]
  rfl
theorem laws_eqSignedS.ok : V.Valid Tryz.prog 31 laws_eqSignedS.con :=
  V.fo (V.tab_cons laws_eqSigned.ok V.tab_nil) Tryz.func31 (by kernel_rfl) (fun x y h => (show V.evBody laws_eqSignedS.E laws_eqSignedS.con Tryz.f31 x = _ from laws_eqSignedS.eq x.1 x.2).trans (V.cfl (by kernel_rfl) h))
noncomputable abbrev laws_eqStringS.con : V.Con := ⟨(.cons (.sl (.cons .str .nil)) (.cons (.sl (.cons .str .nil)) .nil)), (.cons .bool .nil), fun (x : List ByteArray × List ByteArray) => laws_eqStringS x.1 x.2, [], [(false, 1), (false, 1)], [(false, 1)], [false], []⟩
noncomputable abbrev laws_eqStringS.E : V.Env := V.mkE V.tys [] [(8, [0, 1, 5], [])] [(6, 8)] [] [] []
noncomputable abbrev laws_eqStringS.kt (x0 : List ByteArray) (x1 : List ByteArray) : V.Kt Bool := V.ktOf laws_eqStringS.E laws_eqStringS.con Tryz.f168 ((x0, x1) : List ByteArray × List ByteArray)
noncomputable abbrev laws_eqStringS.s8 (x0 : List ByteArray) (x1 : List ByteArray) (v8_2 : Int) : V.St := ⟨[(0, .v false [.val (.sl (.cons .str .nil) x0)]), (1, .v false [.val (.sl (.cons .str .nil) x1)]), (5, .v false [.val (.int .i64 v8_2)])], []⟩
theorem laws_eqStringS.r8 (x0 : List ByteArray) (x1 : List ByteArray) (R : V.St → Option Bool) (v8_2 : Int) : V.loopF laws_eqStringS.E Tryz.f168.ntmps [1, 1, 0, 1, 0] [] (V.codeOf Tryz.f168) (laws_eqStringS.kt x0 x1) R (laws_eqStringS.s8 x0 x1 v8_2) = laws_eqStringS.g8 x0 x1 (fun v8_2 => R (laws_eqStringS.s8 x0 x1 v8_2)) v8_2 := by kernel_rfl
theorem laws_eqStringS.e8 (x0 : List ByteArray) (x1 : List ByteArray) : ∀ (n : Nat) (v8_2 : Int), V.loopN (V.loopF laws_eqStringS.E Tryz.f168.ntmps [1, 1, 0, 1, 0] [] (V.codeOf Tryz.f168) (laws_eqStringS.kt x0 x1)) n (laws_eqStringS.s8 x0 x1 v8_2) = laws_eqStringS.l8 x0 x1 n v8_2 := by
  intro n
  induction n with
  | zero => intros; rw [V.loopN_z]; rfl
  | succ n ih =>
    intro v8_2
    rw [V.loopN_s, laws_eqStringS.r8]
    simp only [ih]
    first | exact (laws_eqStringS.u8 ..).symm | rfl
theorem laws_eqStringS.v (x0 : List ByteArray) (x1 : List ByteArray) : V.evBody laws_eqStringS.E laws_eqStringS.con Tryz.f168 ((x0, x1) : List ByteArray × List ByteArray) = laws_eqStringS.b x0 x1 (fun v8_2 => V.loopN (V.loopF laws_eqStringS.E Tryz.f168.ntmps [1, 1, 0, 1, 0] [] (V.codeOf Tryz.f168) (laws_eqStringS.kt x0 x1)) V.KK (laws_eqStringS.s8 x0 x1 v8_2)) := by kernel_rfl
theorem laws_eqStringS.eq (x0 : List ByteArray) (x1 : List ByteArray) : V.evBody laws_eqStringS.E laws_eqStringS.con Tryz.f168 ((x0, x1) : List ByteArray × List ByteArray) = laws_eqStringS x0 x1 := by
  rw [laws_eqStringS.v]
  simp only [laws_eqStringS.e8]
  rfl
theorem laws_eqStringS.ok : V.Valid Tryz.prog 168 laws_eqStringS.con :=
  V.fo V.tab_nil Tryz.func168 (by kernel_rfl) (fun x y h => (show V.evBody laws_eqStringS.E laws_eqStringS.con Tryz.f168 x = _ from laws_eqStringS.eq x.1 x.2).trans (V.cfl (by kernel_rfl) h))
noncomputable abbrev laws_eqEntry.con : V.Con := ⟨(.cons .str (.cons (.int .i64) (.cons (.int .i64) (.cons (.sl (.cons .str .nil)) (.cons .str (.cons (.int .i64) (.cons (.int .i64) (.cons (.sl (.cons .str .nil)) .nil)))))))), (.cons .bool .nil), fun (x : ByteArray × Int × Int × List ByteArray × ByteArray × Int × Int × List ByteArray) => laws_eqEntry (x.1, x.2.1, x.2.2.1, x.2.2.2.1) x.2.2.2.2, [], [(true, 4), (true, 4)], [(false, 1)], [false], []⟩
noncomputable abbrev laws_eqEntry.E : V.Env := V.mkE V.tys [(168, laws_eqStringS.con)] [] [] [] [] []
theorem laws_eqEntry.eq (x0 : TEntry) (x1 : TEntry) : V.evBody laws_eqEntry.E laws_eqEntry.con Tryz.f72 ((x0.1, x0.2.1, x0.2.2.1, x0.2.2.2, x1.1, x1.2.1, x1.2.2.1, x1.2.2.2) : ByteArray × Int × Int × List ByteArray × ByteArray × Int × Int × List ByteArray) = laws_eqEntry x0 x1 := by kernel_rfl
theorem laws_eqEntry.ok : V.Valid Tryz.prog 72 laws_eqEntry.con :=
  V.fo (V.tab_cons laws_eqStringS.ok V.tab_nil) Tryz.func72 (by kernel_rfl) (fun x y h => (show V.evBody laws_eqEntry.E laws_eqEntry.con Tryz.f72 x = _ from laws_eqEntry.eq (x.1, x.2.1, x.2.2.1, x.2.2.2.1) x.2.2.2.2).trans (V.cfl (by kernel_rfl) h))
noncomputable abbrev laws_eqEntryS.con : V.Con := ⟨(.cons (.sl V.eEntry) (.cons (.sl V.eEntry) .nil)), (.cons .bool .nil), fun (x : List TEntry × List TEntry) => laws_eqEntryS x.1 x.2, [], [(false, 1), (false, 1)], [(false, 1)], [false], []⟩
noncomputable abbrev laws_eqEntryS.E : V.Env := V.mkE V.tys [(72, laws_eqEntry.con)] [(8, [0, 1, 5], [])] [(6, 8)] [] [] []
noncomputable abbrev laws_eqEntryS.kt (x0 : List TEntry) (x1 : List TEntry) : V.Kt Bool := V.ktOf laws_eqEntryS.E laws_eqEntryS.con Tryz.f22 ((x0, x1) : List TEntry × List TEntry)
noncomputable abbrev laws_eqEntryS.s8 (x0 : List TEntry) (x1 : List TEntry) (v8_2 : Int) : V.St := ⟨[(0, .v false [.val (.sl V.eEntry x0)]), (1, .v false [.val (.sl V.eEntry x1)]), (5, .v false [.val (.int .i64 v8_2)])], []⟩
theorem laws_eqEntryS.r8 (x0 : List TEntry) (x1 : List TEntry) (R : V.St → Option Bool) (v8_2 : Int) : V.loopF laws_eqEntryS.E Tryz.f22.ntmps [1, 1, 0, 1, 0] [] (V.codeOf Tryz.f22) (laws_eqEntryS.kt x0 x1) R (laws_eqEntryS.s8 x0 x1 v8_2) = laws_eqEntryS.g8 x0 x1 (fun v8_2 => R (laws_eqEntryS.s8 x0 x1 v8_2)) v8_2 := by kernel_rfl
theorem laws_eqEntryS.e8 (x0 : List TEntry) (x1 : List TEntry) : ∀ (n : Nat) (v8_2 : Int), V.loopN (V.loopF laws_eqEntryS.E Tryz.f22.ntmps [1, 1, 0, 1, 0] [] (V.codeOf Tryz.f22) (laws_eqEntryS.kt x0 x1)) n (laws_eqEntryS.s8 x0 x1 v8_2) = laws_eqEntryS.l8 x0 x1 n v8_2 := by
  intro n
  induction n with
  | zero => intros; rw [V.loopN_z]; rfl
  | succ n ih =>
    intro v8_2
    rw [V.loopN_s, laws_eqEntryS.r8]
    simp only [ih]
    first | exact (laws_eqEntryS.u8 ..).symm | rfl
theorem laws_eqEntryS.v (x0 : List TEntry) (x1 : List TEntry) : V.evBody laws_eqEntryS.E laws_eqEntryS.con Tryz.f22 ((x0, x1) : List TEntry × List TEntry) = laws_eqEntryS.b x0 x1 (fun v8_2 => V.loopN (V.loopF laws_eqEntryS.E Tryz.f22.ntmps [1, 1, 0, 1, 0] [] (V.codeOf Tryz.f22) (laws_eqEntryS.kt x0 x1)) V.KK (laws_eqEntryS.s8 x0 x1 v8_2)) := by kernel_rfl
theorem laws_eqEntryS.eq (x0 : List TEntry) (x1 : List TEntry) : V.evBody laws_eqEntryS.E laws_eqEntryS.con Tryz.f22 ((x0, x1) : List TEntry × List TEntry) = laws_eqEntryS x0 x1 := by
  rw [laws_eqEntryS.v]
  simp only [laws_eqEntryS.e8]
  rfl
theorem laws_eqEntryS.ok : V.Valid Tryz.prog 22 laws_eqEntryS.con :=
  V.fo (V.tab_cons laws_eqEntry.ok V.tab_nil) Tryz.func22 (by kernel_rfl) (fun x y h => (show V.evBody laws_eqEntryS.E laws_eqEntryS.con Tryz.f22 x = _ from laws_eqEntryS.eq x.1 x.2).trans (V.cfl (by kernel_rfl) h))
noncomputable abbrev laws_eqZone.con : V.Con := ⟨(.cons (.sl V.eSigned) (.cons (.sl V.eEntry) (.cons (.sl V.eSigned) (.cons (.sl V.eEntry) .nil)))), (.cons .bool .nil), fun (x : List TSigned × List TEntry × List TSigned × List TEntry) => laws_eqZone (x.1, x.2.1) x.2.2, [], [(true, 2), (true, 2)], [(false, 1)], [false], []⟩
noncomputable abbrev laws_eqZone.E : V.Env := V.mkE V.tys [(22, laws_eqEntryS.con), (31, laws_eqSignedS.con)] [] [] [] [] []
theorem laws_eqZone.eq (x0 : TZone) (x1 : TZone) : V.evBody laws_eqZone.E laws_eqZone.con Tryz.f47 ((x0.1, x0.2, x1.1, x1.2) : List TSigned × List TEntry × List TSigned × List TEntry) = laws_eqZone x0 x1 := by kernel_rfl
theorem laws_eqZone.ok : V.Valid Tryz.prog 47 laws_eqZone.con :=
  V.fo (V.tab_cons laws_eqEntryS.ok (V.tab_cons laws_eqSignedS.ok V.tab_nil)) Tryz.func47 (by kernel_rfl) (fun x y h => (show V.evBody laws_eqZone.E laws_eqZone.con Tryz.f47 x = _ from laws_eqZone.eq (x.1, x.2.1) x.2.2).trans (V.cfl (by kernel_rfl) h))
noncomputable abbrev laws_FnExactZoneId.con : V.Con := ⟨(.cons (.sl V.eSigned) (.cons (.sl V.eEntry) .nil)), (.cons .bool .nil), fun (x : List TSigned × List TEntry) => laws_FnExactZoneId x, [], [(true, 2)], [(false, 1)], [false], []⟩
noncomputable abbrev laws_FnExactZoneId.E : V.Env := V.mkE V.tys [(43, laws_szZone.con), (45, laws_toZone.con), (47, laws_eqZone.con), (48, spec_ZoneId.con), (49, impl_ZoneId.con)] [] [(10, 3)] [] [] []
theorem laws_FnExactZoneId.eq (x0 : TZone) : V.evBody laws_FnExactZoneId.E laws_FnExactZoneId.con Tryz.f7 ((x0.1, x0.2) : List TSigned × List TEntry) = laws_FnExactZoneId x0 := by kernel_rfl
theorem laws_FnExactZoneId.ok : V.Valid Tryz.prog 7 laws_FnExactZoneId.con :=
  V.fo (V.tab_cons laws_szZone.ok (V.tab_cons laws_toZone.ok (V.tab_cons laws_eqZone.ok (V.tab_cons spec_ZoneId.ok (V.tab_cons impl_ZoneId.ok V.tab_nil))))) Tryz.func7 (by kernel_rfl) (fun x y h => (show V.evBody laws_FnExactZoneId.E laws_FnExactZoneId.con Tryz.f7 x = _ from laws_FnExactZoneId.eq x).trans (V.cfl (by kernel_rfl) h))
end Go.Proofs.YtpioofmdambjoaaGreat
