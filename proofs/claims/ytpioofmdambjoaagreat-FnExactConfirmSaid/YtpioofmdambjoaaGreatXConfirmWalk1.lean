/- That the functions compute it, part 1. -/
import Derived.Test.YtpioofmdambjoaaGreatXConfirmWalk0
namespace Go.Proofs.YtpioofmdambjoaaGreat
set_option linter.unusedVariables false
set_option maxRecDepth 100000
noncomputable abbrev laws_eqSignedS.con : V.Con := ⟨(.cons (.sl V.eSigned) (.cons (.sl V.eSigned) .nil)), (.cons .bool .nil), fun (x : List TSigned × List TSigned) => laws_eqSignedS x.1 x.2, [], [(false, 1), (false, 1)], [(false, 1)], [false], []⟩
noncomputable abbrev laws_eqSignedS.E : V.Env := V.mkE V.tys [(108, laws_eqSigned.con)] [(8, [0, 1, 5], [])] [(6, 8)] [] [] []
noncomputable abbrev laws_eqSignedS.kt (x0 : List TSigned) (x1 : List TSigned) : V.Kt Bool := V.ktOf laws_eqSignedS.E laws_eqSignedS.con Tryz.f31 ((x0, x1) : List TSigned × List TSigned)
noncomputable abbrev laws_eqSignedS.s8 (x0 : List TSigned) (x1 : List TSigned) (v8_2 : Int) : V.St := ⟨[(0, .v false [.val (.sl V.eSigned x0)]), (1, .v false [.val (.sl V.eSigned x1)]), (5, .v false [.val (.int .i64 v8_2)])], []⟩
theorem laws_eqSignedS.r8 (x0 : List TSigned) (x1 : List TSigned) (R : V.St → Option Bool) (v8_2 : Int) : V.loopF laws_eqSignedS.E Tryz.f31.ntmps [1, 1, 0, 1, 0] [] (V.codeOf Tryz.f31) (laws_eqSignedS.kt x0 x1) R (laws_eqSignedS.s8 x0 x1 v8_2) = laws_eqSignedS.g8 x0 x1 (fun v8_2 => R (laws_eqSignedS.s8 x0 x1 v8_2)) v8_2 := by kernel_rfl
theorem laws_eqSignedS.e8 (x0 : List TSigned) (x1 : List TSigned) : ∀ (n : Nat) (v8_2 : Int), V.loopN (V.loopF laws_eqSignedS.E Tryz.f31.ntmps [1, 1, 0, 1, 0] [] (V.codeOf Tryz.f31) (laws_eqSignedS.kt x0 x1)) n (laws_eqSignedS.s8 x0 x1 v8_2) = laws_eqSignedS.l8 x0 x1 n v8_2 := by
  intro n
  induction n with
  | zero => intros; rw [V.loopN_z]; rfl
  | succ n ih =>
    intro v8_2
    rw [V.loopN_s, laws_eqSignedS.r8]
    simp only [ih]
    first | exact (laws_eqSignedS.u8 ..).symm | rfl
theorem laws_eqSignedS.v (x0 : List TSigned) (x1 : List TSigned) : V.evBody laws_eqSignedS.E laws_eqSignedS.con Tryz.f31 ((x0, x1) : List TSigned × List TSigned) = laws_eqSignedS.b x0 x1 (fun v8_2 => V.loopN (V.loopF laws_eqSignedS.E Tryz.f31.ntmps [1, 1, 0, 1, 0] [] (V.codeOf Tryz.f31) (laws_eqSignedS.kt x0 x1)) V.KK (laws_eqSignedS.s8 x0 x1 v8_2)) := by kernel_rfl
theorem laws_eqSignedS.eq (x0 : List TSigned) (x1 : List TSigned) : V.evBody laws_eqSignedS.E laws_eqSignedS.con Tryz.f31 ((x0, x1) : List TSigned × List TSigned) = laws_eqSignedS x0 x1 := by
  rw [laws_eqSignedS.v]
  simp only [laws_eqSignedS.e8]
  rfl
theorem laws_eqSignedS.ok : V.Valid Tryz.prog 31 laws_eqSignedS.con :=
  V.fo (V.tab_cons laws_eqSigned.ok V.tab_nil) Tryz.func31 (by kernel_rfl) (fun x y h => (show V.evBody laws_eqSignedS.E laws_eqSignedS.con Tryz.f31 x = _ from laws_eqSignedS.eq x.1 x.2).trans (V.cfl (by kernel_rfl) h))
noncomputable abbrev laws_markMarkS.con : V.Con := ⟨(.cons (.sl (.cons (.int .i64) (.cons (.int .i64) (.cons (.int .i64) .nil)))) (.cons (.int .i64) .nil)), (.cons (.sl (.cons (.int .i64) (.cons (.int .i64) (.cons (.int .i64) .nil)))) (.cons (.int .i64) .nil)), fun (x : List TMark × Int) => laws_markMarkS x.1 x.2, [(0, false)], [(false, 1), (false, 1)], [(false, 1)], [false], []⟩
noncomputable abbrev laws_markMarkS.E : V.Env := V.mkE V.tys [] [(4, [0, 1, 5], [])] [] [] [] []
noncomputable abbrev laws_markMarkS.kt (x0 : List TMark) (x1 : Int) : V.Kt (List TMark × Int) := V.ktOf laws_markMarkS.E laws_markMarkS.con Tryz.f132 ((x0, x1) : List TMark × Int)
noncomputable abbrev laws_markMarkS.s4 (v4_0 : Int) (v4_1 : Int) (v4_2 : List TMark) : V.St := ⟨[(0, .v false [.ref 0]), (1, .v false [.val (.int .i64 v4_0)]), (5, .v false [.val (.int .i64 v4_1)])], [(0, .row (.cons (.int .i64) (.cons (.int .i64) (.cons (.int .i64) .nil))) true v4_2)]⟩
theorem laws_markMarkS.r4 (x0 : List TMark) (x1 : Int) (R : V.St → Option (List TMark × Int)) (v4_0 : Int) (v4_1 : Int) (v4_2 : List TMark) : V.loopF laws_markMarkS.E Tryz.f132.ntmps [1, 0, 1, 0] [] (V.codeOf Tryz.f132) (laws_markMarkS.kt x0 x1) R (laws_markMarkS.s4 v4_0 v4_1 v4_2) = laws_markMarkS.g4 (fun v4_0 v4_1 v4_2 => R (laws_markMarkS.s4 v4_0 v4_1 v4_2)) v4_0 v4_1 v4_2 := by kernel_rfl
theorem laws_markMarkS.e4 (x0 : List TMark) (x1 : Int) : ∀ (n : Nat) (v4_0 : Int) (v4_1 : Int) (v4_2 : List TMark), V.loopN (V.loopF laws_markMarkS.E Tryz.f132.ntmps [1, 0, 1, 0] [] (V.codeOf Tryz.f132) (laws_markMarkS.kt x0 x1)) n (laws_markMarkS.s4 v4_0 v4_1 v4_2) = laws_markMarkS.l4 n v4_0 v4_1 v4_2 := by
  intro n
  induction n with
  | zero => intros; rw [V.loopN_z]; rfl
  | succ n ih =>
    intro v4_0 v4_1 v4_2
    rw [V.loopN_s, laws_markMarkS.r4]
    simp only [ih]
    first | exact (laws_markMarkS.u4 ..).symm | rfl
theorem laws_markMarkS.v (x0 : List TMark) (x1 : Int) : V.evBody laws_markMarkS.E laws_markMarkS.con Tryz.f132 ((x0, x1) : List TMark × Int) = laws_markMarkS.b x0 x1 (fun v4_0 v4_1 v4_2 => V.loopN (V.loopF laws_markMarkS.E Tryz.f132.ntmps [1, 0, 1, 0] [] (V.codeOf Tryz.f132) (laws_markMarkS.kt x0 x1)) V.KK (laws_markMarkS.s4 v4_0 v4_1 v4_2)) := by kernel_rfl
theorem laws_markMarkS.eq (x0 : List TMark) (x1 : Int) : V.evBody laws_markMarkS.E laws_markMarkS.con Tryz.f132 ((x0, x1) : List TMark × Int) = laws_markMarkS x0 x1 := by
  rw [laws_markMarkS.v]
  simp only [laws_markMarkS.e4]
  rfl
theorem laws_markMarkS.ok : V.Valid Tryz.prog 132 laws_markMarkS.con :=
  V.fo V.tab_nil Tryz.func132 (by kernel_rfl) (fun x y h => (show V.evBody laws_markMarkS.E laws_markMarkS.con Tryz.f132 x = _ from laws_markMarkS.eq x.1 x.2).trans (V.cfl (by kernel_rfl) h))
noncomputable abbrev laws_markWitness.con : V.Con := ⟨(.cons (.int .i64) (.cons (.sl (.cons (.int .i64) (.cons (.int .i64) (.cons (.int .i64) .nil)))) (.cons (.int .i64) .nil))), (.cons (.sl (.cons (.int .i64) (.cons (.int .i64) (.cons (.int .i64) .nil)))) (.cons (.int .i64) .nil)), fun (x : Int × List TMark × Int) => laws_markWitness (x.1, x.2.1) x.2.2, [(1, false)], [(true, 2), (false, 1)], [(false, 1)], [false], []⟩
noncomputable abbrev laws_markWitness.E : V.Env := V.mkE V.tys [(132, laws_markMarkS.con)] [] [] [] [] []
theorem laws_markWitness.eq (x0 : TWitness) (x1 : Int) : V.evBody laws_markWitness.E laws_markWitness.con Tryz.f41 ((x0.1, x0.2, x1) : Int × List TMark × Int) = laws_markWitness x0 x1 := by kernel_rfl
theorem laws_markWitness.ok : V.Valid Tryz.prog 41 laws_markWitness.con :=
  V.fo (V.tab_cons laws_markMarkS.ok V.tab_nil) Tryz.func41 (by kernel_rfl) (fun x y h => (show V.evBody laws_markWitness.E laws_markWitness.con Tryz.f41 x = _ from laws_markWitness.eq (x.1, x.2.1) x.2.2).trans (V.cfl (by kernel_rfl) h))
noncomputable abbrev laws_markIntS.con : V.Con := ⟨(.cons (.sl (.cons (.int .i64) .nil)) (.cons (.int .i64) .nil)), (.cons (.sl (.cons (.int .i64) .nil)) (.cons (.int .i64) .nil)), fun (x : List Int × Int) => laws_markIntS x.1 x.2, [(0, false)], [(false, 1), (false, 1)], [(false, 1)], [false], []⟩
noncomputable abbrev laws_markIntS.E : V.Env := V.mkE V.tys [] [(4, [0, 1, 5], [])] [] [] [] []
noncomputable abbrev laws_markIntS.kt (x0 : List Int) (x1 : Int) : V.Kt TKeys := V.ktOf laws_markIntS.E laws_markIntS.con Tryz.f80 ((x0, x1) : List Int × Int)
noncomputable abbrev laws_markIntS.s4 (v4_0 : Int) (v4_1 : Int) (v4_2 : List Int) : V.St := ⟨[(0, .v false [.ref 0]), (1, .v false [.val (.int .i64 v4_0)]), (5, .v false [.val (.int .i64 v4_1)])], [(0, .row (.cons (.int .i64) .nil) true v4_2)]⟩
theorem laws_markIntS.r4 (x0 : List Int) (x1 : Int) (R : V.St → Option TKeys) (v4_0 : Int) (v4_1 : Int) (v4_2 : List Int) : V.loopF laws_markIntS.E Tryz.f80.ntmps [1, 0, 1, 0] [] (V.codeOf Tryz.f80) (laws_markIntS.kt x0 x1) R (laws_markIntS.s4 v4_0 v4_1 v4_2) = laws_markIntS.g4 (fun v4_0 v4_1 v4_2 => R (laws_markIntS.s4 v4_0 v4_1 v4_2)) v4_0 v4_1 v4_2 := by kernel_rfl
theorem laws_markIntS.e4 (x0 : List Int) (x1 : Int) : ∀ (n : Nat) (v4_0 : Int) (v4_1 : Int) (v4_2 : List Int), V.loopN (V.loopF laws_markIntS.E Tryz.f80.ntmps [1, 0, 1, 0] [] (V.codeOf Tryz.f80) (laws_markIntS.kt x0 x1)) n (laws_markIntS.s4 v4_0 v4_1 v4_2) = laws_markIntS.l4 n v4_0 v4_1 v4_2 := by
  intro n
  induction n with
  | zero => intros; rw [V.loopN_z]; rfl
  | succ n ih =>
    intro v4_0 v4_1 v4_2
    rw [V.loopN_s, laws_markIntS.r4]
    simp only [ih]
    first | exact (laws_markIntS.u4 ..).symm | rfl
theorem laws_markIntS.v (x0 : List Int) (x1 : Int) : V.evBody laws_markIntS.E laws_markIntS.con Tryz.f80 ((x0, x1) : List Int × Int) = laws_markIntS.b x0 x1 (fun v4_0 v4_1 v4_2 => V.loopN (V.loopF laws_markIntS.E Tryz.f80.ntmps [1, 0, 1, 0] [] (V.codeOf Tryz.f80) (laws_markIntS.kt x0 x1)) V.KK (laws_markIntS.s4 v4_0 v4_1 v4_2)) := by kernel_rfl
theorem laws_markIntS.eq (x0 : List Int) (x1 : Int) : V.evBody laws_markIntS.E laws_markIntS.con Tryz.f80 ((x0, x1) : List Int × Int) = laws_markIntS x0 x1 := by
  rw [laws_markIntS.v]
  simp only [laws_markIntS.e4]
  rfl
theorem laws_markIntS.ok : V.Valid Tryz.prog 80 laws_markIntS.con :=
  V.fo V.tab_nil Tryz.func80 (by kernel_rfl) (fun x y h => (show V.evBody laws_markIntS.E laws_markIntS.con Tryz.f80 x = _ from laws_markIntS.eq x.1 x.2).trans (V.cfl (by kernel_rfl) h))
noncomputable abbrev laws_markSigS.con : V.Con := ⟨(.cons (.sl (.cons (.int .i64) (.cons (.int .i64) .nil))) (.cons (.int .i64) .nil)), (.cons (.sl (.cons (.int .i64) (.cons (.int .i64) .nil))) (.cons (.int .i64) .nil)), fun (x : List TSig × Int) => laws_markSigS x.1 x.2, [(0, false)], [(false, 1), (false, 1)], [(false, 1)], [false], []⟩
noncomputable abbrev laws_markSigS.E : V.Env := V.mkE V.tys [] [(4, [0, 1, 5], [])] [] [] [] []
noncomputable abbrev laws_markSigS.kt (x0 : List TSig) (x1 : Int) : V.Kt (List TSig × Int) := V.ktOf laws_markSigS.E laws_markSigS.con Tryz.f109 ((x0, x1) : List TSig × Int)
noncomputable abbrev laws_markSigS.s4 (v4_0 : Int) (v4_1 : Int) (v4_2 : List TSig) : V.St := ⟨[(0, .v false [.ref 0]), (1, .v false [.val (.int .i64 v4_0)]), (5, .v false [.val (.int .i64 v4_1)])], [(0, .row (.cons (.int .i64) (.cons (.int .i64) .nil)) true v4_2)]⟩
theorem laws_markSigS.r4 (x0 : List TSig) (x1 : Int) (R : V.St → Option (List TSig × Int)) (v4_0 : Int) (v4_1 : Int) (v4_2 : List TSig) : V.loopF laws_markSigS.E Tryz.f109.ntmps [1, 0, 1, 0] [] (V.codeOf Tryz.f109) (laws_markSigS.kt x0 x1) R (laws_markSigS.s4 v4_0 v4_1 v4_2) = laws_markSigS.g4 (fun v4_0 v4_1 v4_2 => R (laws_markSigS.s4 v4_0 v4_1 v4_2)) v4_0 v4_1 v4_2 := by kernel_rfl
theorem laws_markSigS.e4 (x0 : List TSig) (x1 : Int) : ∀ (n : Nat) (v4_0 : Int) (v4_1 : Int) (v4_2 : List TSig), V.loopN (V.loopF laws_markSigS.E Tryz.f109.ntmps [1, 0, 1, 0] [] (V.codeOf Tryz.f109) (laws_markSigS.kt x0 x1)) n (laws_markSigS.s4 v4_0 v4_1 v4_2) = laws_markSigS.l4 n v4_0 v4_1 v4_2 := by
  intro n
  induction n with
  | zero => intros; rw [V.loopN_z]; rfl
  | succ n ih =>
    intro v4_0 v4_1 v4_2
    rw [V.loopN_s, laws_markSigS.r4]
    simp only [ih]
    first | exact (laws_markSigS.u4 ..).symm | rfl
theorem laws_markSigS.v (x0 : List TSig) (x1 : Int) : V.evBody laws_markSigS.E laws_markSigS.con Tryz.f109 ((x0, x1) : List TSig × Int) = laws_markSigS.b x0 x1 (fun v4_0 v4_1 v4_2 => V.loopN (V.loopF laws_markSigS.E Tryz.f109.ntmps [1, 0, 1, 0] [] (V.codeOf Tryz.f109) (laws_markSigS.kt x0 x1)) V.KK (laws_markSigS.s4 v4_0 v4_1 v4_2)) := by kernel_rfl
theorem laws_markSigS.eq (x0 : List TSig) (x1 : Int) : V.evBody laws_markSigS.E laws_markSigS.con Tryz.f109 ((x0, x1) : List TSig × Int) = laws_markSigS x0 x1 := by
  rw [laws_markSigS.v]
  simp only [laws_markSigS.e4]
  rfl
theorem laws_markSigS.ok : V.Valid Tryz.prog 109 laws_markSigS.con :=
  V.fo V.tab_nil Tryz.func109 (by kernel_rfl) (fun x y h => (show V.evBody laws_markSigS.E laws_markSigS.con Tryz.f109 x = _ from laws_markSigS.eq x.1 x.2).trans (V.cfl (by kernel_rfl) h))
noncomputable abbrev laws_markSignedS.con : V.Con := ⟨(.cons (.sl V.eSigned) (.cons (.int .i64) .nil)), (.cons (.sl V.eSigned) (.cons (.int .i64) .nil)), fun (x : List TSigned × Int) => laws_markSignedS x.1 x.2, [(0, false)], [(false, 1), (false, 1)], [(false, 1)], [false], []⟩
noncomputable abbrev laws_markSignedS.E : V.Env := V.mkE V.tys [(80, laws_markIntS.con), (109, laws_markSigS.con)] [(4, [0, 1, 5], [])] [] [] [] []
noncomputable abbrev laws_markSignedS.kt (x0 : List TSigned) (x1 : Int) : V.Kt (List TSigned × Int) := V.ktOf laws_markSignedS.E laws_markSignedS.con Tryz.f32 ((x0, x1) : List TSigned × Int)
noncomputable abbrev laws_markSignedS.s4 (v4_0 : Int) (v4_1 : Int) (v4_2 : List TSigned) : V.St := ⟨[(0, .v false [.ref 0]), (1, .v false [.val (.int .i64 v4_0)]), (5, .v false [.val (.int .i64 v4_1)])], [(0, .row V.eSigned true v4_2)]⟩
theorem laws_markSignedS.r4 (x0 : List TSigned) (x1 : Int) (R : V.St → Option (List TSigned × Int)) (v4_0 : Int) (v4_1 : Int) (v4_2 : List TSigned) : V.loopF laws_markSignedS.E Tryz.f32.ntmps [1, 0, 1, 0] [] (V.codeOf Tryz.f32) (laws_markSignedS.kt x0 x1) R (laws_markSignedS.s4 v4_0 v4_1 v4_2) = laws_markSignedS.g4 (fun v4_0 v4_1 v4_2 => R (laws_markSignedS.s4 v4_0 v4_1 v4_2)) v4_0 v4_1 v4_2 := by kernel_rfl
theorem laws_markSignedS.e4 (x0 : List TSigned) (x1 : Int) : ∀ (n : Nat) (v4_0 : Int) (v4_1 : Int) (v4_2 : List TSigned), V.loopN (V.loopF laws_markSignedS.E Tryz.f32.ntmps [1, 0, 1, 0] [] (V.codeOf Tryz.f32) (laws_markSignedS.kt x0 x1)) n (laws_markSignedS.s4 v4_0 v4_1 v4_2) = laws_markSignedS.l4 n v4_0 v4_1 v4_2 := by
  intro n
  induction n with
  | zero => intros; rw [V.loopN_z]; rfl
  | succ n ih =>
    intro v4_0 v4_1 v4_2
    rw [V.loopN_s, laws_markSignedS.r4]
    simp only [ih]
    first | exact (laws_markSignedS.u4 ..).symm | rfl
theorem laws_markSignedS.v (x0 : List TSigned) (x1 : Int) : V.evBody laws_markSignedS.E laws_markSignedS.con Tryz.f32 ((x0, x1) : List TSigned × Int) = laws_markSignedS.b x0 x1 (fun v4_0 v4_1 v4_2 => V.loopN (V.loopF laws_markSignedS.E Tryz.f32.ntmps [1, 0, 1, 0] [] (V.codeOf Tryz.f32) (laws_markSignedS.kt x0 x1)) V.KK (laws_markSignedS.s4 v4_0 v4_1 v4_2)) := by kernel_rfl
theorem laws_markSignedS.eq (x0 : List TSigned) (x1 : Int) : V.evBody laws_markSignedS.E laws_markSignedS.con Tryz.f32 ((x0, x1) : List TSigned × Int) = laws_markSignedS x0 x1 := by
  rw [laws_markSignedS.v]
  simp only [laws_markSignedS.e4]
  rfl
theorem laws_markSignedS.ok : V.Valid Tryz.prog 32 laws_markSignedS.con :=
  V.fo (V.tab_cons laws_markIntS.ok (V.tab_cons laws_markSigS.ok V.tab_nil)) Tryz.func32 (by kernel_rfl) (fun x y h => (show V.evBody laws_markSignedS.E laws_markSignedS.con Tryz.f32 x = _ from laws_markSignedS.eq x.1 x.2).trans (V.cfl (by kernel_rfl) h))
noncomputable abbrev laws_heldMarkS.con : V.Con := ⟨(.cons (.sl (.cons (.int .i64) (.cons (.int .i64) (.cons (.int .i64) .nil)))) (.cons (.int .i64) .nil)), (.cons (.int .i64) .nil), fun (x : List TMark × Int) => laws_heldMarkS x.1 x.2, [], [(false, 1), (false, 1)], [(false, 1)], [false], []⟩
noncomputable abbrev laws_heldMarkS.E : V.Env := V.mkE V.tys [] [(4, [0, 1, 5], [])] [] [] [] []
noncomputable abbrev laws_heldMarkS.kt (x0 : List TMark) (x1 : Int) : V.Kt Int := V.ktOf laws_heldMarkS.E laws_heldMarkS.con Tryz.f133 ((x0, x1) : List TMark × Int)
noncomputable abbrev laws_heldMarkS.s4 (x0 : List TMark) (v4_1 : Int) (v4_2 : Int) : V.St := ⟨[(0, .v false [.val (.sl (.cons (.int .i64) (.cons (.int .i64) (.cons (.int .i64) .nil))) x0)]), (1, .v false [.val (.int .i64 v4_1)]), (5, .v false [.val (.int .i64 v4_2)])], []⟩
theorem laws_heldMarkS.r4 (x0 : List TMark) (x1 : Int) (R : V.St → Option Int) (v4_1 : Int) (v4_2 : Int) : V.loopF laws_heldMarkS.E Tryz.f133.ntmps [1, 0, 1, 0] [] (V.codeOf Tryz.f133) (laws_heldMarkS.kt x0 x1) R (laws_heldMarkS.s4 x0 v4_1 v4_2) = laws_heldMarkS.g4 x0 (fun v4_1 v4_2 => R (laws_heldMarkS.s4 x0 v4_1 v4_2)) v4_1 v4_2 := by kernel_rfl
theorem laws_heldMarkS.e4 (x0 : List TMark) (x1 : Int) : ∀ (n : Nat) (v4_1 : Int) (v4_2 : Int), V.loopN (V.loopF laws_heldMarkS.E Tryz.f133.ntmps [1, 0, 1, 0] [] (V.codeOf Tryz.f133) (laws_heldMarkS.kt x0 x1)) n (laws_heldMarkS.s4 x0 v4_1 v4_2) = laws_heldMarkS.l4 x0 n v4_1 v4_2 := by
  intro n
  induction n with
  | zero => intros; rw [V.loopN_z]; rfl
  | succ n ih =>
    intro v4_1 v4_2
    rw [V.loopN_s, laws_heldMarkS.r4]
    simp only [ih]
    first | exact (laws_heldMarkS.u4 ..).symm | rfl
theorem laws_heldMarkS.v (x0 : List TMark) (x1 : Int) : V.evBody laws_heldMarkS.E laws_heldMarkS.con Tryz.f133 ((x0, x1) : List TMark × Int) = laws_heldMarkS.b x0 x1 (fun v4_1 v4_2 => V.loopN (V.loopF laws_heldMarkS.E Tryz.f133.ntmps [1, 0, 1, 0] [] (V.codeOf Tryz.f133) (laws_heldMarkS.kt x0 x1)) V.KK (laws_heldMarkS.s4 x0 v4_1 v4_2)) := by kernel_rfl
theorem laws_heldMarkS.eq (x0 : List TMark) (x1 : Int) : V.evBody laws_heldMarkS.E laws_heldMarkS.con Tryz.f133 ((x0, x1) : List TMark × Int) = laws_heldMarkS x0 x1 := by
  rw [laws_heldMarkS.v]
  simp only [laws_heldMarkS.e4]
  rfl
theorem laws_heldMarkS.ok : V.Valid Tryz.prog 133 laws_heldMarkS.con :=
  V.fo V.tab_nil Tryz.func133 (by kernel_rfl) (fun x y h => (show V.evBody laws_heldMarkS.E laws_heldMarkS.con Tryz.f133 x = _ from laws_heldMarkS.eq x.1 x.2).trans (V.cfl (by kernel_rfl) h))
noncomputable abbrev laws_heldWitness.con : V.Con := ⟨(.cons (.int .i64) (.cons (.sl (.cons (.int .i64) (.cons (.int .i64) (.cons (.int .i64) .nil)))) (.cons (.int .i64) .nil))), (.cons (.int .i64) .nil), fun (x : Int × List TMark × Int) => laws_heldWitness (x.1, x.2.1) x.2.2, [], [(true, 2), (false, 1)], [(false, 1)], [false], []⟩
noncomputable abbrev laws_heldWitness.E : V.Env := V.mkE V.tys [(133, laws_heldMarkS.con)] [] [] [] [] []
theorem laws_heldWitness.eq (x0 : TWitness) (x1 : Int) : V.evBody laws_heldWitness.E laws_heldWitness.con Tryz.f42 ((x0.1, x0.2, x1) : Int × List TMark × Int) = laws_heldWitness x0 x1 := by kernel_rfl
theorem laws_heldWitness.ok : V.Valid Tryz.prog 42 laws_heldWitness.con :=
  V.fo (V.tab_cons laws_heldMarkS.ok V.tab_nil) Tryz.func42 (by kernel_rfl) (fun x y h => (show V.evBody laws_heldWitness.E laws_heldWitness.con Tryz.f42 x = _ from laws_heldWitness.eq (x.1, x.2.1) x.2.2).trans (V.cfl (by kernel_rfl) h))
noncomputable abbrev laws_FnExactConfirm.con : V.Con := ⟨(.cons (.int .i64) (.cons (.sl (.cons (.int .i64) (.cons (.int .i64) (.cons (.int .i64) .nil)))) (.cons (.sl V.eSigned) .nil))), (.cons .bool .nil), fun (x : Int × List TMark × List TSigned) => laws_FnExactConfirm (x.1, x.2.1) x.2.2, [], [(true, 2), (false, 1)], [(false, 1)], [false], []⟩
noncomputable abbrev laws_FnExactConfirm.E : V.Env := V.mkE V.tys [(26, laws_szSignedS.con), (28, laws_toSignedS.con), (31, laws_eqSignedS.con), (32, laws_markSignedS.con), (35, laws_szWitness.con), (36, spec_Confirm.con), (37, laws_toWitness.con), (38, impl_Confirm.con), (39, laws_eqWitness.con), (40, laws_eqSig.con), (41, laws_markWitness.con), (42, laws_heldWitness.con)] [(29, [1, 2, 6, 7, 8, 9, 10, 11, 12, 13], []), (47, [1, 2, 6, 7, 8, 11], []), (69, [11, 15], [])] [(14, 3)] [] [] []
noncomputable abbrev laws_FnExactConfirm.kt (x0 : TWitness) (x1 : List TSigned) : V.Kt Bool := V.ktOf laws_FnExactConfirm.E laws_FnExactConfirm.con Tryz.f5 ((x0.1, x0.2, x1) : Int × List TMark × List TSigned)
noncomputable abbrev laws_FnExactConfirm.s69 (y8 : TRWitnessSigBool) (y19 : List TMark × Int) : V.St := ⟨[(11, .v false [.ptr 768448 0]), (15, .v false [.val (.int .i64 y19.2)])], [(768448, .box [.val (.int .i64 y8.1), .ref 64000000000049180673]), (64000000000049180673, .row (.cons (.int .i64) (.cons (.int .i64) (.cons (.int .i64) .nil))) true y19.1)]⟩
noncomputable abbrev laws_FnExactConfirm.s47 (x0 : TWitness) (x1 : List TSigned) (y5 : TRWitnessSigBool) (y8 : TRWitnessSigBool) : V.St := ⟨[(1, .v false [.val (.sl V.eSigned x1)]), (2, .v false [.ptr 64000 0]), (6, .v false [.ptr 576576 0]), (7, .v false [.ptr 576640 0]), (8, .v false [.val (.bool y5.2.2.2.2)]), (11, .v false [.ptr 768448 0])], [(64000, .box [.val (.int .i64 x0.1), .val (.sl (.cons (.int .i64) (.cons (.int .i64) (.cons (.int .i64) .nil))) x0.2)]), (576576, .box [.val (.int .i64 y5.1), .ref 64000000000036900865]), (64000000000036900865, .row (.cons (.int .i64) (.cons (.int .i64) (.cons (.int .i64) .nil))) true y5.2.1), (576640, .box [.val (.int .i64 y5.2.2.1), .val (.int .i64 y5.2.2.2.1)]), (768448, .box [.val (.int .i64 y8.1), .ref 64000000000049180673]), (64000000000049180673, .row (.cons (.int .i64) (.cons (.int .i64) (.cons (.int .i64) .nil))) true y8.2.1)]⟩
noncomputable abbrev laws_FnExactConfirm.s29 (x0 : TWitness) (x1 : List TSigned) (y5 : TRWitnessSigBool) (y6 : TWitness) (y7 : List TSigned) (y8 : TRWitnessSigBool) : V.St := ⟨[(1, .v false [.val (.sl V.eSigned x1)]), (2, .v false [.ptr 64000 0]), (6, .v false [.ptr 576576 0]), (7, .v false [.ptr 576640 0]), (8, .v false [.val (.bool y5.2.2.2.2)]), (9, .v false [.ptr 640128 0]), (10, .v false [.ref 64000185600640]), (11, .v false [.ptr 768448 0]), (12, .v false [.ptr 768512 0]), (13, .v false [.val (.bool y8.2.2.2.2)])], [(64000, .box [.val (.int .i64 x0.1), .val (.sl (.cons (.int .i64) (.cons (.int .i64) (.cons (.int .i64) .nil))) x0.2)]), (576576, .box [.val (.int .i64 y5.1), .ref 64000000000036900865]), (64000000000036900865, .row (.cons (.int .i64) (.cons (.int .i64) (.cons (.int .i64) .nil))) true y5.2.1), (576640, .box [.val (.int .i64 y5.2.2.1), .val (.int .i64 y5.2.2.2.1)]), (640128, .box [.val (.int .i64 y6.1), .ref 64000000000040968193]), (64000000000040968193, .row (.cons (.int .i64) (.cons (.int .i64) (.cons (.int .i64) .nil))) true y6.2), (64000185600640, .row V.eSigned true y7), (768448, .box [.val (.int .i64 y8.1), .ref 64000000000049180673]), (64000000000049180673, .row (.cons (.int .i64) (.cons (.int .i64) (.cons (.int .i64) .nil))) true y8.2.1), (768512, .box [.val (.int .i64 y8.2.2.1), .val (.int .i64 y8.2.2.2.1)])]⟩
theorem laws_FnExactConfirm.r69 (x0 : TWitness) (x1 : List TSigned) (y19 : List TMark × Int) (y8 : TRWitnessSigBool) : V.normK 69 ([11, 15], []) (V.joinF laws_FnExactConfirm.E Tryz.f5.ntmps [1, 1, 1, 1, 1, 1, 1, 1, 1, 1, 1, 1, 1, 1, 1, 1, 1, 1, 1, 1, 1, 1, 1, 1] [] (V.codeOf Tryz.f5) (laws_FnExactConfirm.kt x0 x1)) (laws_FnExactConfirm.s69 y8 y19) = laws_FnExactConfirm.g69 y8 y19 := by kernel_rfl
theorem laws_FnExactConfirm.e69 (x0 : TWitness) (x1 : List TSigned) (y19 : List TMark × Int) (y8 : TRWitnessSigBool) : V.normK 69 ([11, 15], []) (V.joinF laws_FnExactConfirm.E Tryz.f5.ntmps [1, 1, 1, 1, 1, 1, 1, 1, 1, 1, 1, 1, 1, 1, 1, 1, 1, 1, 1, 1, 1, 1, 1, 1] [] (V.codeOf Tryz.f5) (laws_FnExactConfirm.kt x0 x1)) (laws_FnExactConfirm.s69 y8 y19) = laws_FnExactConfirm.l69 y8 y19 := by
  rw [laws_FnExactConfirm.r69]
  rfl
theorem laws_FnExactConfirm.r47 (x0 : TWitness) (x1 : List TSigned) (y5 : TRWitnessSigBool) (y8 : TRWitnessSigBool) : V.normK 47 ([1, 2, 6, 7, 8, 11], []) (V.joinF laws_FnExactConfirm.E Tryz.f5.ntmps [1, 1, 1, 1, 1, 1, 1, 1, 1, 1, 1, 1, 1, 1, 1, 1] [] (V.codeOf Tryz.f5) (laws_FnExactConfirm.kt x0 x1)) (laws_FnExactConfirm.s47 x0 x1 y5 y8) = laws_FnExactConfirm.g47 x0 x1 y5 y8 (fun y8 y19 => V.normK 69 ([11, 15], []) (V.joinF laws_FnExactConfirm.E Tryz.f5.ntmps [1, 1, 1, 1, 1, 1, 1, 1, 1, 1, 1, 1, 1, 1, 1, 1, 1, 1, 1, 1, 1, 1, 1, 1] [] (V.codeOf Tryz.f5) (laws_FnExactConfirm.kt x0 x1)) (laws_FnExactConfirm.s69 y8 y19)) := by kernel_rfl
theorem laws_FnExactConfirm.e47 (x0 : TWitness) (x1 : List TSigned) (y5 : TRWitnessSigBool) (y8 : TRWitnessSigBool) : V.normK 47 ([1, 2, 6, 7, 8, 11], []) (V.joinF laws_FnExactConfirm.E Tryz.f5.ntmps [1, 1, 1, 1, 1, 1, 1, 1, 1, 1, 1, 1, 1, 1, 1, 1] [] (V.codeOf Tryz.f5) (laws_FnExactConfirm.kt x0 x1)) (laws_FnExactConfirm.s47 x0 x1 y5 y8) = laws_FnExactConfirm.l47 x0 x1 y5 y8 := by
  rw [laws_FnExactConfirm.r47]
  simp only [laws_FnExactConfirm.e69]
  rfl
theorem laws_FnExactConfirm.r29 (x0 : TWitness) (x1 : List TSigned) (y5 : TRWitnessSigBool) (y6 : TWitness) (y7 : List TSigned) (y8 : TRWitnessSigBool) : V.normK 29 ([1, 2, 6, 7, 8, 9, 10, 11, 12, 13], []) (V.joinF laws_FnExactConfirm.E Tryz.f5.ntmps [1, 1, 1, 1, 1, 1, 1, 1, 1, 1] [] (V.codeOf Tryz.f5) (laws_FnExactConfirm.kt x0 x1)) (laws_FnExactConfirm.s29 x0 x1 y5 y6 y7 y8) = laws_FnExactConfirm.g29 x0 x1 y5 y6 y7 y8 (fun y5 y8 => V.normK 47 ([1, 2, 6, 7, 8, 11], []) (V.joinF laws_FnExactConfirm.E Tryz.f5.ntmps [1, 1, 1, 1, 1, 1, 1, 1, 1, 1, 1, 1, 1, 1, 1, 1] [] (V.codeOf Tryz.f5) (laws_FnExactConfirm.kt x0 x1)) (laws_FnExactConfirm.s47 x0 x1 y5 y8)) := by kernel_rfl
theorem laws_FnExactConfirm.e29 (x0 : TWitness) (x1 : List TSigned) (y5 : TRWitnessSigBool) (y6 : TWitness) (y7 : List TSigned) (y8 : TRWitnessSigBool) : V.normK 29 ([1, 2, 6, 7, 8, 9, 10, 11, 12, 13], []) (V.joinF laws_FnExactConfirm.E Tryz.f5.ntmps [1, 1, 1, 1, 1, 1, 1, 1, 1, 1] [] (V.codeOf Tryz.f5) (laws_FnExactConfirm.kt x0 x1)) (laws_FnExactConfirm.s29 x0 x1 y5 y6 y7 y8) = laws_FnExactConfirm.l29 x0 x1 y5 y6 y7 y8 := by
  rw [laws_FnExactConfirm.r29]
  simp only [laws_FnExactConfirm.e47]
  rfl
theorem laws_FnExactConfirm.v (x0 : TWitness) (x1 : List TSigned) : V.evBody laws_FnExactConfirm.E laws_FnExactConfirm.con Tryz.f5 ((x0.1, x0.2, x1) : Int × List TMark × List TSigned) = laws_FnExactConfirm.b x0 x1 (fun y5 y6 y7 y8 => V.normK 29 ([1, 2, 6, 7, 8, 9, 10, 11, 12, 13], []) (V.joinF laws_FnExactConfirm.E Tryz.f5.ntmps [1, 1, 1, 1, 1, 1, 1, 1, 1, 1] [] (V.codeOf Tryz.f5) (laws_FnExactConfirm.kt x0 x1)) (laws_FnExactConfirm.s29 x0 x1 y5 y6 y7 y8)) := by kernel_rfl
theorem laws_FnExactConfirm.eq (x0 : TWitness) (x1 : List TSigned) : V.evBody laws_FnExactConfirm.E laws_FnExactConfirm.con Tryz.f5 ((x0.1, x0.2, x1) : Int × List TMark × List TSigned) = laws_FnExactConfirm x0 x1 := by
  rw [laws_FnExactConfirm.v]
  simp only [laws_FnExactConfirm.e29]
  rfl
theorem laws_FnExactConfirm.ok : V.Valid Tryz.prog 5 laws_FnExactConfirm.con :=
  V.fo (V.tab_cons laws_szSignedS.ok (V.tab_cons laws_toSignedS.ok (V.tab_cons laws_eqSignedS.ok (V.tab_cons laws_markSignedS.ok (V.tab_cons laws_szWitness.ok (V.tab_cons spec_Confirm.ok (V.tab_cons laws_toWitness.ok (V.tab_cons impl_Confirm.ok (V.tab_cons laws_eqWitness.ok (V.tab_cons laws_eqSig.ok (V.tab_cons laws_markWitness.ok (V.tab_cons laws_heldWitness.ok V.tab_nil)))))))))))) Tryz.func5 (by kernel_rfl) (fun x y h => (show V.evBody laws_FnExactConfirm.E laws_FnExactConfirm.con Tryz.f5 x = _ from laws_FnExactConfirm.eq (x.1, x.2.1) x.2.2).trans (V.cfl (by kernel_rfl) h))
end Go.Proofs.YtpioofmdambjoaaGreat
