/- What the functions compute: printed from their code by the evaluator. -/
import Derived.Test.YtpioofmdambjoaaGreatVE
namespace Go.Proofs.YtpioofmdambjoaaGreat
set_option linter.unusedVariables false
abbrev TKeys : Type := List Int × Int
abbrev dKeys : TKeys := ([], (0 : Int))
abbrev THead : Type := Int × Int × Int × Int × Int × Int × Int × Int × List Int × Int × List Int × Int × Int × List Int × Int × Bool
abbrev dHead : THead := ((0 : Int), (0 : Int), (0 : Int), (0 : Int), (0 : Int), (0 : Int), (0 : Int), (0 : Int), [], (0 : Int), [], (0 : Int), (0 : Int), [], (0 : Int), false)
def Head_Zone (x : THead) : Int := x.1
def Head_Epoch (x : THead) : Int := x.2.1
def Head_Kind (x : THead) : Int := x.2.2.1
def Head_Time (x : THead) : Int := x.2.2.2.1
def Head_Until (x : THead) : Int := x.2.2.2.2.1
def Head_Count (x : THead) : Int := x.2.2.2.2.2.1
def Head_Root (x : THead) : Int := x.2.2.2.2.2.2.1
def Head_Prev (x : THead) : Int := x.2.2.2.2.2.2.2.1
def Head_Keys (x : THead) : TKeys := (x.2.2.2.2.2.2.2.2.1, x.2.2.2.2.2.2.2.2.2.1)
def Head_Heirs (x : THead) : TKeys := (x.2.2.2.2.2.2.2.2.2.2.1, x.2.2.2.2.2.2.2.2.2.2.2.1)
def Head_Wait (x : THead) : Int := x.2.2.2.2.2.2.2.2.2.2.2.2.1
def Head_Judge (x : THead) : TKeys := (x.2.2.2.2.2.2.2.2.2.2.2.2.2.1, x.2.2.2.2.2.2.2.2.2.2.2.2.2.2.1)
def Head_Frozen (x : THead) : Bool := x.2.2.2.2.2.2.2.2.2.2.2.2.2.2.2
def Head_mk (a0 : Int) (a1 : Int) (a2 : Int) (a3 : Int) (a4 : Int) (a5 : Int) (a6 : Int) (a7 : Int) (a8 : TKeys) (a9 : TKeys) (a10 : Int) (a11 : TKeys) (a12 : Bool) : THead := (a0, a1, a2, a3, a4, a5, a6, a7, a8.1, a8.2, a9.1, a9.2, a10, a11.1, a11.2, a12)
theorem Head_s : ∀ (a0 : Int) (a1 : Int) (a2 : Int) (a3 : Int) (a4 : Int) (a5 : Int) (a6 : Int) (a7 : Int) (a8 : TKeys) (a9 : TKeys) (a10 : Int) (a11 : TKeys) (a12 : Bool), Head_Zone (Head_mk a0 a1 a2 a3 a4 a5 a6 a7 a8 a9 a10 a11 a12) = a0 ∧ Head_Epoch (Head_mk a0 a1 a2 a3 a4 a5 a6 a7 a8 a9 a10 a11 a12) = a1 ∧ Head_Kind (Head_mk a0 a1 a2 a3 a4 a5 a6 a7 a8 a9 a10 a11 a12) = a2 ∧ Head_Time (Head_mk a0 a1 a2 a3 a4 a5 a6 a7 a8 a9 a10 a11 a12) = a3 ∧ Head_Until (Head_mk a0 a1 a2 a3 a4 a5 a6 a7 a8 a9 a10 a11 a12) = a4 ∧ Head_Count (Head_mk a0 a1 a2 a3 a4 a5 a6 a7 a8 a9 a10 a11 a12) = a5 ∧ Head_Root (Head_mk a0 a1 a2 a3 a4 a5 a6 a7 a8 a9 a10 a11 a12) = a6 ∧ Head_Prev (Head_mk a0 a1 a2 a3 a4 a5 a6 a7 a8 a9 a10 a11 a12) = a7 ∧ Head_Keys (Head_mk a0 a1 a2 a3 a4 a5 a6 a7 a8 a9 a10 a11 a12) = a8 ∧ Head_Heirs (Head_mk a0 a1 a2 a3 a4 a5 a6 a7 a8 a9 a10 a11 a12) = a9 ∧ Head_Wait (Head_mk a0 a1 a2 a3 a4 a5 a6 a7 a8 a9 a10 a11 a12) = a10 ∧ Head_Judge (Head_mk a0 a1 a2 a3 a4 a5 a6 a7 a8 a9 a10 a11 a12) = a11 ∧ Head_Frozen (Head_mk a0 a1 a2 a3 a4 a5 a6 a7 a8 a9 a10 a11 a12) = a12 := fun a0 a1 a2 a3 a4 a5 a6 a7 a8 a9 a10 a11 a12 => ⟨rfl, rfl, rfl, rfl, rfl, rfl, rfl, rfl, rfl, rfl, rfl, rfl, rfl⟩
theorem Head_e (x : THead) : Head_mk (Head_Zone x) (Head_Epoch x) (Head_Kind x) (Head_Time x) (Head_Until x) (Head_Count x) (Head_Root x) (Head_Prev x) (Head_Keys x) (Head_Heirs x) (Head_Wait x) (Head_Judge x) (Head_Frozen x) = x := id rfl
theorem Head_d : Head_Zone dHead = (0 : Int) ∧ Head_Epoch dHead = (0 : Int) ∧ Head_Kind dHead = (0 : Int) ∧ Head_Time dHead = (0 : Int) ∧ Head_Until dHead = (0 : Int) ∧ Head_Count dHead = (0 : Int) ∧ Head_Root dHead = (0 : Int) ∧ Head_Prev dHead = (0 : Int) ∧ Head_Keys dHead = dKeys ∧ Head_Heirs dHead = dKeys ∧ Head_Wait dHead = (0 : Int) ∧ Head_Judge dHead = dKeys ∧ Head_Frozen dHead = false := ⟨rfl, rfl, rfl, rfl, rfl, rfl, rfl, rfl, rfl, rfl, rfl, rfl, rfl⟩
abbrev TSig : Type := Int × Int
abbrev dSig : TSig := ((0 : Int), (0 : Int))
abbrev TSigned : Type := Int × Int × Int × Int × Int × Int × Int × Int × List Int × Int × List Int × Int × Int × List Int × Int × Bool × List TSig
abbrev dSigned : TSigned := ((0 : Int), (0 : Int), (0 : Int), (0 : Int), (0 : Int), (0 : Int), (0 : Int), (0 : Int), [], (0 : Int), [], (0 : Int), (0 : Int), [], (0 : Int), false, [])
def Signed_Head (x : TSigned) : THead := (x.1, x.2.1, x.2.2.1, x.2.2.2.1, x.2.2.2.2.1, x.2.2.2.2.2.1, x.2.2.2.2.2.2.1, x.2.2.2.2.2.2.2.1, x.2.2.2.2.2.2.2.2.1, x.2.2.2.2.2.2.2.2.2.1, x.2.2.2.2.2.2.2.2.2.2.1, x.2.2.2.2.2.2.2.2.2.2.2.1, x.2.2.2.2.2.2.2.2.2.2.2.2.1, x.2.2.2.2.2.2.2.2.2.2.2.2.2.1, x.2.2.2.2.2.2.2.2.2.2.2.2.2.2.1, x.2.2.2.2.2.2.2.2.2.2.2.2.2.2.2.1)
def Signed_Sigs (x : TSigned) : List TSig := x.2.2.2.2.2.2.2.2.2.2.2.2.2.2.2.2
def Signed_mk (a0 : THead) (a1 : List TSig) : TSigned := (a0.1, a0.2.1, a0.2.2.1, a0.2.2.2.1, a0.2.2.2.2.1, a0.2.2.2.2.2.1, a0.2.2.2.2.2.2.1, a0.2.2.2.2.2.2.2.1, a0.2.2.2.2.2.2.2.2.1, a0.2.2.2.2.2.2.2.2.2.1, a0.2.2.2.2.2.2.2.2.2.2.1, a0.2.2.2.2.2.2.2.2.2.2.2.1, a0.2.2.2.2.2.2.2.2.2.2.2.2.1, a0.2.2.2.2.2.2.2.2.2.2.2.2.2.1, a0.2.2.2.2.2.2.2.2.2.2.2.2.2.2.1, a0.2.2.2.2.2.2.2.2.2.2.2.2.2.2.2, a1)
theorem Signed_s : ∀ (a0 : THead) (a1 : List TSig), Signed_Head (Signed_mk a0 a1) = a0 ∧ Signed_Sigs (Signed_mk a0 a1) = a1 := fun a0 a1 => ⟨rfl, rfl⟩
theorem Signed_e (x : TSigned) : Signed_mk (Signed_Head x) (Signed_Sigs x) = x := id rfl
theorem Signed_d : Signed_Head dSigned = dHead ∧ Signed_Sigs dSigned = [] := ⟨rfl, rfl⟩
abbrev TEntry : Type := ByteArray × Int × Int × List ByteArray
abbrev dEntry : TEntry := ((⟨#[]⟩ : ByteArray), (0 : Int), (0 : Int), [])
abbrev TZone : Type := List TSigned × List TEntry
abbrev dZone : TZone := ([], [])
abbrev TServer : Type := List TZone × Int
abbrev dServer : TServer := ([], (0 : Int))
abbrev TRHeadBool : Type := Int × Int × Int × Int × Int × Int × Int × Int × List Int × Int × List Int × Int × Int × List Int × Int × Bool × Bool
abbrev dRHeadBool : TRHeadBool := ((0 : Int), (0 : Int), (0 : Int), (0 : Int), (0 : Int), (0 : Int), (0 : Int), (0 : Int), [], (0 : Int), [], (0 : Int), (0 : Int), [], (0 : Int), false, false)
def RHeadBool_r0 (x : TRHeadBool) : THead := (x.1, x.2.1, x.2.2.1, x.2.2.2.1, x.2.2.2.2.1, x.2.2.2.2.2.1, x.2.2.2.2.2.2.1, x.2.2.2.2.2.2.2.1, x.2.2.2.2.2.2.2.2.1, x.2.2.2.2.2.2.2.2.2.1, x.2.2.2.2.2.2.2.2.2.2.1, x.2.2.2.2.2.2.2.2.2.2.2.1, x.2.2.2.2.2.2.2.2.2.2.2.2.1, x.2.2.2.2.2.2.2.2.2.2.2.2.2.1, x.2.2.2.2.2.2.2.2.2.2.2.2.2.2.1, x.2.2.2.2.2.2.2.2.2.2.2.2.2.2.2.1)
def RHeadBool_r1 (x : TRHeadBool) : Bool := x.2.2.2.2.2.2.2.2.2.2.2.2.2.2.2.2
def RHeadBool_mk (a0 : THead) (a1 : Bool) : TRHeadBool := (a0.1, a0.2.1, a0.2.2.1, a0.2.2.2.1, a0.2.2.2.2.1, a0.2.2.2.2.2.1, a0.2.2.2.2.2.2.1, a0.2.2.2.2.2.2.2.1, a0.2.2.2.2.2.2.2.2.1, a0.2.2.2.2.2.2.2.2.2.1, a0.2.2.2.2.2.2.2.2.2.2.1, a0.2.2.2.2.2.2.2.2.2.2.2.1, a0.2.2.2.2.2.2.2.2.2.2.2.2.1, a0.2.2.2.2.2.2.2.2.2.2.2.2.2.1, a0.2.2.2.2.2.2.2.2.2.2.2.2.2.2.1, a0.2.2.2.2.2.2.2.2.2.2.2.2.2.2.2, a1)
theorem RHeadBool_s : ∀ (a0 : THead) (a1 : Bool), RHeadBool_r0 (RHeadBool_mk a0 a1) = a0 ∧ RHeadBool_r1 (RHeadBool_mk a0 a1) = a1 := fun a0 a1 => ⟨rfl, rfl⟩
theorem RHeadBool_e (x : TRHeadBool) : RHeadBool_mk (RHeadBool_r0 x) (RHeadBool_r1 x) = x := id rfl
theorem RHeadBool_d : RHeadBool_r0 dRHeadBool = dHead ∧ RHeadBool_r1 dRHeadBool = false := ⟨rfl, rfl⟩
abbrev TRZoneInt : Type := List TSigned × List TEntry × Int
abbrev dRZoneInt : TRZoneInt := ([], [], (0 : Int))
def RZoneInt_r0 (x : TRZoneInt) : TZone := (x.1, x.2.1)
def RZoneInt_r1 (x : TRZoneInt) : Int := x.2.2
def RZoneInt_mk (a0 : TZone) (a1 : Int) : TRZoneInt := (a0.1, a0.2, a1)
theorem RZoneInt_s : ∀ (a0 : TZone) (a1 : Int), RZoneInt_r0 (RZoneInt_mk a0 a1) = a0 ∧ RZoneInt_r1 (RZoneInt_mk a0 a1) = a1 := fun a0 a1 => ⟨rfl, rfl⟩
theorem RZoneInt_e (x : TRZoneInt) : RZoneInt_mk (RZoneInt_r0 x) (RZoneInt_r1 x) = x := id rfl
theorem RZoneInt_d : RZoneInt_r0 dRZoneInt = dZone ∧ RZoneInt_r1 dRZoneInt = (0 : Int) := ⟨rfl, rfl⟩
abbrev TRServerBool : Type := List TZone × Int × Bool
abbrev dRServerBool : TRServerBool := ([], (0 : Int), false)
def RServerBool_r0 (x : TRServerBool) : TServer := (x.1, x.2.1)
def RServerBool_r1 (x : TRServerBool) : Bool := x.2.2
def RServerBool_mk (a0 : TServer) (a1 : Bool) : TRServerBool := (a0.1, a0.2, a1)
theorem RServerBool_s : ∀ (a0 : TServer) (a1 : Bool), RServerBool_r0 (RServerBool_mk a0 a1) = a0 ∧ RServerBool_r1 (RServerBool_mk a0 a1) = a1 := fun a0 a1 => ⟨rfl, rfl⟩
theorem RServerBool_e (x : TRServerBool) : RServerBool_mk (RServerBool_r0 x) (RServerBool_r1 x) = x := id rfl
theorem RServerBool_d : RServerBool_r0 dRServerBool = dServer ∧ RServerBool_r1 dRServerBool = false := ⟨rfl, rfl⟩
noncomputable def zq103 (x0 : List Int) (x1 : Int) : Option Int :=
  bif decide ((IntKind.i64.wrap (x1 - (x0.length : Int))) < (0 : Int)) then
  some (-1 : Int)
else some (IntKind.i64.wrap (x1 - (x0.length : Int)))
noncomputable def zq104 (x0 : TKeys) (x1 : Int) : Option Int :=
  (zq103 x0.1 x1).bind fun y1 =>
  bif decide (y1 < (0 : Int)) then
    some (-1 : Int)
  else some y1
noncomputable def zq102 (x0 : THead) (x1 : Int) : Option Int :=
  (zq104 (Head_Keys x0) x1).bind fun y1 =>
  bif decide (y1 < (0 : Int)) then
    some (-1 : Int)
  else
    (zq104 (Head_Heirs x0) y1).bind fun y2 =>
      bif decide (y2 < (0 : Int)) then
        some (-1 : Int)
      else
        (zq104 (Head_Judge x0) y2).bind fun y3 =>
          bif decide (y3 < (0 : Int)) then
            some (-1 : Int)
          else some y3
noncomputable def zq106 (x0 : List TSig) (x1 : Int) : Option Int :=
  bif decide ((IntKind.i64.wrap (x1 - (x0.length : Int))) < (0 : Int)) then
  some (-1 : Int)
else some (IntKind.i64.wrap (x1 - (x0.length : Int)))
noncomputable def zq107 (x0 : TSigned) (x1 : Int) : Option Int :=
  (zq102 (Signed_Head x0) x1).bind fun y1 =>
  bif decide (y1 < (0 : Int)) then
    some (-1 : Int)
  else
    (zq106 (Signed_Sigs x0) y1).bind fun y2 =>
      bif decide (y2 < (0 : Int)) then
        some (-1 : Int)
      else some y2
noncomputable abbrev zq108.g10 (x0 : List TSigned) (r10 : Int → Int → Option Int) (v10_1 : Int) (v10_2 : Int) : Option Int :=
  bif decide (v10_2 < (x0.length : Int)) then
  bif decide (0 ≤ v10_2) then
    bif decide (v10_2 < (x0.length : Int)) then
      (zq107 (x0.getD v10_2.toNat dSigned) v10_1).bind fun y1 =>
        bif decide (y1 < (0 : Int)) then
          some (-1 : Int)
        else r10 y1 (IntKind.i64.wrap (v10_2 + (1 : Int)))
    else none
  else none
else some v10_1
noncomputable def zq108.l10 (x0 : List TSigned) (n : Nat) : Int → Int → Option Int :=
  V.iter (fun (r10 : Int → Int → Option Int) => fun v10_1 v10_2 => zq108.g10 x0 r10 v10_1 v10_2) (fun _ _ => none) n
theorem zq108.u10 (x0 : List TSigned) (n : Nat) (v10_1 : Int) (v10_2 : Int) : zq108.l10 x0 (n + 1) v10_1 v10_2 = zq108.g10 x0 (zq108.l10 x0 n) v10_1 v10_2 := rfl
noncomputable abbrev zq108.b (x0 : List TSigned) (x1 : Int) (L10 : Int → Int → Option Int) : Option Int :=
  bif decide ((IntKind.i64.wrap (x1 - (x0.length : Int))) < (0 : Int)) then
  some (-1 : Int)
else L10 (IntKind.i64.wrap (x1 - (x0.length : Int))) (0 : Int)
noncomputable def zq108 (x0 : List TSigned) (x1 : Int) : Option Int :=
  zq108.b x0 x1 (zq108.l10 x0 V.KK)
noncomputable abbrev zq109.g10 (x0 : List ByteArray) (r10 : Int → Int → Option Int) (v10_1 : Int) (v10_2 : Int) : Option Int :=
  bif decide (v10_2 < (x0.length : Int)) then
  bif decide (0 ≤ v10_2) then
    bif decide (v10_2 < (x0.length : Int)) then
      bif decide ((IntKind.i64.wrap (v10_1 - ((x0.getD v10_2.toNat (⟨#[]⟩ : ByteArray)).size : Int))) < (0 : Int)) then
        some (-1 : Int)
      else r10 (IntKind.i64.wrap (v10_1 - ((x0.getD v10_2.toNat (⟨#[]⟩ : ByteArray)).size : Int))) (IntKind.i64.wrap (v10_2 + (1 : Int)))
    else none
  else none
else some v10_1
noncomputable def zq109.l10 (x0 : List ByteArray) (n : Nat) : Int → Int → Option Int :=
  V.iter (fun (r10 : Int → Int → Option Int) => fun v10_1 v10_2 => zq109.g10 x0 r10 v10_1 v10_2) (fun _ _ => none) n
theorem zq109.u10 (x0 : List ByteArray) (n : Nat) (v10_1 : Int) (v10_2 : Int) : zq109.l10 x0 (n + 1) v10_1 v10_2 = zq109.g10 x0 (zq109.l10 x0 n) v10_1 v10_2 := rfl
noncomputable abbrev zq109.b (x0 : List ByteArray) (x1 : Int) (L10 : Int → Int → Option Int) : Option Int :=
  bif decide ((IntKind.i64.wrap (x1 - (x0.length : Int))) < (0 : Int)) then
  some (-1 : Int)
else L10 (IntKind.i64.wrap (x1 - (x0.length : Int))) (0 : Int)
noncomputable def zq109 (x0 : List ByteArray) (x1 : Int) : Option Int :=
  zq109.b x0 x1 (zq109.l10 x0 V.KK)
noncomputable def zq100 (x0 : TEntry) (x1 : Int) : Option Int :=
  bif decide ((IntKind.i64.wrap (x1 - (x0.1.size : Int))) < (0 : Int)) then
  some (-1 : Int)
else
  (zq109 x0.2.2.2 (IntKind.i64.wrap (x1 - (x0.1.size : Int)))).bind fun y1 =>
    bif decide (y1 < (0 : Int)) then
      some (-1 : Int)
    else some y1
noncomputable abbrev zq101.g10 (x0 : List TEntry) (r10 : Int → Int → Option Int) (v10_1 : Int) (v10_2 : Int) : Option Int :=
  bif decide (v10_2 < (x0.length : Int)) then
  bif decide (0 ≤ v10_2) then
    bif decide (v10_2 < (x0.length : Int)) then
      (zq100 (x0.getD v10_2.toNat dEntry) v10_1).bind fun y1 =>
        bif decide (y1 < (0 : Int)) then
          some (-1 : Int)
        else r10 y1 (IntKind.i64.wrap (v10_2 + (1 : Int)))
    else none
  else none
else some v10_1
noncomputable def zq101.l10 (x0 : List TEntry) (n : Nat) : Int → Int → Option Int :=
  V.iter (fun (r10 : Int → Int → Option Int) => fun v10_1 v10_2 => zq101.g10 x0 r10 v10_1 v10_2) (fun _ _ => none) n
theorem zq101.u10 (x0 : List TEntry) (n : Nat) (v10_1 : Int) (v10_2 : Int) : zq101.l10 x0 (n + 1) v10_1 v10_2 = zq101.g10 x0 (zq101.l10 x0 n) v10_1 v10_2 := rfl
noncomputable abbrev zq101.b (x0 : List TEntry) (x1 : Int) (L10 : Int → Int → Option Int) : Option Int :=
  bif decide ((IntKind.i64.wrap (x1 - (x0.length : Int))) < (0 : Int)) then
  some (-1 : Int)
else L10 (IntKind.i64.wrap (x1 - (x0.length : Int))) (0 : Int)
noncomputable def zq101 (x0 : List TEntry) (x1 : Int) : Option Int :=
  zq101.b x0 x1 (zq101.l10 x0 V.KK)
noncomputable def zq110 (x0 : TZone) (x1 : Int) : Option Int :=
  (zq108 x0.1 x1).bind fun y1 =>
  bif decide (y1 < (0 : Int)) then
    some (-1 : Int)
  else
    (zq101 x0.2 y1).bind fun y2 =>
      bif decide (y2 < (0 : Int)) then
        some (-1 : Int)
      else some y2
noncomputable abbrev zq111.g10 (x0 : List TZone) (r10 : Int → Int → Option Int) (v10_1 : Int) (v10_2 : Int) : Option Int :=
  bif decide (v10_2 < (x0.length : Int)) then
  bif decide (0 ≤ v10_2) then
    bif decide (v10_2 < (x0.length : Int)) then
      (zq110 (x0.getD v10_2.toNat dZone) v10_1).bind fun y1 =>
        bif decide (y1 < (0 : Int)) then
          some (-1 : Int)
        else r10 y1 (IntKind.i64.wrap (v10_2 + (1 : Int)))
    else none
  else none
else some v10_1
noncomputable def zq111.l10 (x0 : List TZone) (n : Nat) : Int → Int → Option Int :=
  V.iter (fun (r10 : Int → Int → Option Int) => fun v10_1 v10_2 => zq111.g10 x0 r10 v10_1 v10_2) (fun _ _ => none) n
theorem zq111.u10 (x0 : List TZone) (n : Nat) (v10_1 : Int) (v10_2 : Int) : zq111.l10 x0 (n + 1) v10_1 v10_2 = zq111.g10 x0 (zq111.l10 x0 n) v10_1 v10_2 := rfl
noncomputable abbrev zq111.b (x0 : List TZone) (x1 : Int) (L10 : Int → Int → Option Int) : Option Int :=
  bif decide ((IntKind.i64.wrap (x1 - (x0.length : Int))) < (0 : Int)) then
  some (-1 : Int)
else L10 (IntKind.i64.wrap (x1 - (x0.length : Int))) (0 : Int)
noncomputable def zq111 (x0 : List TZone) (x1 : Int) : Option Int :=
  zq111.b x0 x1 (zq111.l10 x0 V.KK)
noncomputable def zq105 (x0 : TServer) (x1 : Int) : Option Int :=
  (zq111 x0.1 x1).bind fun y1 =>
  bif decide (y1 < (0 : Int)) then
    some (-1 : Int)
  else some y1
noncomputable abbrev zq115.g6 (x0 : List Int) (r6 : Int → (List Int) → Option (List Int)) (v6_1 : Int) (v6_2 : List Int) : Option (List Int) :=
  bif decide (v6_1 < (x0.length : Int)) then
  bif decide (0 ≤ v6_1) then
    bif decide (v6_1 < (x0.length : Int)) then
      bif decide (0 ≤ v6_1) then
        bif decide (v6_1 < (v6_2.length : Int)) then
          r6 (IntKind.i64.wrap (v6_1 + (1 : Int))) (v6_2.set v6_1.toNat (x0.getD v6_1.toNat (0 : Int)))
        else none
      else none
    else none
  else none
else some v6_2
noncomputable def zq115.l6 (x0 : List Int) (n : Nat) : Int → (List Int) → Option (List Int) :=
  V.iter (fun (r6 : Int → (List Int) → Option (List Int)) => fun v6_1 v6_2 => zq115.g6 x0 r6 v6_1 v6_2) (fun _ _ => none) n
theorem zq115.u6 (x0 : List Int) (n : Nat) (v6_1 : Int) (v6_2 : List Int) : zq115.l6 x0 (n + 1) v6_1 v6_2 = zq115.g6 x0 (zq115.l6 x0 n) v6_1 v6_2 := rfl
noncomputable abbrev zq115.b (x0 : List Int) (L6 : Int → (List Int) → Option (List Int)) : Option (List Int) :=
  bif ((x0.length : Int) == (x0.length : Int)) then
  bif decide (0 ≤ (x0.length : Int)) then
    bif decide ((x0.length : Int) < (68719476736 : Int)) then
      L6 (0 : Int) (List.replicate ((x0.length : Int).toNat) (0 : Int))
    else none
  else none
else none
noncomputable def zq115 (x0 : List Int) : Option (List Int) :=
  zq115.b x0 (zq115.l6 x0 V.KK)
noncomputable def zq116 (x0 : TKeys) : Option TKeys :=
  (zq115 x0.1).bind fun y1 =>
  some (y1, x0.2)
noncomputable def zq114 (x0 : THead) : Option THead :=
  (zq116 (Head_Keys x0)).bind fun y1 =>
  (zq116 (Head_Heirs x0)).bind fun y2 =>
    (zq116 (Head_Judge x0)).bind fun y3 =>
      some (Head_mk (Head_Zone x0) (Head_Epoch x0) (Head_Kind x0) (Head_Time x0) (Head_Until x0) (Head_Count x0) (Head_Root x0) (Head_Prev x0) y1 y2 (Head_Wait x0) y3 (Head_Frozen x0))
noncomputable def zq118 (x0 : TSig) : Option TSig :=
  some x0
noncomputable abbrev zq119.g6 (x0 : List TSig) (r6 : Int → (List TSig) → Option (List TSig)) (v6_1 : Int) (v6_2 : List TSig) : Option (List TSig) :=
  bif decide (v6_1 < (x0.length : Int)) then
  bif decide (0 ≤ v6_1) then
    bif decide (v6_1 < (x0.length : Int)) then
      (zq118 (x0.getD v6_1.toNat dSig)).bind fun y1 =>
        bif decide (0 ≤ v6_1) then
          bif decide (v6_1 < (v6_2.length : Int)) then
            r6 (IntKind.i64.wrap (v6_1 + (1 : Int))) (v6_2.set v6_1.toNat y1)
          else none
        else none
    else none
  else none
else some v6_2
noncomputable def zq119.l6 (x0 : List TSig) (n : Nat) : Int → (List TSig) → Option (List TSig) :=
  V.iter (fun (r6 : Int → (List TSig) → Option (List TSig)) => fun v6_1 v6_2 => zq119.g6 x0 r6 v6_1 v6_2) (fun _ _ => none) n
theorem zq119.u6 (x0 : List TSig) (n : Nat) (v6_1 : Int) (v6_2 : List TSig) : zq119.l6 x0 (n + 1) v6_1 v6_2 = zq119.g6 x0 (zq119.l6 x0 n) v6_1 v6_2 := rfl
noncomputable abbrev zq119.b (x0 : List TSig) (L6 : Int → (List TSig) → Option (List TSig)) : Option (List TSig) :=
  bif ((x0.length : Int) == (x0.length : Int)) then
  bif decide (0 ≤ (x0.length : Int)) then
    bif decide ((x0.length : Int) < (68719476736 : Int)) then
      L6 (0 : Int) (List.replicate ((x0.length : Int).toNat) dSig)
    else none
  else none
else none
noncomputable def zq119 (x0 : List TSig) : Option (List TSig) :=
  zq119.b x0 (zq119.l6 x0 V.KK)
noncomputable def zq120 (x0 : TSigned) : Option TSigned :=
  (zq114 (Signed_Head x0)).bind fun y1 =>
  (zq119 (Signed_Sigs x0)).bind fun y2 =>
    some (Signed_mk y1 y2)
noncomputable abbrev zq121.g6 (x0 : List TSigned) (r6 : Int → (List TSigned) → Option (List TSigned)) (v6_1 : Int) (v6_2 : List TSigned) : Option (List TSigned) :=
  bif decide (v6_1 < (x0.length : Int)) then
  bif decide (0 ≤ v6_1) then
    bif decide (v6_1 < (x0.length : Int)) then
      (zq120 (x0.getD v6_1.toNat dSigned)).bind fun y1 =>
        bif decide (0 ≤ v6_1) then
          bif decide (v6_1 < (v6_2.length : Int)) then
            r6 (IntKind.i64.wrap (v6_1 + (1 : Int))) (v6_2.set v6_1.toNat y1)
          else none
        else none
    else none
  else none
else some v6_2
noncomputable def zq121.l6 (x0 : List TSigned) (n : Nat) : Int → (List TSigned) → Option (List TSigned) :=
  V.iter (fun (r6 : Int → (List TSigned) → Option (List TSigned)) => fun v6_1 v6_2 => zq121.g6 x0 r6 v6_1 v6_2) (fun _ _ => none) n
theorem zq121.u6 (x0 : List TSigned) (n : Nat) (v6_1 : Int) (v6_2 : List TSigned) : zq121.l6 x0 (n + 1) v6_1 v6_2 = zq121.g6 x0 (zq121.l6 x0 n) v6_1 v6_2 := rfl
noncomputable abbrev zq121.b (x0 : List TSigned) (L6 : Int → (List TSigned) → Option (List TSigned)) : Option (List TSigned) :=
  bif ((x0.length : Int) == (x0.length : Int)) then
  bif decide (0 ≤ (x0.length : Int)) then
    bif decide ((x0.length : Int) < (68719476736 : Int)) then
      L6 (0 : Int) (List.replicate ((x0.length : Int).toNat) dSigned)
    else none
  else none
else none
noncomputable def zq121 (x0 : List TSigned) : Option (List TSigned) :=
  zq121.b x0 (zq121.l6 x0 V.KK)
noncomputable abbrev zq122.g6 (x0 : List ByteArray) (r6 : Int → (List ByteArray) → Option (List ByteArray)) (v6_1 : Int) (v6_2 : List ByteArray) : Option (List ByteArray) :=
  bif decide (v6_1 < (x0.length : Int)) then
  bif decide (0 ≤ v6_1) then
    bif decide (v6_1 < (x0.length : Int)) then
      bif decide (0 ≤ v6_1) then
        bif decide (v6_1 < (v6_2.length : Int)) then
          r6 (IntKind.i64.wrap (v6_1 + (1 : Int))) (v6_2.set v6_1.toNat (x0.getD v6_1.toNat (⟨#[]⟩ : ByteArray)))
        else none
      else none
    else none
  else none
else some v6_2
noncomputable def zq122.l6 (x0 : List ByteArray) (n : Nat) : Int → (List ByteArray) → Option (List ByteArray) :=
  V.iter (fun (r6 : Int → (List ByteArray) → Option (List ByteArray)) => fun v6_1 v6_2 => zq122.g6 x0 r6 v6_1 v6_2) (fun _ _ => none) n
theorem zq122.u6 (x0 : List ByteArray) (n : Nat) (v6_1 : Int) (v6_2 : List ByteArray) : zq122.l6 x0 (n + 1) v6_1 v6_2 = zq122.g6 x0 (zq122.l6 x0 n) v6_1 v6_2 := rfl
noncomputable abbrev zq122.b (x0 : List ByteArray) (L6 : Int → (List ByteArray) → Option (List ByteArray)) : Option (List ByteArray) :=
  bif ((x0.length : Int) == (x0.length : Int)) then
  bif decide (0 ≤ (x0.length : Int)) then
    bif decide ((x0.length : Int) < (68719476736 : Int)) then
      L6 (0 : Int) (List.replicate ((x0.length : Int).toNat) (⟨#[]⟩ : ByteArray))
    else none
  else none
else none
noncomputable def zq122 (x0 : List ByteArray) : Option (List ByteArray) :=
  zq122.b x0 (zq122.l6 x0 V.KK)
noncomputable def zq112 (x0 : TEntry) : Option TEntry :=
  (zq122 x0.2.2.2).bind fun y1 =>
  some (x0.1, x0.2.1, x0.2.2.1, y1)
noncomputable abbrev zq113.g6 (x0 : List TEntry) (r6 : Int → (List TEntry) → Option (List TEntry)) (v6_1 : Int) (v6_2 : List TEntry) : Option (List TEntry) :=
  bif decide (v6_1 < (x0.length : Int)) then
  bif decide (0 ≤ v6_1) then
    bif decide (v6_1 < (x0.length : Int)) then
      (zq112 (x0.getD v6_1.toNat dEntry)).bind fun y1 =>
        bif decide (0 ≤ v6_1) then
          bif decide (v6_1 < (v6_2.length : Int)) then
            r6 (IntKind.i64.wrap (v6_1 + (1 : Int))) (v6_2.set v6_1.toNat y1)
          else none
        else none
    else none
  else none
else some v6_2
noncomputable def zq113.l6 (x0 : List TEntry) (n : Nat) : Int → (List TEntry) → Option (List TEntry) :=
  V.iter (fun (r6 : Int → (List TEntry) → Option (List TEntry)) => fun v6_1 v6_2 => zq113.g6 x0 r6 v6_1 v6_2) (fun _ _ => none) n
theorem zq113.u6 (x0 : List TEntry) (n : Nat) (v6_1 : Int) (v6_2 : List TEntry) : zq113.l6 x0 (n + 1) v6_1 v6_2 = zq113.g6 x0 (zq113.l6 x0 n) v6_1 v6_2 := rfl
noncomputable abbrev zq113.b (x0 : List TEntry) (L6 : Int → (List TEntry) → Option (List TEntry)) : Option (List TEntry) :=
  bif ((x0.length : Int) == (x0.length : Int)) then
  bif decide (0 ≤ (x0.length : Int)) then
    bif decide ((x0.length : Int) < (68719476736 : Int)) then
      L6 (0 : Int) (List.replicate ((x0.length : Int).toNat) dEntry)
    else none
  else none
else none
noncomputable def zq113 (x0 : List TEntry) : Option (List TEntry) :=
  zq113.b x0 (zq113.l6 x0 V.KK)
noncomputable def zq123 (x0 : TZone) : Option TZone :=
  (zq121 x0.1).bind fun y1 =>
  (zq113 x0.2).bind fun y2 =>
    some (y1, y2)
noncomputable abbrev zq124.g6 (x0 : List TZone) (r6 : Int → (List TZone) → Option (List TZone)) (v6_1 : Int) (v6_2 : List TZone) : Option (List TZone) :=
  bif decide (v6_1 < (x0.length : Int)) then
  bif decide (0 ≤ v6_1) then
    bif decide (v6_1 < (x0.length : Int)) then
      (zq123 (x0.getD v6_1.toNat dZone)).bind fun y1 =>
        bif decide (0 ≤ v6_1) then
          bif decide (v6_1 < (v6_2.length : Int)) then
            r6 (IntKind.i64.wrap (v6_1 + (1 : Int))) (v6_2.set v6_1.toNat y1)
          else none
        else none
    else none
  else none
else some v6_2
noncomputable def zq124.l6 (x0 : List TZone) (n : Nat) : Int → (List TZone) → Option (List TZone) :=
  V.iter (fun (r6 : Int → (List TZone) → Option (List TZone)) => fun v6_1 v6_2 => zq124.g6 x0 r6 v6_1 v6_2) (fun _ _ => none) n
theorem zq124.u6 (x0 : List TZone) (n : Nat) (v6_1 : Int) (v6_2 : List TZone) : zq124.l6 x0 (n + 1) v6_1 v6_2 = zq124.g6 x0 (zq124.l6 x0 n) v6_1 v6_2 := rfl
noncomputable abbrev zq124.b (x0 : List TZone) (L6 : Int → (List TZone) → Option (List TZone)) : Option (List TZone) :=
  bif ((x0.length : Int) == (x0.length : Int)) then
  bif decide (0 ≤ (x0.length : Int)) then
    bif decide ((x0.length : Int) < (68719476736 : Int)) then
      L6 (0 : Int) (List.replicate ((x0.length : Int).toNat) dZone)
    else none
  else none
else none
noncomputable def zq124 (x0 : List TZone) : Option (List TZone) :=
  zq124.b x0 (zq124.l6 x0 V.KK)
noncomputable def zq117 (x0 : TServer) : Option TServer :=
  (zq124 x0.1).bind fun y1 =>
  some (y1, x0.2)
noncomputable def zq192 (x0 : TKeys) : Option TKeys :=
  bif decide (([] : List Int).length + x0.1.length < 68719476736) then
  some ([] ++ x0.1, x0.2)
else none
noncomputable def zq182 (x0 : THead) : Option THead :=
  (zq192 (Head_Keys x0)).bind fun y1 =>
  (zq192 (Head_Heirs x0)).bind fun y2 =>
    (zq192 (Head_Judge x0)).bind fun y3 =>
      some (Head_mk (Head_Zone x0) (Head_Epoch x0) (Head_Kind x0) (Head_Time x0) (Head_Until x0) (Head_Count x0) (Head_Root x0) (Head_Prev x0) y1 y2 (Head_Wait x0) y3 (Head_Frozen x0))
noncomputable def zq183 (x0 : TSigned) : Option TSigned :=
  (zq182 (Signed_Head x0)).bind fun y1 =>
  bif decide (([] : List TSig).length + (Signed_Sigs x0).length < 68719476736) then
    some (Signed_mk y1 ([] ++ (Signed_Sigs x0)))
  else none
noncomputable abbrev zq187.g6 (x0 : List TSigned) (r6 : Int → (List TSigned) → Option (List TSigned)) (v6_1 : Int) (v6_2 : List TSigned) : Option (List TSigned) :=
  bif decide (v6_1 < (x0.length : Int)) then
  bif decide (0 ≤ v6_1) then
    bif decide (v6_1 < (x0.length : Int)) then
      (zq183 (x0.getD v6_1.toNat dSigned)).bind fun y1 =>
        bif decide (v6_2.length + [y1].length < 68719476736) then
          r6 (IntKind.i64.wrap (v6_1 + (1 : Int))) (v6_2 ++ [y1])
        else none
    else none
  else none
else some v6_2
noncomputable def zq187.l6 (x0 : List TSigned) (n : Nat) : Int → (List TSigned) → Option (List TSigned) :=
  V.iter (fun (r6 : Int → (List TSigned) → Option (List TSigned)) => fun v6_1 v6_2 => zq187.g6 x0 r6 v6_1 v6_2) (fun _ _ => none) n
theorem zq187.u6 (x0 : List TSigned) (n : Nat) (v6_1 : Int) (v6_2 : List TSigned) : zq187.l6 x0 (n + 1) v6_1 v6_2 = zq187.g6 x0 (zq187.l6 x0 n) v6_1 v6_2 := rfl
noncomputable abbrev zq187.b (x0 : List TSigned) (L6 : Int → (List TSigned) → Option (List TSigned)) : Option (List TSigned) :=
  L6 (0 : Int) []
noncomputable def zq187 (x0 : List TSigned) : Option (List TSigned) :=
  zq187.b x0 (zq187.l6 x0 V.KK)
noncomputable def zq191 (x0 : List ByteArray) : Option (List ByteArray) :=
  bif decide (([] : List ByteArray).length + x0.length < 68719476736) then
  some ([] ++ x0)
else none
noncomputable def zq193 (x0 : TEntry) : Option TEntry :=
  (zq191 x0.2.2.2).bind fun y1 =>
  some (x0.1, x0.2.1, x0.2.2.1, y1)
noncomputable abbrev zq194.g6 (x0 : List TEntry) (r6 : Int → (List TEntry) → Option (List TEntry)) (v6_1 : Int) (v6_2 : List TEntry) : Option (List TEntry) :=
  bif decide (v6_1 < (x0.length : Int)) then
  bif decide (0 ≤ v6_1) then
    bif decide (v6_1 < (x0.length : Int)) then
      (zq193 (x0.getD v6_1.toNat dEntry)).bind fun y1 =>
        bif decide (v6_2.length + [y1].length < 68719476736) then
          r6 (IntKind.i64.wrap (v6_1 + (1 : Int))) (v6_2 ++ [y1])
        else none
    else none
  else none
else some v6_2
noncomputable def zq194.l6 (x0 : List TEntry) (n : Nat) : Int → (List TEntry) → Option (List TEntry) :=
  V.iter (fun (r6 : Int → (List TEntry) → Option (List TEntry)) => fun v6_1 v6_2 => zq194.g6 x0 r6 v6_1 v6_2) (fun _ _ => none) n
theorem zq194.u6 (x0 : List TEntry) (n : Nat) (v6_1 : Int) (v6_2 : List TEntry) : zq194.l6 x0 (n + 1) v6_1 v6_2 = zq194.g6 x0 (zq194.l6 x0 n) v6_1 v6_2 := rfl
noncomputable abbrev zq194.b (x0 : List TEntry) (L6 : Int → (List TEntry) → Option (List TEntry)) : Option (List TEntry) :=
  L6 (0 : Int) []
noncomputable def zq194 (x0 : List TEntry) : Option (List TEntry) :=
  zq194.b x0 (zq194.l6 x0 V.KK)
noncomputable def zq189 (x0 : TZone) : Option TZone :=
  (zq187 x0.1).bind fun y1 =>
  (zq194 x0.2).bind fun y2 =>
    some (y1, y2)
noncomputable abbrev zq190.g6 (x0 : TServer) (r6 : Int → (List TZone) → Option TServer) (v6_0 : Int) (v6_5 : List TZone) : Option TServer :=
  bif decide (v6_0 < (x0.1.length : Int)) then
  bif decide (0 ≤ v6_0) then
    bif decide (v6_0 < (x0.1.length : Int)) then
      (zq189 (x0.1.getD v6_0.toNat dZone)).bind fun y1 =>
        V.both (bif decide (v6_5.length + [y1].length < 68719476736) then
            r6 (IntKind.i64.wrap (v6_0 + (1 : Int))) (v6_5 ++ [y1])
          else none)
          (V.both (V.both (bif decide (v6_5.length + [y1].length < 68719476736) then
                r6 (IntKind.i64.wrap (v6_0 + (1 : Int))) (v6_5 ++ [y1])
              else none)
              (bif decide (v6_5.length + [y1].length < 68719476736) then
                r6 (IntKind.i64.wrap (v6_0 + (1 : Int))) (v6_5 ++ [y1])
              else none))
            (V.both (V.both (bif decide (v6_5.length + [y1].length < 68719476736) then
                  r6 (IntKind.i64.wrap (v6_0 + (1 : Int))) (v6_5 ++ [y1])
                else none)
                (V.both (bif decide (v6_5.length + [y1].length < 68719476736) then
                    r6 (IntKind.i64.wrap (v6_0 + (1 : Int))) (v6_5 ++ [y1])
                  else none)
                  (bif decide (v6_5.length + [y1].length < 68719476736) then
                    r6 (IntKind.i64.wrap (v6_0 + (1 : Int))) (v6_5 ++ [y1])
                  else none)))
              (V.both (V.both (bif decide (v6_5.length + [y1].length < 68719476736) then
                    r6 (IntKind.i64.wrap (v6_0 + (1 : Int))) (v6_5 ++ [y1])
                  else none)
                  (bif decide (v6_5.length + [y1].length < 68719476736) then
                    r6 (IntKind.i64.wrap (v6_0 + (1 : Int))) (v6_5 ++ [y1])
                  else none))
                (bif decide (v6_5.length + [y1].length < 68719476736) then
                  r6 (IntKind.i64.wrap (v6_0 + (1 : Int))) (v6_5 ++ [y1])
                else none))))
    else none
  else none
else some (v6_5, x0.2)
noncomputable def zq190.l6 (x0 : TServer) (n : Nat) : Int → (List TZone) → Option TServer :=
  V.iter (fun (r6 : Int → (List TZone) → Option TServer) => fun v6_0 v6_5 => zq190.g6 x0 r6 v6_0 v6_5) (fun _ _ => none) n
theorem zq190.u6 (x0 : TServer) (n : Nat) (v6_0 : Int) (v6_5 : List TZone) : zq190.l6 x0 (n + 1) v6_0 v6_5 = zq190.g6 x0 (zq190.l6 x0 n) v6_0 v6_5 := rfl
noncomputable abbrev zq190.b (x0 : TServer) (L6 : Int → (List TZone) → Option TServer) : Option TServer :=
  L6 (0 : Int) []
noncomputable def zq190 (x0 : TServer) : Option TServer :=
  zq190.b x0 (zq190.l6 x0 V.KK)
noncomputable def zq188 (x0 : Int) (x1 : Int) (x2 : Int) : Option Bool :=
  bif decide (x0 ≥ x1) then
  some (decide (x0 ≤ x2))
else some false
noncomputable abbrev zq154.g4 (x0 : TKeys) (r4 : Int → Option Bool) (v4_0 : Int) : Option Bool :=
  bif decide (v4_0 < (x0.1.length : Int)) then
  bif decide (0 ≤ v4_0) then
    bif decide (v4_0 < (x0.1.length : Int)) then
      (zq188 (x0.1.getD v4_0.toNat (0 : Int)) (1 : Int) (99 : Int)).bind fun y1 =>
        bif !y1 then
          some false
        else
          bif decide (v4_0 > (0 : Int)) then
            bif decide (0 ≤ (IntKind.i64.wrap (v4_0 - (1 : Int)))) then
              bif decide ((IntKind.i64.wrap (v4_0 - (1 : Int))) < (x0.1.length : Int)) then
                bif decide (0 ≤ v4_0) then
                  bif decide (v4_0 < (x0.1.length : Int)) then
                    bif decide ((x0.1.getD ((IntKind.i64.wrap (v4_0 - (1 : Int))).toNat) (0 : Int)) ≥ (x0.1.getD v4_0.toNat (0 : Int))) then
                      some false
                    else r4 (IntKind.i64.wrap (v4_0 + (1 : Int)))
                  else none
                else none
              else none
            else none
          else r4 (IntKind.i64.wrap (v4_0 + (1 : Int)))
    else none
  else none
else
  (zq188 (x0.1.length : Int) (1 : Int) (4 : Int)).bind fun y2 =>
    bif y2 then
      (zq188 x0.2 (1 : Int) (x0.1.length : Int)).bind fun y3 =>
        some y3
    else some false
noncomputable def zq154.l4 (x0 : TKeys) (n : Nat) : Int → Option Bool :=
  V.iter (fun (r4 : Int → Option Bool) => fun v4_0 => zq154.g4 x0 r4 v4_0) (fun _ => none) n
theorem zq154.u4 (x0 : TKeys) (n : Nat) (v4_0 : Int) : zq154.l4 x0 (n + 1) v4_0 = zq154.g4 x0 (zq154.l4 x0 n) v4_0 := rfl
noncomputable abbrev zq154.b (x0 : TKeys) (L4 : Int → Option Bool) : Option Bool :=
  L4 (0 : Int)
noncomputable def zq154 (x0 : TKeys) : Option Bool :=
  zq154.b x0 (zq154.l4 x0 V.KK)
noncomputable def zq170 (x0 : TKeys) : Option Bool :=
  bif x0.2 == (0 : Int) then
  some ((x0.1.length : Int) == (0 : Int))
else some false
noncomputable abbrev zq153.g21 (x0 : THead) : Option Bool :=
  (zq154 (Head_Judge x0)).bind fun y11 =>
  bif y11 then
    some true
  else
    (zq170 (Head_Judge x0)).bind fun y12 =>
      bif y12 then
        some (!(Head_Frozen x0))
      else some false
noncomputable def zq153.l21 (x0 : THead) : Option Bool :=
  zq153.g21 x0
noncomputable abbrev zq153.g11 (x0 : THead) (L21 : Option Bool) : Option Bool :=
  (zq170 (Head_Heirs x0)).bind fun y10 =>
  bif y10 then
    bif (Head_Wait x0) != (0 : Int) then
      some false
    else L21
  else
    (zq154 (Head_Heirs x0)).bind fun y13 =>
      bif !y13 then
        some false
      else
        (zq188 (Head_Wait x0) (1 : Int) (500 : Int)).bind fun y14 =>
          bif !y14 then
            some false
          else L21
noncomputable def zq153.l11 (x0 : THead) : Option Bool :=
  zq153.g11 x0 (zq153.l21 x0)
noncomputable abbrev zq153.g7 (x0 : THead) (L11 : Option Bool) : Option Bool :=
  (zq188 (Head_Time x0) (0 : Int) (100000 : Int)).bind fun y6 =>
  bif !y6 then
    some false
  else
    (zq188 (Head_Until x0) (Head_Time x0) (100000 : Int)).bind fun y7 =>
      bif !y7 then
        some false
      else
        bif decide ((IntKind.i64.wrap ((Head_Until x0) - (Head_Time x0))) > (200 : Int)) then
          some false
        else
          (zq188 (Head_Count x0) (0 : Int) (12 : Int)).bind fun y8 =>
            bif !y8 then
              some false
            else
              (zq154 (Head_Keys x0)).bind fun y9 =>
                bif !y9 then
                  some false
                else L11
noncomputable def zq153.l7 (x0 : THead) : Option Bool :=
  zq153.g7 x0 (zq153.l11 x0)
noncomputable abbrev zq153.b (x0 : THead) (L7 : Option Bool) : Option Bool :=
  (zq188 (Head_Zone x0) (0 : Int) (2147483646 : Int)).bind fun y1 =>
  bif !y1 then
    some false
  else
    (zq188 (Head_Root x0) (0 : Int) (2147483646 : Int)).bind fun y2 =>
      bif !y2 then
        some false
      else
        (zq188 (Head_Prev x0) (0 : Int) (2147483646 : Int)).bind fun y3 =>
          bif !y3 then
            some false
          else
            (zq188 (Head_Epoch x0) (0 : Int) (200 : Int)).bind fun y4 =>
              bif !y4 then
                some false
              else
                (zq188 (Head_Kind x0) (1 : Int) (3 : Int)).bind fun y5 =>
                  bif !y5 then
                    some false
                  else L7
noncomputable def zq153 (x0 : THead) : Option Bool :=
  zq153.b x0 (zq153.l7 x0)
noncomputable def zq162 (x0 : TKeys) : Option (List Int) :=
  bif decide ([x0.2, (x0.1.length : Int)].length + x0.1.length < 68719476736) then
  some ([x0.2, (x0.1.length : Int)] ++ x0.1)
else none
noncomputable def zq168 (x0 : Int) (x1 : Int) : Option Int :=
  (zq188 x1 (1 : Int) (1000000000000 : Int)).bind fun y1 =>
  bif !y1 then
    some (0 : Int)
  else
    bif (x1 == (0 : Int)) then
      none
    else
      bif (x1 == (0 : Int)) then
        none
      else some (Int.tmod (IntKind.i64.wrap ((Int.tmod x0 x1) + x1)) x1)
noncomputable abbrev zq147.g6 (x0 : List Int) (r6 : Int → Int → Option Int) (v6_1 : Int) (v6_2 : Int) : Option Int :=
  bif decide (v6_2 < (x0.length : Int)) then
  bif decide (0 ≤ v6_2) then
    bif decide (v6_2 < (x0.length : Int)) then
      (zq168 (x0.getD v6_2.toNat (0 : Int)) (2147483647 : Int)).bind fun y1 =>
        bif ((2147483647 : Int) == (0 : Int)) then
          none
        else r6 (Int.tmod (IntKind.i64.wrap ((IntKind.i64.wrap ((IntKind.i64.wrap (v6_1 * (1000003 : Int))) + y1)) + (13 : Int))) (2147483647 : Int)) (IntKind.i64.wrap (v6_2 + (1 : Int)))
    else none
  else none
else some v6_1
noncomputable def zq147.l6 (x0 : List Int) (n : Nat) : Int → Int → Option Int :=
  V.iter (fun (r6 : Int → Int → Option Int) => fun v6_1 v6_2 => zq147.g6 x0 r6 v6_1 v6_2) (fun _ _ => none) n
theorem zq147.u6 (x0 : List Int) (n : Nat) (v6_1 : Int) (v6_2 : Int) : zq147.l6 x0 (n + 1) v6_1 v6_2 = zq147.g6 x0 (zq147.l6 x0 n) v6_1 v6_2 := rfl
noncomputable abbrev zq147.b (x0 : List Int) (L6 : Int → Int → Option Int) : Option Int :=
  L6 (11 : Int) (0 : Int)
noncomputable def zq147 (x0 : List Int) : Option Int :=
  zq147.b x0 (zq147.l6 x0 V.KK)
noncomputable def zq179 (x0 : TKeys) (x1 : Int) : Option Int :=
  (zq162 x0).bind fun y1 =>
  bif decide ([(239 : Int), x1].length + y1.length < 68719476736) then
    (zq147 ([(239 : Int), x1] ++ y1)).bind fun y2 =>
      some y2
  else none
noncomputable def zq149 (x0 : THead) : Option (List Int) :=
  (zq162 (Head_Keys x0)).bind fun y1 =>
  bif decide ([(Head_Zone x0), (Head_Epoch x0), (Head_Kind x0), (Head_Time x0), (Head_Until x0), (Head_Count x0), (Head_Root x0), (Head_Prev x0)].length + y1.length < 68719476736) then
    (zq162 (Head_Heirs x0)).bind fun y2 =>
      bif decide (([(Head_Zone x0), (Head_Epoch x0), (Head_Kind x0), (Head_Time x0), (Head_Until x0), (Head_Count x0), (Head_Root x0), (Head_Prev x0)] ++ y1).length + y2.length < 68719476736) then
        bif decide ((([(Head_Zone x0), (Head_Epoch x0), (Head_Kind x0), (Head_Time x0), (Head_Until x0), (Head_Count x0), (Head_Root x0), (Head_Prev x0)] ++ y1) ++ y2).length + [(Head_Wait x0)].length < 68719476736) then
          (zq162 (Head_Judge x0)).bind fun y3 =>
            bif decide (((([(Head_Zone x0), (Head_Epoch x0), (Head_Kind x0), (Head_Time x0), (Head_Until x0), (Head_Count x0), (Head_Root x0), (Head_Prev x0)] ++ y1) ++ y2) ++ [(Head_Wait x0)]).length + y3.length < 68719476736) then
              bif (Head_Frozen x0) then
                bif decide ((((([(Head_Zone x0), (Head_Epoch x0), (Head_Kind x0), (Head_Time x0), (Head_Until x0), (Head_Count x0), (Head_Root x0), (Head_Prev x0)] ++ y1) ++ y2) ++ [(Head_Wait x0)]) ++ y3).length + [(1 : Int)].length < 68719476736) then
                  some ((((([(Head_Zone x0), (Head_Epoch x0), (Head_Kind x0), (Head_Time x0), (Head_Until x0), (Head_Count x0), (Head_Root x0), (Head_Prev x0)] ++ y1) ++ y2) ++ [(Head_Wait x0)]) ++ y3) ++ [(1 : Int)])
                else none
              else
                bif decide ((((([(Head_Zone x0), (Head_Epoch x0), (Head_Kind x0), (Head_Time x0), (Head_Until x0), (Head_Count x0), (Head_Root x0), (Head_Prev x0)] ++ y1) ++ y2) ++ [(Head_Wait x0)]) ++ y3).length + [(0 : Int)].length < 68719476736) then
                  some ((((([(Head_Zone x0), (Head_Epoch x0), (Head_Kind x0), (Head_Time x0), (Head_Until x0), (Head_Count x0), (Head_Root x0), (Head_Prev x0)] ++ y1) ++ y2) ++ [(Head_Wait x0)]) ++ y3) ++ [(0 : Int)])
                else none
            else none
        else none
      else none
  else none
noncomputable def zq161 (x0 : Int) (x1 : List Int) : Option Int :=
  bif decide ([x0].length + x1.length < 68719476736) then
  bif decide (([x0] ++ x1).length + [x0].length < 68719476736) then
    (zq147 (([x0] ++ x1) ++ [x0])).bind fun y1 =>
      some y1
  else none
else none
noncomputable def zq176 (x0 : Int) (x1 : List Int) : Option Int :=
  bif decide ([(223 : Int)].length + x1.length < 68719476736) then
  (zq161 x0 ([(223 : Int)] ++ x1)).bind fun y1 =>
    some y1
else none
noncomputable def zq158 (x0 : TSig) (x1 : List Int) : Option Bool :=
  (zq188 x0.1 (1 : Int) (99 : Int)).bind fun y1 =>
  bif y1 then
    (zq176 x0.1 x1).bind fun y2 =>
      some (x0.2 == y2)
  else some false
noncomputable abbrev zq142.g19 (x0 : TKeys) (x1 : List Int) (x2 : List TSig) (v6_2 : Int) (v6_3 : Int) (v12_4 : Int) (r6 : Int → Int → Option Int) (r12 : Int → Option Int) (v19_5 : Bool) : Option Int :=
  bif v19_5 then
  r6 (IntKind.i64.wrap (v6_2 + (1 : Int))) (IntKind.i64.wrap (v6_3 + (1 : Int)))
else r12 (IntKind.i64.wrap (v12_4 + (1 : Int)))
noncomputable def zq142.l19 (x0 : TKeys) (x1 : List Int) (x2 : List TSig) (v6_2 : Int) (v6_3 : Int) (v12_4 : Int) (r6 : Int → Int → Option Int) (r12 : Int → Option Int) (v19_5 : Bool) : Option Int :=
  zq142.g19 x0 x1 x2 v6_2 v6_3 v12_4 r6 r12 v19_5
noncomputable abbrev zq142.g12 (x0 : TKeys) (x1 : List Int) (x2 : List TSig) (v6_2 : Int) (v6_3 : Int) (r6 : Int → Int → Option Int) (r12 : Int → Option Int) (L19 : Bool → Option Int) (v12_4 : Int) : Option Int :=
  bif decide (v12_4 < (x2.length : Int)) then
  bif decide (0 ≤ v12_4) then
    bif decide (v12_4 < (x2.length : Int)) then
      bif decide (0 ≤ v6_3) then
        bif decide (v6_3 < (x0.1.length : Int)) then
          bif (x2.getD v12_4.toNat dSig).1 == (x0.1.getD v6_3.toNat (0 : Int)) then
            bif decide (0 ≤ v12_4) then
              bif decide (v12_4 < (x2.length : Int)) then
                (zq158 (x2.getD v12_4.toNat dSig) x1).bind fun y1 =>
                  L19 y1
              else none
            else none
          else L19 false
        else none
      else none
    else none
  else none
else r6 v6_2 (IntKind.i64.wrap (v6_3 + (1 : Int)))
noncomputable def zq142.l12 (x0 : TKeys) (x1 : List Int) (x2 : List TSig) (v6_2 : Int) (v6_3 : Int) (r6 : Int → Int → Option Int) (n : Nat) : Int → Option Int :=
  V.iter (fun (r12 : Int → Option Int) => fun v12_4 => zq142.g12 x0 x1 x2 v6_2 v6_3 r6 r12 (zq142.l19 x0 x1 x2 v6_2 v6_3 v12_4 r6 r12) v12_4) (fun _ => none) n
theorem zq142.u12 (x0 : TKeys) (x1 : List Int) (x2 : List TSig) (v6_2 : Int) (v6_3 : Int) (r6 : Int → Int → Option Int) (n : Nat) (v12_4 : Int) : zq142.l12 x0 x1 x2 v6_2 v6_3 r6 (n + 1) v12_4 = zq142.g12 x0 x1 x2 v6_2 v6_3 r6 (zq142.l12 x0 x1 x2 v6_2 v6_3 r6 n) (zq142.l19 x0 x1 x2 v6_2 v6_3 v12_4 r6 (zq142.l12 x0 x1 x2 v6_2 v6_3 r6 n)) v12_4 := rfl
noncomputable abbrev zq142.g6 (x0 : TKeys) (x1 : List Int) (x2 : List TSig) (r6 : Int → Int → Option Int) (L12 : Int → Option Int) (v6_2 : Int) (v6_3 : Int) : Option Int :=
  bif decide (v6_3 < (x0.1.length : Int)) then
  L12 (0 : Int)
else some v6_2
noncomputable def zq142.l6 (x0 : TKeys) (x1 : List Int) (x2 : List TSig) (n : Nat) : Int → Int → Option Int :=
  V.iter (fun (r6 : Int → Int → Option Int) => fun v6_2 v6_3 => zq142.g6 x0 x1 x2 r6 (zq142.l12 x0 x1 x2 v6_2 v6_3 r6 V.KK) v6_2 v6_3) (fun _ _ => none) n
theorem zq142.u6 (x0 : TKeys) (x1 : List Int) (x2 : List TSig) (n : Nat) (v6_2 : Int) (v6_3 : Int) : zq142.l6 x0 x1 x2 (n + 1) v6_2 v6_3 = zq142.g6 x0 x1 x2 (zq142.l6 x0 x1 x2 n) (zq142.l12 x0 x1 x2 v6_2 v6_3 (zq142.l6 x0 x1 x2 n) V.KK) v6_2 v6_3 := rfl
noncomputable abbrev zq142.b (x0 : TKeys) (x1 : List Int) (x2 : List TSig) (L6 : Int → Int → Option Int) : Option Int :=
  L6 (0 : Int) (0 : Int)
noncomputable def zq142 (x0 : TKeys) (x1 : List Int) (x2 : List TSig) : Option Int :=
  zq142.b x0 x1 x2 (zq142.l6 x0 x1 x2 V.KK)
noncomputable def zq159 (x0 : TKeys) (x1 : List Int) (x2 : List TSig) : Option Bool :=
  (zq154 x0).bind fun y1 =>
  bif y1 then
    (zq142 x0 x1 x2).bind fun y2 =>
      some (decide (y2 ≥ x0.2))
  else some false
noncomputable def zq152 (x0 : TSigned) : Option Bool :=
  (zq153 (Signed_Head x0)).bind fun y1 =>
  bif y1 then
    bif (Head_Epoch (Signed_Head x0)) == (0 : Int) then
      bif (Head_Kind (Signed_Head x0)) == (1 : Int) then
        bif !(Head_Frozen (Signed_Head x0)) then
          (zq179 (Head_Keys (Signed_Head x0)) (Head_Prev (Signed_Head x0))).bind fun y2 =>
            bif (Head_Zone (Signed_Head x0)) == y2 then
              (zq149 (Signed_Head x0)).bind fun y3 =>
                (zq159 (Head_Keys (Signed_Head x0)) y3 (Signed_Sigs x0)).bind fun y4 =>
                  some y4
            else some false
        else some false
      else some false
    else some false
  else some false
noncomputable def zq148 (x0 : THead) : Option Int :=
  (zq149 x0).bind fun y1 =>
  bif decide ([(233 : Int)].length + y1.length < 68719476736) then
    (zq147 ([(233 : Int)] ++ y1)).bind fun y2 =>
      some y2
  else none
noncomputable def zq186 (x0 : THead) (x1 : THead) : Option Int :=
  bif (Head_Frozen x0) then
  some (4 : Int)
else
  bif (Head_Frozen x1) then
    some (6 : Int)
  else some (1 : Int)
noncomputable abbrev zq144.g8 (x0 : List Int) (x1 : List Int) (r8 : Int → Option Bool) (v8_2 : Int) : Option Bool :=
  bif decide (v8_2 < (x0.length : Int)) then
  bif decide (0 ≤ v8_2) then
    bif decide (v8_2 < (x0.length : Int)) then
      bif decide (0 ≤ v8_2) then
        bif decide (v8_2 < (x1.length : Int)) then
          bif (x0.getD v8_2.toNat (0 : Int)) != (x1.getD v8_2.toNat (0 : Int)) then
            some false
          else r8 (IntKind.i64.wrap (v8_2 + (1 : Int)))
        else none
      else none
    else none
  else none
else some true
noncomputable def zq144.l8 (x0 : List Int) (x1 : List Int) (n : Nat) : Int → Option Bool :=
  V.iter (fun (r8 : Int → Option Bool) => fun v8_2 => zq144.g8 x0 x1 r8 v8_2) (fun _ => none) n
theorem zq144.u8 (x0 : List Int) (x1 : List Int) (n : Nat) (v8_2 : Int) : zq144.l8 x0 x1 (n + 1) v8_2 = zq144.g8 x0 x1 (zq144.l8 x0 x1 n) v8_2 := rfl
noncomputable abbrev zq144.b (x0 : List Int) (x1 : List Int) (L8 : Int → Option Bool) : Option Bool :=
  bif (x0.length : Int) != (x1.length : Int) then
  some false
else L8 (0 : Int)
noncomputable def zq144 (x0 : List Int) (x1 : List Int) : Option Bool :=
  zq144.b x0 x1 (zq144.l8 x0 x1 V.KK)
noncomputable def zq145 (x0 : TKeys) (x1 : TKeys) : Option Bool :=
  bif x0.2 == x1.2 then
  (zq144 x0.1 x1.1).bind fun y1 =>
    some y1
else some false
noncomputable def zq173 (x0 : THead) (x1 : THead) : Option Bool :=
  bif (Head_Count x0) == (Head_Count x1) then
  some ((Head_Root x0) == (Head_Root x1))
else some false
noncomputable abbrev zq184.g9 (x0 : THead) (x1 : THead) (v9_0 : Bool) : Option Int :=
  bif v9_0 then
  some (5 : Int)
else
  bif (Head_Frozen x1) then
    some (6 : Int)
  else
    (zq145 (Head_Keys x1) (Head_Heirs x0)).bind fun y2 =>
      bif !y2 then
        some (6 : Int)
      else
        (zq173 x1 x0).bind fun y3 =>
          bif !y3 then
            some (6 : Int)
          else some (1 : Int)
noncomputable def zq184.l9 (x0 : THead) (x1 : THead) (v9_0 : Bool) : Option Int :=
  zq184.g9 x0 x1 v9_0
noncomputable abbrev zq184.b (x0 : THead) (x1 : THead) (L9 : Bool → Option Int) : Option Int :=
  bif (Head_Frozen x0) then
  some (4 : Int)
else
  (zq170 (Head_Heirs x0)).bind fun y1 =>
    bif y1 then
      L9 true
    else L9 (decide ((Head_Time x1) < (IntKind.i64.wrap ((Head_Until x0) + (Head_Wait x0)))))
noncomputable def zq184 (x0 : THead) (x1 : THead) : Option Int :=
  zq184.b x0 x1 (zq184.l9 x0 x1)
noncomputable abbrev zq185.g9 (x0 : THead) (x1 : THead) (v9_0 : Bool) : Option Int :=
  bif v9_0 then
  some (6 : Int)
else
  bif (Head_Frozen x1) then
    (zq145 (Head_Keys x1) (Head_Keys x0)).bind fun y2 =>
      bif !y2 then
        some (6 : Int)
      else some (1 : Int)
  else some (1 : Int)
noncomputable def zq185.l9 (x0 : THead) (x1 : THead) (v9_0 : Bool) : Option Int :=
  zq185.g9 x0 x1 v9_0
noncomputable abbrev zq185.b (x0 : THead) (x1 : THead) (L9 : Bool → Option Int) : Option Int :=
  (zq170 (Head_Judge x0)).bind fun y1 =>
  bif y1 then
    some (5 : Int)
  else
    bif (Head_Frozen x1) == (Head_Frozen x0) then
      L9 true
    else
      (zq173 x1 x0).bind fun y3 =>
        bif !y3 then
          L9 true
        else
          (zq145 (Head_Judge x1) (Head_Judge x0)).bind fun y4 =>
            bif !y4 then
              L9 true
            else
              (zq145 (Head_Heirs x1) (Head_Heirs x0)).bind fun y5 =>
                bif !y5 then
                  L9 true
                else L9 ((Head_Wait x1) != (Head_Wait x0))
noncomputable def zq185 (x0 : THead) (x1 : THead) : Option Int :=
  zq185.b x0 x1 (zq185.l9 x0 x1)
noncomputable abbrev zq169.g31 (x1 : TSigned) (v31_0 : Int) (v31_34 : List Int) (v31_35 : Int) : Option Int :=
  bif v31_0 == (1 : Int) then
  (zq149 (Signed_Head x1)).bind fun y6 =>
    (zq159 (v31_34, v31_35) y6 (Signed_Sigs x1)).bind fun y7 =>
      bif !y7 then
        some (7 : Int)
      else some v31_0
else some v31_0
noncomputable def zq169.l31 (x1 : TSigned) (v31_0 : Int) (v31_34 : List Int) (v31_35 : Int) : Option Int :=
  zq169.g31 x1 v31_0 v31_34 v31_35
noncomputable abbrev zq169.g13 (x0 : THead) (x1 : TSigned) (L31 : Int → (List Int) → Int → Option Int) : Option Int :=
  (zq186 x0 (Signed_Head x1)).bind fun y4 =>
  bif (Head_Kind (Signed_Head x1)) == (2 : Int) then
    (zq184 x0 (Signed_Head x1)).bind fun y5 =>
      L31 y5 (Head_Heirs x0).1 (Head_Heirs x0).2
  else
    bif (Head_Kind (Signed_Head x1)) == (3 : Int) then
      (zq185 x0 (Signed_Head x1)).bind fun y8 =>
        L31 y8 (Head_Judge x0).1 (Head_Judge x0).2
    else L31 y4 (Head_Keys x0).1 (Head_Keys x0).2
noncomputable def zq169.l13 (x0 : THead) (x1 : TSigned) : Option Int :=
  zq169.g13 x0 x1 (zq169.l31 x1)
noncomputable abbrev zq169.g9 (x0 : THead) (x1 : TSigned) (L13 : Option Int) : Option Int :=
  bif (Head_Zone (Signed_Head x1)) != (Head_Zone x0) then
  some (3 : Int)
else
  bif (Head_Epoch (Signed_Head x1)) != (IntKind.i64.wrap ((Head_Epoch x0) + (1 : Int))) then
    some (3 : Int)
  else
    (zq148 x0).bind fun y3 =>
      bif (Head_Prev (Signed_Head x1)) != y3 then
        some (3 : Int)
      else
        bif decide ((Head_Time (Signed_Head x1)) < (Head_Time x0)) then
          some (3 : Int)
        else L13
noncomputable def zq169.l9 (x0 : THead) (x1 : TSigned) : Option Int :=
  zq169.g9 x0 x1 (zq169.l13 x0 x1)
noncomputable abbrev zq169.b (x0 : THead) (x1 : TSigned) (L9 : Option Int) : Option Int :=
  (zq153 x0).bind fun y1 =>
  bif !y1 then
    some (2 : Int)
  else
    (zq153 (Signed_Head x1)).bind fun y2 =>
      bif !y2 then
        some (2 : Int)
      else L9
noncomputable def zq169 (x0 : THead) (x1 : TSigned) : Option Int :=
  zq169.b x0 x1 (zq169.l9 x0 x1)
noncomputable def zq167 (x0 : THead) (x1 : TSigned) : Option Bool :=
  (zq169 x0 x1).bind fun y1 =>
  some (y1 == (1 : Int))
noncomputable abbrev zq146.g4 (x0 : List TSigned) (r4 : Int → Option Int) (v4_1 : Int) : Option Int :=
  bif decide (v4_1 < (x0.length : Int)) then
  bif v4_1 == (0 : Int) then
    bif decide (0 ≤ (0 : Int)) then
      bif decide ((0 : Int) < (x0.length : Int)) then
        (zq152 (x0.getD ((0 : Int).toNat) dSigned)).bind fun y1 =>
          bif !y1 then
            some v4_1
          else
            bif decide (v4_1 > (0 : Int)) then
              bif decide (0 ≤ (IntKind.i64.wrap (v4_1 - (1 : Int)))) then
                bif decide ((IntKind.i64.wrap (v4_1 - (1 : Int))) < (x0.length : Int)) then
                  bif decide (0 ≤ v4_1) then
                    bif decide (v4_1 < (x0.length : Int)) then
                      (zq167 (Signed_Head (x0.getD ((IntKind.i64.wrap (v4_1 - (1 : Int))).toNat) dSigned)) (x0.getD v4_1.toNat dSigned)).bind fun y2 =>
                        bif !y2 then
                          some v4_1
                        else r4 (IntKind.i64.wrap (v4_1 + (1 : Int)))
                    else none
                  else none
                else none
              else none
            else r4 (IntKind.i64.wrap (v4_1 + (1 : Int)))
      else none
    else none
  else
    bif decide (v4_1 > (0 : Int)) then
      bif decide (0 ≤ (IntKind.i64.wrap (v4_1 - (1 : Int)))) then
        bif decide ((IntKind.i64.wrap (v4_1 - (1 : Int))) < (x0.length : Int)) then
          bif decide (0 ≤ v4_1) then
            bif decide (v4_1 < (x0.length : Int)) then
              (zq167 (Signed_Head (x0.getD ((IntKind.i64.wrap (v4_1 - (1 : Int))).toNat) dSigned)) (x0.getD v4_1.toNat dSigned)).bind fun y3 =>
                bif !y3 then
                  some v4_1
                else r4 (IntKind.i64.wrap (v4_1 + (1 : Int)))
            else none
          else none
        else none
      else none
    else r4 (IntKind.i64.wrap (v4_1 + (1 : Int)))
else some (-1 : Int)
noncomputable def zq146.l4 (x0 : List TSigned) (n : Nat) : Int → Option Int :=
  V.iter (fun (r4 : Int → Option Int) => fun v4_1 => zq146.g4 x0 r4 v4_1) (fun _ => none) n
theorem zq146.u4 (x0 : List TSigned) (n : Nat) (v4_1 : Int) : zq146.l4 x0 (n + 1) v4_1 = zq146.g4 x0 (zq146.l4 x0 n) v4_1 := rfl
noncomputable abbrev zq146.b (x0 : List TSigned) (L4 : Int → Option Int) : Option Int :=
  L4 (0 : Int)
noncomputable def zq146 (x0 : List TSigned) : Option Int :=
  zq146.b x0 (zq146.l4 x0 V.KK)
noncomputable def zq150 (x0 : List TSigned) : Option Bool :=
  (zq188 (x0.length : Int) (1 : Int) (12 : Int)).bind fun y1 =>
  bif y1 then
    (zq146 x0).bind fun y2 =>
      some (decide (y2 < (0 : Int)))
  else some false
noncomputable def zq164 (x0 : List TSigned) : Option TRHeadBool :=
  (zq150 x0).bind fun y1 =>
  bif !y1 then
    some dRHeadBool
  else
    bif decide (0 ≤ (IntKind.i64.wrap ((x0.length : Int) - (1 : Int)))) then
      bif decide ((IntKind.i64.wrap ((x0.length : Int) - (1 : Int))) < (x0.length : Int)) then
        (zq182 (Signed_Head (x0.getD ((IntKind.i64.wrap ((x0.length : Int) - (1 : Int))).toNat) dSigned))).bind fun y2 =>
          some (RHeadBool_mk y2 true)
      else none
    else none
noncomputable abbrev zq155.g8 (x0 : ByteArray) (r8 : Int → Option Bool) (v8_1 : Int) : Option Bool :=
  bif decide (v8_1 < (x0.size : Int)) then
  bif decide (0 ≤ v8_1) then
    bif decide (v8_1 < (x0.size : Int)) then
      bif decide ((V.bt x0 v8_1) < (97 : Int)) then
        bif decide (0 ≤ v8_1) then
          bif decide (v8_1 < (x0.size : Int)) then
            bif decide ((V.bt x0 v8_1) < (48 : Int)) then
              bif decide (0 ≤ v8_1) then
                bif decide (v8_1 < (x0.size : Int)) then
                  bif (V.bt x0 v8_1) != (45 : Int) then
                    some false
                  else r8 (IntKind.i64.wrap (v8_1 + (1 : Int)))
                else none
              else none
            else
              bif decide (0 ≤ v8_1) then
                bif decide (v8_1 < (x0.size : Int)) then
                  bif decide ((V.bt x0 v8_1) > (57 : Int)) then
                    bif decide (0 ≤ v8_1) then
                      bif decide (v8_1 < (x0.size : Int)) then
                        bif (V.bt x0 v8_1) != (45 : Int) then
                          some false
                        else r8 (IntKind.i64.wrap (v8_1 + (1 : Int)))
                      else none
                    else none
                  else r8 (IntKind.i64.wrap (v8_1 + (1 : Int)))
                else none
              else none
          else none
        else none
      else
        bif decide (0 ≤ v8_1) then
          bif decide (v8_1 < (x0.size : Int)) then
            bif decide ((V.bt x0 v8_1) > (122 : Int)) then
              bif decide (0 ≤ v8_1) then
                bif decide (v8_1 < (x0.size : Int)) then
                  bif decide ((V.bt x0 v8_1) < (48 : Int)) then
                    bif decide (0 ≤ v8_1) then
                      bif decide (v8_1 < (x0.size : Int)) then
                        bif (V.bt x0 v8_1) != (45 : Int) then
                          some false
                        else r8 (IntKind.i64.wrap (v8_1 + (1 : Int)))
                      else none
                    else none
                  else
                    bif decide (0 ≤ v8_1) then
                      bif decide (v8_1 < (x0.size : Int)) then
                        bif decide ((V.bt x0 v8_1) > (57 : Int)) then
                          bif decide (0 ≤ v8_1) then
                            bif decide (v8_1 < (x0.size : Int)) then
                              bif (V.bt x0 v8_1) != (45 : Int) then
                                some false
                              else r8 (IntKind.i64.wrap (v8_1 + (1 : Int)))
                            else none
                          else none
                        else r8 (IntKind.i64.wrap (v8_1 + (1 : Int)))
                      else none
                    else none
                else none
              else none
            else r8 (IntKind.i64.wrap (v8_1 + (1 : Int)))
          else none
        else none
    else none
  else none
else some true
noncomputable def zq155.l8 (x0 : ByteArray) (n : Nat) : Int → Option Bool :=
  V.iter (fun (r8 : Int → Option Bool) => fun v8_1 => zq155.g8 x0 r8 v8_1) (fun _ => none) n
theorem zq155.u8 (x0 : ByteArray) (n : Nat) (v8_1 : Int) : zq155.l8 x0 (n + 1) v8_1 = zq155.g8 x0 (zq155.l8 x0 n) v8_1 := rfl
noncomputable abbrev zq155.g7 (x0 : ByteArray) (L8 : Int → Option Bool) : Option Bool :=
  L8 (0 : Int)
noncomputable def zq155.l7 (x0 : ByteArray) : Option Bool :=
  zq155.g7 x0 (zq155.l8 x0 V.KK)
noncomputable abbrev zq155.b (x0 : ByteArray) (L7 : Option Bool) : Option Bool :=
  (zq188 (x0.size : Int) (1 : Int) (8 : Int)).bind fun y1 =>
  bif !y1 then
    some false
  else
    bif decide (0 ≤ (0 : Int)) then
      bif decide ((0 : Int) < (x0.size : Int)) then
        bif (V.bt x0 (0 : Int)) == (45 : Int) then
          some false
        else
          bif decide (0 ≤ (IntKind.i64.wrap ((x0.size : Int) - (1 : Int)))) then
            bif decide ((IntKind.i64.wrap ((x0.size : Int) - (1 : Int))) < (x0.size : Int)) then
              bif (V.bt x0 (IntKind.i64.wrap ((x0.size : Int) - (1 : Int)))) == (45 : Int) then
                some false
              else L7
            else none
          else none
      else none
    else none
noncomputable def zq155 (x0 : ByteArray) : Option Bool :=
  zq155.b x0 (zq155.l7 x0)
noncomputable abbrev zq156.g4 (x0 : List ByteArray) (r4 : Int → Option Bool) (v4_1 : Int) : Option Bool :=
  bif decide (v4_1 < (x0.length : Int)) then
  bif decide (0 ≤ v4_1) then
    bif decide (v4_1 < (x0.length : Int)) then
      (zq155 (x0.getD v4_1.toNat (⟨#[]⟩ : ByteArray))).bind fun y1 =>
        bif !y1 then
          some false
        else r4 (IntKind.i64.wrap (v4_1 + (1 : Int)))
    else none
  else none
else
  (zq188 (x0.length : Int) (1 : Int) (4 : Int)).bind fun y2 =>
    some y2
noncomputable def zq156.l4 (x0 : List ByteArray) (n : Nat) : Int → Option Bool :=
  V.iter (fun (r4 : Int → Option Bool) => fun v4_1 => zq156.g4 x0 r4 v4_1) (fun _ => none) n
theorem zq156.u4 (x0 : List ByteArray) (n : Nat) (v4_1 : Int) : zq156.l4 x0 (n + 1) v4_1 = zq156.g4 x0 (zq156.l4 x0 n) v4_1 := rfl
noncomputable abbrev zq156.b (x0 : List ByteArray) (L4 : Int → Option Bool) : Option Bool :=
  L4 (0 : Int)
noncomputable def zq156 (x0 : List ByteArray) : Option Bool :=
  zq156.b x0 (zq156.l4 x0 V.KK)
noncomputable def zq151 (x0 : TEntry) : Option Bool :=
  bif x0.2.1 == (1 : Int) then
  (zq155 x0.1).bind fun y1 =>
    bif y1 then
      (zq188 x0.2.2.1 (0 : Int) (999999 : Int)).bind fun y2 =>
        bif y2 then
          some ((x0.2.2.2.length : Int) == (0 : Int))
        else some false
    else some false
else
  bif x0.2.1 == (2 : Int) then
    (zq155 x0.1).bind fun y3 =>
      bif y3 then
        (zq188 x0.2.2.1 (0 : Int) (2147483646 : Int)).bind fun y4 =>
          bif y4 then
            some ((x0.2.2.2.length : Int) == (0 : Int))
          else some false
      else some false
  else
    bif x0.2.1 == (3 : Int) then
      (zq155 x0.1).bind fun y5 =>
        bif y5 then
          (zq188 x0.2.2.1 (0 : Int) (2147483646 : Int)).bind fun y6 =>
            bif y6 then
              (zq156 x0.2.2.2).bind fun y7 =>
                some y7
            else some false
        else some false
    else some false
noncomputable def zq141 (x0 : ByteArray) (x1 : ByteArray) : Option Int :=
  bif Op.bytesLess x0.toList x1.toList then
  some (-1 : Int)
else
  bif !(Op.bytesLess x0.toList x1.toList || x0.toList == x1.toList) then
    some (1 : Int)
  else some (0 : Int)
noncomputable abbrev zq138.g4 (x0 : List TEntry) (r4 : Int → Option Bool) (v4_1 : Int) : Option Bool :=
  bif decide (v4_1 < (x0.length : Int)) then
  bif decide (0 ≤ v4_1) then
    bif decide (v4_1 < (x0.length : Int)) then
      (zq151 (x0.getD v4_1.toNat dEntry)).bind fun y1 =>
        bif !y1 then
          some false
        else
          bif decide (v4_1 > (0 : Int)) then
            bif decide (0 ≤ (IntKind.i64.wrap (v4_1 - (1 : Int)))) then
              bif decide ((IntKind.i64.wrap (v4_1 - (1 : Int))) < (x0.length : Int)) then
                bif decide (0 ≤ v4_1) then
                  bif decide (v4_1 < (x0.length : Int)) then
                    (zq141 (x0.getD ((IntKind.i64.wrap (v4_1 - (1 : Int))).toNat) dEntry).1 (x0.getD v4_1.toNat dEntry).1).bind fun y2 =>
                      bif y2 != (-1 : Int) then
                        some false
                      else r4 (IntKind.i64.wrap (v4_1 + (1 : Int)))
                  else none
                else none
              else none
            else none
          else r4 (IntKind.i64.wrap (v4_1 + (1 : Int)))
    else none
  else none
else some (decide ((x0.length : Int) ≤ (12 : Int)))
noncomputable def zq138.l4 (x0 : List TEntry) (n : Nat) : Int → Option Bool :=
  V.iter (fun (r4 : Int → Option Bool) => fun v4_1 => zq138.g4 x0 r4 v4_1) (fun _ => none) n
theorem zq138.u4 (x0 : List TEntry) (n : Nat) (v4_1 : Int) : zq138.l4 x0 (n + 1) v4_1 = zq138.g4 x0 (zq138.l4 x0 n) v4_1 := rfl
noncomputable abbrev zq138.b (x0 : List TEntry) (L4 : Int → Option Bool) : Option Bool :=
  L4 (0 : Int)
noncomputable def zq138 (x0 : List TEntry) : Option Bool :=
  zq138.b x0 (zq138.l4 x0 V.KK)
noncomputable abbrev zq139.g6 (x0 : List Int) (r6 : Int → (List Int) → Option (List Int)) (v6_1 : Int) (v6_2 : List Int) : Option (List Int) :=
  bif decide (v6_1 < (x0.length : Int)) then
  bif decide (0 ≤ v6_1) then
    bif decide (v6_1 < (x0.length : Int)) then
      bif decide (v6_2.length + [IntKind.i64.wrap (x0.getD v6_1.toNat (0 : Int))].length < 68719476736) then
        r6 (IntKind.i64.wrap (v6_1 + (1 : Int))) (v6_2 ++ [IntKind.i64.wrap (x0.getD v6_1.toNat (0 : Int))])
      else none
    else none
  else none
else some v6_2
noncomputable def zq139.l6 (x0 : List Int) (n : Nat) : Int → (List Int) → Option (List Int) :=
  V.iter (fun (r6 : Int → (List Int) → Option (List Int)) => fun v6_1 v6_2 => zq139.g6 x0 r6 v6_1 v6_2) (fun _ _ => none) n
theorem zq139.u6 (x0 : List Int) (n : Nat) (v6_1 : Int) (v6_2 : List Int) : zq139.l6 x0 (n + 1) v6_1 v6_2 = zq139.g6 x0 (zq139.l6 x0 n) v6_1 v6_2 := rfl
noncomputable abbrev zq139.b (x0 : List Int) (L6 : Int → (List Int) → Option (List Int)) : Option (List Int) :=
  L6 (0 : Int) [(x0.length : Int)]
noncomputable def zq139 (x0 : List Int) : Option (List Int) :=
  zq139.b x0 (zq139.l6 x0 V.KK)
noncomputable def zq163 (x0 : ByteArray) : Option (List Int) :=
  bif V.smallS x0 then
  (zq139 (V.bytesOf x0)).bind fun y1 =>
    some y1
else none
noncomputable abbrev zq143.g6 (x0 : TEntry) (r6 : Int → (List Int) → Option (List Int)) (v6_0 : Int) (v6_5 : List Int) : Option (List Int) :=
  bif decide (v6_0 < (x0.2.2.2.length : Int)) then
  bif decide (0 ≤ v6_0) then
    bif decide (v6_0 < (x0.2.2.2.length : Int)) then
      (zq163 (x0.2.2.2.getD v6_0.toNat (⟨#[]⟩ : ByteArray))).bind fun y2 =>
        bif decide (v6_5.length + y2.length < 68719476736) then
          r6 (IntKind.i64.wrap (v6_0 + (1 : Int))) (v6_5 ++ y2)
        else none
    else none
  else none
else some v6_5
noncomputable def zq143.l6 (x0 : TEntry) (n : Nat) : Int → (List Int) → Option (List Int) :=
  V.iter (fun (r6 : Int → (List Int) → Option (List Int)) => fun v6_0 v6_5 => zq143.g6 x0 r6 v6_0 v6_5) (fun _ _ => none) n
theorem zq143.u6 (x0 : TEntry) (n : Nat) (v6_0 : Int) (v6_5 : List Int) : zq143.l6 x0 (n + 1) v6_0 v6_5 = zq143.g6 x0 (zq143.l6 x0 n) v6_0 v6_5 := rfl
noncomputable abbrev zq143.b (x0 : TEntry) (L6 : Int → (List Int) → Option (List Int)) : Option (List Int) :=
  (zq163 x0.1).bind fun y1 =>
  bif decide (y1.length + [x0.2.1, x0.2.2.1, (x0.2.2.2.length : Int)].length < 68719476736) then
    L6 (0 : Int) (y1 ++ [x0.2.1, x0.2.2.1, (x0.2.2.2.length : Int)])
  else none
noncomputable def zq143 (x0 : TEntry) : Option (List Int) :=
  zq143.b x0 (zq143.l6 x0 V.KK)
noncomputable def zq165 (x0 : TEntry) : Option Int :=
  (zq143 x0).bind fun y1 =>
  bif decide ([(227 : Int)].length + y1.length < 68719476736) then
    (zq147 ([(227 : Int)] ++ y1)).bind fun y2 =>
      some y2
  else none
noncomputable abbrev zq166.g6 (x0 : List TEntry) (r6 : Int → (List Int) → Option (List Int)) (v6_1 : Int) (v6_2 : List Int) : Option (List Int) :=
  bif decide (v6_1 < (x0.length : Int)) then
  bif decide (0 ≤ v6_1) then
    bif decide (v6_1 < (x0.length : Int)) then
      (zq165 (x0.getD v6_1.toNat dEntry)).bind fun y1 =>
        bif decide (v6_2.length + [y1].length < 68719476736) then
          r6 (IntKind.i64.wrap (v6_1 + (1 : Int))) (v6_2 ++ [y1])
        else none
    else none
  else none
else some v6_2
noncomputable def zq166.l6 (x0 : List TEntry) (n : Nat) : Int → (List Int) → Option (List Int) :=
  V.iter (fun (r6 : Int → (List Int) → Option (List Int)) => fun v6_1 v6_2 => zq166.g6 x0 r6 v6_1 v6_2) (fun _ _ => none) n
theorem zq166.u6 (x0 : List TEntry) (n : Nat) (v6_1 : Int) (v6_2 : List Int) : zq166.l6 x0 (n + 1) v6_1 v6_2 = zq166.g6 x0 (zq166.l6 x0 n) v6_1 v6_2 := rfl
noncomputable abbrev zq166.b (x0 : List TEntry) (L6 : Int → (List Int) → Option (List Int)) : Option (List Int) :=
  L6 (0 : Int) []
noncomputable def zq166 (x0 : List TEntry) : Option (List Int) :=
  zq166.b x0 (zq166.l6 x0 V.KK)
noncomputable def zq171 (x0 : Int) (x1 : Int) : Option Int :=
  (zq147 [(229 : Int), x0, x1]).bind fun y1 =>
  some y1
noncomputable abbrev zq181.g6 (x0 : List Int) (r6 : Int → (List Int) → Option (List Int)) (v6_1 : Int) (v6_2 : List Int) : Option (List Int) :=
  bif decide (v6_1 < (x0.length : Int)) then
  bif decide ((IntKind.i64.wrap (v6_1 + (1 : Int))) < (x0.length : Int)) then
    bif decide (0 ≤ v6_1) then
      bif decide (v6_1 < (x0.length : Int)) then
        bif decide (0 ≤ (IntKind.i64.wrap (v6_1 + (1 : Int)))) then
          bif decide ((IntKind.i64.wrap (v6_1 + (1 : Int))) < (x0.length : Int)) then
            (zq171 (x0.getD v6_1.toNat (0 : Int)) (x0.getD ((IntKind.i64.wrap (v6_1 + (1 : Int))).toNat) (0 : Int))).bind fun y1 =>
              bif decide (v6_2.length + [y1].length < 68719476736) then
                r6 (IntKind.i64.wrap (v6_1 + (2 : Int))) (v6_2 ++ [y1])
              else none
          else none
        else none
      else none
    else none
  else
    bif decide (0 ≤ v6_1) then
      bif decide (v6_1 < (x0.length : Int)) then
        bif decide (v6_2.length + [x0.getD v6_1.toNat (0 : Int)].length < 68719476736) then
          r6 (IntKind.i64.wrap (v6_1 + (2 : Int))) (v6_2 ++ [x0.getD v6_1.toNat (0 : Int)])
        else none
      else none
    else none
else some v6_2
noncomputable def zq181.l6 (x0 : List Int) (n : Nat) : Int → (List Int) → Option (List Int) :=
  V.iter (fun (r6 : Int → (List Int) → Option (List Int)) => fun v6_1 v6_2 => zq181.g6 x0 r6 v6_1 v6_2) (fun _ _ => none) n
theorem zq181.u6 (x0 : List Int) (n : Nat) (v6_1 : Int) (v6_2 : List Int) : zq181.l6 x0 (n + 1) v6_1 v6_2 = zq181.g6 x0 (zq181.l6 x0 n) v6_1 v6_2 := rfl
noncomputable abbrev zq181.b (x0 : List Int) (L6 : Int → (List Int) → Option (List Int)) : Option (List Int) :=
  L6 (0 : Int) []
noncomputable def zq181 (x0 : List Int) : Option (List Int) :=
  zq181.b x0 (zq181.l6 x0 V.KK)
noncomputable abbrev zq177.g8 (r8 : (List Int) → Option Int) (v8_0 : List Int) : Option Int :=
  bif decide ((v8_0.length : Int) > (1 : Int)) then
  (zq181 v8_0).bind fun y2 =>
    r8 y2
else
  bif decide (0 ≤ (0 : Int)) then
    bif decide ((0 : Int) < (v8_0.length : Int)) then
      some (v8_0.getD ((0 : Int).toNat) (0 : Int))
    else none
  else none
noncomputable def zq177.l8 (n : Nat) : (List Int) → Option Int :=
  V.iter (fun (r8 : (List Int) → Option Int) => fun v8_0 => zq177.g8 r8 v8_0) (fun _ => none) n
theorem zq177.u8 (n : Nat) (v8_0 : List Int) : zq177.l8 (n + 1) v8_0 = zq177.g8 (zq177.l8 n) v8_0 := rfl
noncomputable abbrev zq177.b (x0 : List Int) (L8 : (List Int) → Option Int) : Option Int :=
  bif (x0.length : Int) == (0 : Int) then
  (zq147 [(229 : Int)]).bind fun y1 =>
    some y1
else L8 x0
noncomputable def zq177 (x0 : List Int) : Option Int :=
  zq177.b x0 (zq177.l8 V.KK)
noncomputable def zq180 (x0 : Int) (x1 : Int) : Option Int :=
  (zq147 [(231 : Int), x0, x1]).bind fun y1 =>
  some y1
noncomputable def zq172 (x0 : List TEntry) : Option Int :=
  (zq166 x0).bind fun y1 =>
  (zq177 y1).bind fun y2 =>
    (zq180 (x0.length : Int) y2).bind fun y3 =>
      some y3
noncomputable def zq140 (x0 : Int) (x1 : List TEntry) : Option Bool :=
  (zq138 x1).bind fun y1 =>
  bif y1 then
    (zq172 x1).bind fun y2 =>
      some (y2 == x0)
  else some false
noncomputable def zq160 (x0 : TZone) : Option Bool :=
  (zq164 x0.1).bind fun y1 =>
  bif (RHeadBool_r1 y1) then
    bif (Head_Count (RHeadBool_r0 y1)) == (x0.2.length : Int) then
      (zq140 (Head_Root (RHeadBool_r0 y1)) x0.2).bind fun y2 =>
        some y2
    else some false
  else some false
noncomputable abbrev zq157.g4 (x0 : TServer) (r4 : Int → Option Bool) (v4_0 : Int) : Option Bool :=
  bif decide (v4_0 < (x0.1.length : Int)) then
  bif decide (0 ≤ v4_0) then
    bif decide (v4_0 < (x0.1.length : Int)) then
      (zq160 (x0.1.getD v4_0.toNat dZone)).bind fun y1 =>
        bif !y1 then
          some false
        else r4 (IntKind.i64.wrap (v4_0 + (1 : Int)))
    else none
  else none
else
  bif decide ((x0.1.length : Int) ≤ (8 : Int)) then
    (zq188 x0.2 (0 : Int) (4 : Int)).bind fun y2 =>
      some y2
  else some false
noncomputable def zq157.l4 (x0 : TServer) (n : Nat) : Int → Option Bool :=
  V.iter (fun (r4 : Int → Option Bool) => fun v4_0 => zq157.g4 x0 r4 v4_0) (fun _ => none) n
theorem zq157.u4 (x0 : TServer) (n : Nat) (v4_0 : Int) : zq157.l4 x0 (n + 1) v4_0 = zq157.g4 x0 (zq157.l4 x0 n) v4_0 := rfl
noncomputable abbrev zq157.b (x0 : TServer) (L4 : Int → Option Bool) : Option Bool :=
  L4 (0 : Int)
noncomputable def zq157 (x0 : TServer) : Option Bool :=
  zq157.b x0 (zq157.l4 x0 V.KK)
noncomputable def zq178 (x0 : TZone) : Option Int :=
  (zq164 x0.1).bind fun y1 =>
  (zq160 x0).bind fun y2 =>
    bif !y2 then
      some (-1 : Int)
    else some (Head_Zone (RHeadBool_r0 y1))
noncomputable abbrev zq174.g4 (x0 : TServer) (x1 : Int) (r4 : Int → Option Int) (v4_1 : Int) : Option Int :=
  bif decide (v4_1 < (x0.1.length : Int)) then
  bif decide (0 ≤ v4_1) then
    bif decide (v4_1 < (x0.1.length : Int)) then
      (zq178 (x0.1.getD v4_1.toNat dZone)).bind fun y1 =>
        bif y1 == x1 then
          bif decide (x1 ≥ (0 : Int)) then
            some v4_1
          else r4 (IntKind.i64.wrap (v4_1 + (1 : Int)))
        else r4 (IntKind.i64.wrap (v4_1 + (1 : Int)))
    else none
  else none
else some (-1 : Int)
noncomputable def zq174.l4 (x0 : TServer) (x1 : Int) (n : Nat) : Int → Option Int :=
  V.iter (fun (r4 : Int → Option Int) => fun v4_1 => zq174.g4 x0 x1 r4 v4_1) (fun _ => none) n
theorem zq174.u4 (x0 : TServer) (x1 : Int) (n : Nat) (v4_1 : Int) : zq174.l4 x0 x1 (n + 1) v4_1 = zq174.g4 x0 x1 (zq174.l4 x0 x1 n) v4_1 := rfl
noncomputable abbrev zq174.b (x0 : TServer) (x1 : Int) (L4 : Int → Option Int) : Option Int :=
  L4 (0 : Int)
noncomputable def zq174 (x0 : TServer) (x1 : Int) : Option Int :=
  zq174.b x0 x1 (zq174.l4 x0 x1 V.KK)
noncomputable abbrev zq175.g7 (x0 : TServer) (x1 : TZone) (y1 : TServer) (v7_0 : Bool) : Option TRServerBool :=
  bif v7_0 then
  some (RServerBool_mk y1 false)
else
  (zq178 x1).bind fun y3 =>
    (zq174 x0 y3).bind fun y4 =>
      bif decide (y4 ≥ (0 : Int)) then
        (zq189 x1).bind fun y5 =>
          bif decide (0 ≤ y4) then
            bif decide (y4 < (y1.1.length : Int)) then
              some (RServerBool_mk (y1.1.set y4.toNat y5, y1.2) true)
            else none
          else none
      else
        bif decide ((x0.1.length : Int) ≥ (8 : Int)) then
          some (RServerBool_mk y1 false)
        else
          (zq189 x1).bind fun y6 =>
            V.both (bif decide (y1.1.length + [y6].length < 68719476736) then
                some (RServerBool_mk (y1.1 ++ [y6], y1.2) true)
              else none)
              (V.both (V.both (bif decide (y1.1.length + [y6].length < 68719476736) then
                    some (RServerBool_mk (y1.1 ++ [y6], y1.2) true)
                  else none)
                  (bif decide (y1.1.length + [y6].length < 68719476736) then
                    some (RServerBool_mk (y1.1 ++ [y6], y1.2) true)
                  else none))
                (V.both (V.both (bif decide (y1.1.length + [y6].length < 68719476736) then
                      some (RServerBool_mk (y1.1 ++ [y6], y1.2) true)
                    else none)
                    (V.both (bif decide (y1.1.length + [y6].length < 68719476736) then
                        some (RServerBool_mk (y1.1 ++ [y6], y1.2) true)
                      else none)
                      (bif decide (y1.1.length + [y6].length < 68719476736) then
                        some (RServerBool_mk (y1.1 ++ [y6], y1.2) true)
                      else none)))
                  (V.both (V.both (bif decide (y1.1.length + [y6].length < 68719476736) then
                        some (RServerBool_mk (y1.1 ++ [y6], y1.2) true)
                      else none)
                      (bif decide (y1.1.length + [y6].length < 68719476736) then
                        some (RServerBool_mk (y1.1 ++ [y6], y1.2) true)
                      else none))
                    (bif decide (y1.1.length + [y6].length < 68719476736) then
                      some (RServerBool_mk (y1.1 ++ [y6], y1.2) true)
                    else none))))
noncomputable def zq175.l7 (x0 : TServer) (x1 : TZone) (y1 : TServer) (v7_0 : Bool) : Option TRServerBool :=
  zq175.g7 x0 x1 y1 v7_0
noncomputable abbrev zq175.b (x0 : TServer) (x1 : TZone) (L7 : TServer → Bool → Option TRServerBool) : Option TRServerBool :=
  (zq190 x0).bind fun y1 =>
  (zq157 x0).bind fun y2 =>
    bif !y2 then
      L7 y1 true
    else
      (zq160 x1).bind fun y7 =>
        L7 y1 (!y7)
noncomputable def zq175 (x0 : TServer) (x1 : TZone) : Option TRServerBool :=
  zq175.b x0 x1 (fun y1 => zq175.l7 x0 x1 y1)
noncomputable def zq126 (x0 : List Int) : Option (List Int) :=
  bif x0.isEmpty then
  V.both (some [])
    (bif decide (([] : List Int).length + x0.length < 68719476736) then
      some ([] ++ x0)
    else none)
else
  bif decide (([] : List Int).length + x0.length < 68719476736) then
    some ([] ++ x0)
  else none
noncomputable def zq53 (x0 : TKeys) : Option TKeys :=
  (zq126 x0.1).bind fun y1 =>
  some (y1, x0.2)
noncomputable def zq52 (x0 : THead) : Option THead :=
  (zq53 (Head_Keys x0)).bind fun y1 =>
  (zq53 (Head_Heirs x0)).bind fun y2 =>
    (zq53 (Head_Judge x0)).bind fun y3 =>
      some (Head_mk (Head_Zone x0) (Head_Epoch x0) (Head_Kind x0) (Head_Time x0) (Head_Until x0) (Head_Count x0) (Head_Root x0) (Head_Prev x0) y1 y2 (Head_Wait x0) y3 (Head_Frozen x0))
noncomputable def zq125 (x0 : List TSig) : Option (List TSig) :=
  bif x0.isEmpty then
  V.both (some [])
    (bif decide (([] : List TSig).length + x0.length < 68719476736) then
      some ([] ++ x0)
    else none)
else
  bif decide (([] : List TSig).length + x0.length < 68719476736) then
    some ([] ++ x0)
  else none
noncomputable def zq55 (x0 : TSigned) : Option TSigned :=
  (zq52 (Signed_Head x0)).bind fun y1 =>
  (zq125 (Signed_Sigs x0)).bind fun y2 =>
    some (Signed_mk y1 y2)
noncomputable abbrev zq49.g6 (x0 : List TSigned) (r6 : Int → Int → (List TSigned) → Option (List TSigned)) (v6_1 : Int) (v6_2 : Int) (v6_3 : List TSigned) : Option (List TSigned) :=
  bif decide (v6_2 < v6_1) then
  bif decide (0 ≤ v6_2) then
    bif decide (v6_2 < (x0.length : Int)) then
      (zq55 (x0.getD v6_2.toNat dSigned)).bind fun y1 =>
        bif decide (v6_3.length + [y1].length < 68719476736) then
          r6 v6_1 (IntKind.i64.wrap (v6_2 + (1 : Int))) (v6_3 ++ [y1])
        else none
    else none
  else none
else some v6_3
noncomputable def zq49.l6 (x0 : List TSigned) (n : Nat) : Int → Int → (List TSigned) → Option (List TSigned) :=
  V.iter (fun (r6 : Int → Int → (List TSigned) → Option (List TSigned)) => fun v6_1 v6_2 v6_3 => zq49.g6 x0 r6 v6_1 v6_2 v6_3) (fun _ _ _ => none) n
theorem zq49.u6 (x0 : List TSigned) (n : Nat) (v6_1 : Int) (v6_2 : Int) (v6_3 : List TSigned) : zq49.l6 x0 (n + 1) v6_1 v6_2 v6_3 = zq49.g6 x0 (zq49.l6 x0 n) v6_1 v6_2 v6_3 := rfl
noncomputable abbrev zq49.b (x0 : List TSigned) (L6 : Int → Int → (List TSigned) → Option (List TSigned)) : Option (List TSigned) :=
  L6 (x0.length : Int) (0 : Int) []
noncomputable def zq49 (x0 : List TSigned) : Option (List TSigned) :=
  zq49.b x0 (zq49.l6 x0 V.KK)
noncomputable def zq127 (x0 : List ByteArray) : Option (List ByteArray) :=
  bif x0.isEmpty then
  V.both (some [])
    (bif decide (([] : List ByteArray).length + x0.length < 68719476736) then
      some ([] ++ x0)
    else none)
else
  bif decide (([] : List ByteArray).length + x0.length < 68719476736) then
    some ([] ++ x0)
  else none
noncomputable def zq51 (x0 : TEntry) : Option TEntry :=
  (zq127 x0.2.2.2).bind fun y1 =>
  some (x0.1, x0.2.1, x0.2.2.1, y1)
noncomputable abbrev zq50.g6 (x0 : List TEntry) (r6 : Int → Int → (List TEntry) → Option (List TEntry)) (v6_1 : Int) (v6_2 : Int) (v6_3 : List TEntry) : Option (List TEntry) :=
  bif decide (v6_2 < v6_1) then
  bif decide (0 ≤ v6_2) then
    bif decide (v6_2 < (x0.length : Int)) then
      (zq51 (x0.getD v6_2.toNat dEntry)).bind fun y1 =>
        bif decide (v6_3.length + [y1].length < 68719476736) then
          r6 v6_1 (IntKind.i64.wrap (v6_2 + (1 : Int))) (v6_3 ++ [y1])
        else none
    else none
  else none
else some v6_3
noncomputable def zq50.l6 (x0 : List TEntry) (n : Nat) : Int → Int → (List TEntry) → Option (List TEntry) :=
  V.iter (fun (r6 : Int → Int → (List TEntry) → Option (List TEntry)) => fun v6_1 v6_2 v6_3 => zq50.g6 x0 r6 v6_1 v6_2 v6_3) (fun _ _ _ => none) n
theorem zq50.u6 (x0 : List TEntry) (n : Nat) (v6_1 : Int) (v6_2 : Int) (v6_3 : List TEntry) : zq50.l6 x0 (n + 1) v6_1 v6_2 v6_3 = zq50.g6 x0 (zq50.l6 x0 n) v6_1 v6_2 v6_3 := rfl
noncomputable abbrev zq50.b (x0 : List TEntry) (L6 : Int → Int → (List TEntry) → Option (List TEntry)) : Option (List TEntry) :=
  L6 (x0.length : Int) (0 : Int) []
noncomputable def zq50 (x0 : List TEntry) : Option (List TEntry) :=
  zq50.b x0 (zq50.l6 x0 V.KK)
noncomputable def zq56 (x0 : TZone) : Option TZone :=
  (zq49 x0.1).bind fun y1 =>
  (zq50 x0.2).bind fun y2 =>
    some (y1, y2)
noncomputable abbrev zq54.g6 (x0 : TServer) (r6 : Int → Int → (List TZone) → Option TServer) (v6_1 : Int) (v6_2 : Int) (v6_5 : List TZone) : Option TServer :=
  bif decide (v6_2 < v6_1) then
  bif decide (0 ≤ v6_2) then
    bif decide (v6_2 < (x0.1.length : Int)) then
      (zq56 (x0.1.getD v6_2.toNat dZone)).bind fun y1 =>
        V.both (bif decide (v6_5.length + [y1].length < 68719476736) then
            r6 v6_1 (IntKind.i64.wrap (v6_2 + (1 : Int))) (v6_5 ++ [y1])
          else none)
          (V.both (V.both (bif decide (v6_5.length + [y1].length < 68719476736) then
                r6 v6_1 (IntKind.i64.wrap (v6_2 + (1 : Int))) (v6_5 ++ [y1])
              else none)
              (bif decide (v6_5.length + [y1].length < 68719476736) then
                r6 v6_1 (IntKind.i64.wrap (v6_2 + (1 : Int))) (v6_5 ++ [y1])
              else none))
            (V.both (V.both (bif decide (v6_5.length + [y1].length < 68719476736) then
                  r6 v6_1 (IntKind.i64.wrap (v6_2 + (1 : Int))) (v6_5 ++ [y1])
                else none)
                (V.both (bif decide (v6_5.length + [y1].length < 68719476736) then
                    r6 v6_1 (IntKind.i64.wrap (v6_2 + (1 : Int))) (v6_5 ++ [y1])
                  else none)
                  (bif decide (v6_5.length + [y1].length < 68719476736) then
                    r6 v6_1 (IntKind.i64.wrap (v6_2 + (1 : Int))) (v6_5 ++ [y1])
                  else none)))
              (V.both (V.both (bif decide (v6_5.length + [y1].length < 68719476736) then
                    r6 v6_1 (IntKind.i64.wrap (v6_2 + (1 : Int))) (v6_5 ++ [y1])
                  else none)
                  (bif decide (v6_5.length + [y1].length < 68719476736) then
                    r6 v6_1 (IntKind.i64.wrap (v6_2 + (1 : Int))) (v6_5 ++ [y1])
                  else none))
                (bif decide (v6_5.length + [y1].length < 68719476736) then
                  r6 v6_1 (IntKind.i64.wrap (v6_2 + (1 : Int))) (v6_5 ++ [y1])
                else none))))
    else none
  else none
else some (v6_5, x0.2)
noncomputable def zq54.l6 (x0 : TServer) (n : Nat) : Int → Int → (List TZone) → Option TServer :=
  V.iter (fun (r6 : Int → Int → (List TZone) → Option TServer) => fun v6_1 v6_2 v6_5 => zq54.g6 x0 r6 v6_1 v6_2 v6_5) (fun _ _ _ => none) n
theorem zq54.u6 (x0 : TServer) (n : Nat) (v6_1 : Int) (v6_2 : Int) (v6_5 : List TZone) : zq54.l6 x0 (n + 1) v6_1 v6_2 v6_5 = zq54.g6 x0 (zq54.l6 x0 n) v6_1 v6_2 v6_5 := rfl
noncomputable abbrev zq54.b (x0 : TServer) (L6 : Int → Int → (List TZone) → Option TServer) : Option TServer :=
  L6 (x0.1.length : Int) (0 : Int) []
noncomputable def zq54 (x0 : TServer) : Option TServer :=
  zq54.b x0 (zq54.l6 x0 V.KK)
noncomputable def zq12 (x0 : Int) (x1 : Int) (x2 : Int) : Option Bool :=
  bif decide (x1 ≤ x0) then
  some (decide (x0 ≤ x2))
else some false
noncomputable def zq59 (x0 : Int) : Option Bool :=
  (zq12 x0 (0 : Int) (2147483646 : Int)).bind fun y1 =>
  some y1
noncomputable def zq63 (x0 : THead) : Option Bool :=
  bif decide ((Head_Time x0) ≥ (0 : Int)) then
  bif decide ((Head_Time x0) ≤ (Head_Until x0)) then
    bif decide ((Head_Until x0) ≤ (100000 : Int)) then
      some (decide ((IntKind.i64.wrap ((Head_Until x0) - (Head_Time x0))) ≤ (200 : Int)))
    else some false
  else some false
else some false
noncomputable abbrev zq47.g4 (x0 : List Int) (r4 : Int → Int → Option Bool) (v4_1 : Int) (v4_2 : Int) : Option Bool :=
  bif decide (v4_2 < v4_1) then
  bif decide (v4_2 > (0 : Int)) then
    bif decide (0 ≤ v4_2) then
      bif decide (v4_2 < (x0.length : Int)) then
        bif decide (0 ≤ (IntKind.i64.wrap (v4_2 - (1 : Int)))) then
          bif decide ((IntKind.i64.wrap (v4_2 - (1 : Int))) < (x0.length : Int)) then
            bif decide ((x0.getD v4_2.toNat (0 : Int)) ≤ (x0.getD ((IntKind.i64.wrap (v4_2 - (1 : Int))).toNat) (0 : Int))) then
              some false
            else r4 v4_1 (IntKind.i64.wrap (v4_2 + (1 : Int)))
          else none
        else none
      else none
    else none
  else r4 v4_1 (IntKind.i64.wrap (v4_2 + (1 : Int)))
else some true
noncomputable def zq47.l4 (x0 : List Int) (n : Nat) : Int → Int → Option Bool :=
  V.iter (fun (r4 : Int → Int → Option Bool) => fun v4_1 v4_2 => zq47.g4 x0 r4 v4_1 v4_2) (fun _ _ => none) n
theorem zq47.u4 (x0 : List Int) (n : Nat) (v4_1 : Int) (v4_2 : Int) : zq47.l4 x0 (n + 1) v4_1 v4_2 = zq47.g4 x0 (zq47.l4 x0 n) v4_1 v4_2 := rfl
noncomputable abbrev zq47.b (x0 : List Int) (L4 : Int → Int → Option Bool) : Option Bool :=
  L4 (x0.length : Int) (0 : Int)
noncomputable def zq47 (x0 : List Int) : Option Bool :=
  zq47.b x0 (zq47.l4 x0 V.KK)
noncomputable def zq60 (x0 : Int) : Option Bool :=
  (zq12 x0 (1 : Int) (99 : Int)).bind fun y1 =>
  some y1
noncomputable def zq17 (x0 : TKeys) : Option Bool :=
  (zq12 (x0.1.length : Int) (1 : Int) (4 : Int)).bind fun y1 =>
  bif y1 then
    (zq47 x0.1).bind fun y2 =>
      bif y2 then
        bif decide (0 ≤ (0 : Int)) then
          bif decide ((0 : Int) < (x0.1.length : Int)) then
            (zq60 (x0.1.getD ((0 : Int).toNat) (0 : Int))).bind fun y3 =>
              bif y3 then
                bif decide (0 ≤ (IntKind.i64.wrap ((x0.1.length : Int) - (1 : Int)))) then
                  bif decide ((IntKind.i64.wrap ((x0.1.length : Int) - (1 : Int))) < (x0.1.length : Int)) then
                    (zq60 (x0.1.getD ((IntKind.i64.wrap ((x0.1.length : Int) - (1 : Int))).toNat) (0 : Int))).bind fun y4 =>
                      bif y4 then
                        (zq12 x0.2 (1 : Int) (x0.1.length : Int)).bind fun y5 =>
                          some y5
                      else some false
                  else none
                else none
              else some false
          else none
        else none
      else some false
  else some false
noncomputable def zq34 (x0 : TKeys) : Option Bool :=
  bif x0.2 == (0 : Int) then
  some ((x0.1.length : Int) == (0 : Int))
else some false
noncomputable def zq61 (x0 : TKeys) : Option Bool :=
  (zq34 x0).bind fun y1 =>
  bif y1 then
    some true
  else
    (zq17 x0).bind fun y2 =>
      some y2
noncomputable def zq64 (x0 : Int) (x1 : TKeys) : Option Bool :=
  (zq34 x1).bind fun y1 =>
  bif y1 then
    some (x0 == (0 : Int))
  else
    (zq12 x0 (1 : Int) (500 : Int)).bind fun y2 =>
      some y2
noncomputable def zq16 (x0 : THead) : Option Bool :=
  (zq59 (Head_Zone x0)).bind fun y1 =>
  bif y1 then
    (zq59 (Head_Root x0)).bind fun y2 =>
      bif y2 then
        (zq59 (Head_Prev x0)).bind fun y3 =>
          bif y3 then
            (zq12 (Head_Epoch x0) (0 : Int) (200 : Int)).bind fun y4 =>
              bif y4 then
                (zq12 (Head_Kind x0) (1 : Int) (3 : Int)).bind fun y5 =>
                  bif y5 then
                    (zq63 x0).bind fun y6 =>
                      bif y6 then
                        (zq12 (Head_Count x0) (0 : Int) (12 : Int)).bind fun y7 =>
                          bif y7 then
                            (zq17 (Head_Keys x0)).bind fun y8 =>
                              bif y8 then
                                (zq61 (Head_Heirs x0)).bind fun y9 =>
                                  bif y9 then
                                    (zq61 (Head_Judge x0)).bind fun y10 =>
                                      bif y10 then
                                        (zq64 (Head_Wait x0) (Head_Heirs x0)).bind fun y11 =>
                                          bif y11 then
                                            bif (Head_Frozen x0) then
                                              (zq34 (Head_Judge x0)).bind fun y12 =>
                                                some (!y12)
                                            else some true
                                          else some false
                                      else some false
                                  else some false
                              else some false
                          else some false
                      else some false
                  else some false
              else some false
          else some false
      else some false
  else some false
noncomputable def zq27 (x0 : TKeys) : Option (List Int) :=
  bif decide ([x0.2, (x0.1.length : Int)].length + x0.1.length < 68719476736) then
  some ([x0.2, (x0.1.length : Int)] ++ x0.1)
else none
noncomputable def zq32 (x0 : Int) (x1 : Int) : Option Int :=
  (zq12 x1 (1 : Int) (1000000000000 : Int)).bind fun y1 =>
  bif !y1 then
    some (0 : Int)
  else
    bif (x1 == (0 : Int)) then
      none
    else
      bif (x1 == (0 : Int)) then
        none
      else some (Int.tmod (IntKind.i64.wrap ((Int.tmod x0 x1) + x1)) x1)
noncomputable abbrev zq9.g6 (x0 : List Int) (r6 : Int → Int → Int → Option Int) (v6_0 : Int) (v6_2 : Int) (v6_3 : Int) : Option Int :=
  bif decide (v6_3 < v6_2) then
  bif decide (0 ≤ v6_3) then
    bif decide (v6_3 < (x0.length : Int)) then
      (zq32 (x0.getD v6_3.toNat (0 : Int)) (2147483647 : Int)).bind fun y1 =>
        bif ((2147483647 : Int) == (0 : Int)) then
          none
        else r6 (Int.tmod (IntKind.i64.wrap ((IntKind.i64.wrap ((IntKind.i64.wrap (v6_0 * (1000003 : Int))) + y1)) + (13 : Int))) (2147483647 : Int)) v6_2 (IntKind.i64.wrap (v6_3 + (1 : Int)))
    else none
  else none
else some v6_0
noncomputable def zq9.l6 (x0 : List Int) (n : Nat) : Int → Int → Int → Option Int :=
  V.iter (fun (r6 : Int → Int → Int → Option Int) => fun v6_0 v6_2 v6_3 => zq9.g6 x0 r6 v6_0 v6_2 v6_3) (fun _ _ _ => none) n
theorem zq9.u6 (x0 : List Int) (n : Nat) (v6_0 : Int) (v6_2 : Int) (v6_3 : Int) : zq9.l6 x0 (n + 1) v6_0 v6_2 v6_3 = zq9.g6 x0 (zq9.l6 x0 n) v6_0 v6_2 v6_3 := rfl
noncomputable abbrev zq9.b (x0 : List Int) (L6 : Int → Int → Int → Option Int) : Option Int :=
  L6 (11 : Int) (x0.length : Int) (0 : Int)
noncomputable def zq9 (x0 : List Int) : Option Int :=
  zq9.b x0 (zq9.l6 x0 V.KK)
noncomputable def zq45 (x0 : TKeys) (x1 : Int) : Option Int :=
  (zq27 x0).bind fun y1 =>
  bif decide ([(239 : Int), x1].length + y1.length < 68719476736) then
    (zq9 ([(239 : Int), x1] ++ y1)).bind fun y2 =>
      some y2
  else none
noncomputable def zq48 (x0 : Bool) : Option Int :=
  bif x0 then
  some (1 : Int)
else some (0 : Int)
noncomputable abbrev zq133.g7 (x1 : Int) : Option (List Int) :=
  bif decide ((IntKind.i64.wrap (x1 - (IntKind.i64.wrap ((0 : Int) - ((0 : Nat) : Int))))) > (0 : Int)) then
  bif decide (0 ≤ (IntKind.i64.wrap (x1 - (IntKind.i64.wrap ((0 : Int) - ((0 : Nat) : Int)))))) then
    bif decide ((IntKind.i64.wrap (x1 - (IntKind.i64.wrap ((0 : Int) - ((0 : Nat) : Int))))) < (68719476736 : Int)) then
      bif decide (0 ≤ (0 : Int)) then
        bif decide ((0 : Int) ≤ ((0 : Nat) : Int)) then
          bif decide (((0 : Nat) : Int) ≤ (((List.replicate ((IntKind.i64.wrap (x1 - (IntKind.i64.wrap ((0 : Int) - ((0 : Nat) : Int))))).toNat) (0 : Int)).length) : Int)) then
            some ((List.replicate ((IntKind.i64.wrap (x1 - (IntKind.i64.wrap ((0 : Int) - ((0 : Nat) : Int))))).toNat) (0 : Int)).take (((0 : Nat) : Int).toNat))
          else none
        else none
      else none
    else none
  else none
else some []
noncomputable def zq133.l7 (x1 : Int) : Option (List Int) :=
  zq133.g7 x1
noncomputable abbrev zq133.b (x0 : List Int) (x1 : Int) (L7 : Option (List Int)) : Option (List Int) :=
  bif decide (x1 < (0 : Int)) then
  none
else L7
noncomputable def zq133 (x0 : List Int) (x1 : Int) : Option (List Int) :=
  zq133.b x0 x1 (zq133.l7 x1)
noncomputable abbrev zq128.g22 (x0 : List (List Int)) (r22 : Int → Int → (List Int) → Option (List Int)) (v22_1 : Int) (v22_2 : Int) (v22_3 : List Int) : Option (List Int) :=
  bif decide (v22_2 < v22_1) then
  bif decide (0 ≤ v22_2) then
    bif decide (v22_2 < (x0.length : Int)) then
      bif decide (v22_3.length + (x0.getD v22_2.toNat []).length < 68719476736) then
        r22 v22_1 (IntKind.i64.wrap (v22_2 + (1 : Int))) (v22_3 ++ (x0.getD v22_2.toNat []))
      else none
    else none
  else none
else some v22_3
noncomputable def zq128.l22 (x0 : List (List Int)) (n : Nat) : Int → Int → (List Int) → Option (List Int) :=
  V.iter (fun (r22 : Int → Int → (List Int) → Option (List Int)) => fun v22_1 v22_2 v22_3 => zq128.g22 x0 r22 v22_1 v22_2 v22_3) (fun _ _ _ => none) n
theorem zq128.u22 (x0 : List (List Int)) (n : Nat) (v22_1 : Int) (v22_2 : Int) (v22_3 : List Int) : zq128.l22 x0 (n + 1) v22_1 v22_2 v22_3 = zq128.g22 x0 (zq128.l22 x0 n) v22_1 v22_2 v22_3 := rfl
noncomputable abbrev zq128.g6 (x0 : List (List Int)) (r6 : Int → Int → Int → Option (List Int)) (L22 : Int → Int → (List Int) → Option (List Int)) (v6_1 : Int) (v6_3 : Int) (v6_4 : Int) : Option (List Int) :=
  bif decide (v6_4 < v6_3) then
  bif decide (0 ≤ v6_4) then
    bif decide (v6_4 < (x0.length : Int)) then
      bif decide ((IntKind.i64.wrap (v6_1 + ((x0.getD v6_4.toNat []).length : Int))) < (0 : Int)) then
        none
      else r6 (IntKind.i64.wrap (v6_1 + ((x0.getD v6_4.toNat []).length : Int))) v6_3 (IntKind.i64.wrap (v6_4 + (1 : Int)))
    else none
  else none
else
  (zq133 [] v6_1).bind fun y1 =>
    L22 (x0.length : Int) (0 : Int) y1
noncomputable def zq128.l6 (x0 : List (List Int)) (n : Nat) : Int → Int → Int → Option (List Int) :=
  V.iter (fun (r6 : Int → Int → Int → Option (List Int)) => fun v6_1 v6_3 v6_4 => zq128.g6 x0 r6 (zq128.l22 x0 V.KK) v6_1 v6_3 v6_4) (fun _ _ _ => none) n
theorem zq128.u6 (x0 : List (List Int)) (n : Nat) (v6_1 : Int) (v6_3 : Int) (v6_4 : Int) : zq128.l6 x0 (n + 1) v6_1 v6_3 v6_4 = zq128.g6 x0 (zq128.l6 x0 n) (zq128.l22 x0 V.KK) v6_1 v6_3 v6_4 := rfl
noncomputable abbrev zq128.b (x0 : List (List Int)) (L6 : Int → Int → Int → Option (List Int)) : Option (List Int) :=
  L6 (0 : Int) (x0.length : Int) (0 : Int)
noncomputable def zq128 (x0 : List (List Int)) : Option (List Int) :=
  zq128.b x0 (zq128.l6 x0 V.KK)
noncomputable def zq11 (x0 : THead) : Option (List Int) :=
  (zq27 (Head_Keys x0)).bind fun y1 =>
  (zq27 (Head_Heirs x0)).bind fun y2 =>
    (zq27 (Head_Judge x0)).bind fun y3 =>
      (zq48 (Head_Frozen x0)).bind fun y4 =>
        (zq128 [[(Head_Zone x0), (Head_Epoch x0), (Head_Kind x0), (Head_Time x0), (Head_Until x0), (Head_Count x0), (Head_Root x0), (Head_Prev x0)], y1, y2, [(Head_Wait x0)], y3, [y4]]).bind fun y5 =>
          some y5
noncomputable def zq26 (x0 : Int) (x1 : List Int) : Option Int :=
  (zq128 [[x0], x1, [x0]]).bind fun y1 =>
  (zq9 y1).bind fun y2 =>
    some y2
noncomputable def zq42 (x0 : Int) (x1 : List Int) : Option Int :=
  bif decide ([(223 : Int)].length + x1.length < 68719476736) then
  (zq26 x0 ([(223 : Int)] ++ x1)).bind fun y1 =>
    some y1
else none
noncomputable def zq23 (x0 : TSig) (x1 : List Int) : Option Bool :=
  (zq60 x0.1).bind fun y1 =>
  bif y1 then
    (zq42 x0.1 x1).bind fun y2 =>
      some (x0.2 == y2)
  else some false
noncomputable def zq5 (x0 : TSig) (x1 : Int) (x2 : List Int) : Option Bool :=
  bif x0.1 == x1 then
  (zq23 x0 x2).bind fun y1 =>
    some y1
else some false
noncomputable abbrev zq134.g4 (x0 : List TSig) (x1 : (Unit) × (Int × List Int)) (r4 : Int → Int → Option Int) (v4_2 : Int) (v4_3 : Int) : Option Int :=
  bif decide (v4_3 < v4_2) then
  bif decide (0 ≤ v4_3) then
    bif decide (v4_3 < (x0.length : Int)) then
      (zq5 (x0.getD v4_3.toNat dSig) x1.2.1 x1.2.2).bind fun y1 =>
        bif y1 then
          some v4_3
        else r4 v4_2 (IntKind.i64.wrap (v4_3 + (1 : Int)))
    else none
  else none
else some (-1 : Int)
noncomputable def zq134.l4 (x0 : List TSig) (x1 : (Unit) × (Int × List Int)) (n : Nat) : Int → Int → Option Int :=
  V.iter (fun (r4 : Int → Int → Option Int) => fun v4_2 v4_3 => zq134.g4 x0 x1 r4 v4_2 v4_3) (fun _ _ => none) n
theorem zq134.u4 (x0 : List TSig) (x1 : (Unit) × (Int × List Int)) (n : Nat) (v4_2 : Int) (v4_3 : Int) : zq134.l4 x0 x1 (n + 1) v4_2 v4_3 = zq134.g4 x0 x1 (zq134.l4 x0 x1 n) v4_2 v4_3 := rfl
noncomputable abbrev zq134.b (x0 : List TSig) (x1 : (Unit) × (Int × List Int)) (L4 : Int → Int → Option Int) : Option Int :=
  L4 (x0.length : Int) (0 : Int)
noncomputable def zq134 (x0 : List TSig) (x1 : (Unit) × (Int × List Int)) : Option Int :=
  zq134.b x0 x1 (zq134.l4 x0 x1 V.KK)
noncomputable def zq129 (x0 : List TSig) (x1 : (Unit) × (Int × List Int)) : Option Bool :=
  (zq134 x0 (x1.1, x1.2)).bind fun y1 =>
  some (decide (y1 ≥ (0 : Int)))
noncomputable abbrev zq4.g6 (x0 : TKeys) (x1 : List Int) (x2 : List TSig) (r6 : Int → Int → Int → Option Int) (v6_1 : Int) (v6_3 : Int) (v6_4 : Int) : Option Int :=
  bif decide (v6_4 < v6_3) then
  bif decide (0 ≤ v6_4) then
    bif decide (v6_4 < (x0.1.length : Int)) then
      (zq129 x2 ((), (x0.1.getD v6_4.toNat (0 : Int), x1))).bind fun y1 =>
        bif y1 then
          r6 (IntKind.i64.wrap (v6_1 + (1 : Int))) v6_3 (IntKind.i64.wrap (v6_4 + (1 : Int)))
        else r6 v6_1 v6_3 (IntKind.i64.wrap (v6_4 + (1 : Int)))
    else none
  else none
else some v6_1
noncomputable def zq4.l6 (x0 : TKeys) (x1 : List Int) (x2 : List TSig) (n : Nat) : Int → Int → Int → Option Int :=
  V.iter (fun (r6 : Int → Int → Int → Option Int) => fun v6_1 v6_3 v6_4 => zq4.g6 x0 x1 x2 r6 v6_1 v6_3 v6_4) (fun _ _ _ => none) n
theorem zq4.u6 (x0 : TKeys) (x1 : List Int) (x2 : List TSig) (n : Nat) (v6_1 : Int) (v6_3 : Int) (v6_4 : Int) : zq4.l6 x0 x1 x2 (n + 1) v6_1 v6_3 v6_4 = zq4.g6 x0 x1 x2 (zq4.l6 x0 x1 x2 n) v6_1 v6_3 v6_4 := rfl
noncomputable abbrev zq4.b (x0 : TKeys) (x1 : List Int) (x2 : List TSig) (L6 : Int → Int → Int → Option Int) : Option Int :=
  L6 (0 : Int) (x0.1.length : Int) (0 : Int)
noncomputable def zq4 (x0 : TKeys) (x1 : List Int) (x2 : List TSig) : Option Int :=
  zq4.b x0 x1 x2 (zq4.l6 x0 x1 x2 V.KK)
noncomputable def zq24 (x0 : TKeys) (x1 : List Int) (x2 : List TSig) : Option Bool :=
  (zq17 x0).bind fun y1 =>
  bif y1 then
    (zq4 x0 x1 x2).bind fun y2 =>
      some (decide (y2 ≥ x0.2))
  else some false
noncomputable def zq40 (x0 : TSigned) (x1 : TKeys) : Option Bool :=
  (zq11 (Signed_Head x0)).bind fun y1 =>
  (zq24 x1 y1 (Signed_Sigs x0)).bind fun y2 =>
    some y2
noncomputable def zq15 (x0 : TSigned) : Option Bool :=
  (zq16 (Signed_Head x0)).bind fun y1 =>
  bif y1 then
    bif (Head_Epoch (Signed_Head x0)) == (0 : Int) then
      bif (Head_Kind (Signed_Head x0)) == (1 : Int) then
        bif !(Head_Frozen (Signed_Head x0)) then
          (zq45 (Head_Keys (Signed_Head x0)) (Head_Prev (Signed_Head x0))).bind fun y2 =>
            bif (Head_Zone (Signed_Head x0)) == y2 then
              (zq40 x0 (Head_Keys (Signed_Head x0))).bind fun y3 =>
                some y3
            else some false
        else some false
      else some false
    else some false
  else some false
noncomputable def zq10 (x0 : THead) : Option Int :=
  (zq11 x0).bind fun y1 =>
  bif decide ([(233 : Int)].length + y1.length < 68719476736) then
    (zq9 ([(233 : Int)] ++ y1)).bind fun y2 =>
      some y2
  else none
noncomputable def zq62 (x0 : THead) (x1 : THead) : Option Bool :=
  bif (Head_Zone x1) == (Head_Zone x0) then
  bif (Head_Epoch x1) == (IntKind.i64.wrap ((Head_Epoch x0) + (1 : Int))) then
    (zq10 x0).bind fun y1 =>
      bif (Head_Prev x1) == y1 then
        some (decide ((Head_Time x1) ≥ (Head_Time x0)))
      else some false
  else some false
else some false
noncomputable def zq67 (x0 : THead) (x1 : TSigned) : Option Int :=
  bif (Head_Frozen x0) then
  some (4 : Int)
else
  bif (Head_Frozen (Signed_Head x1)) then
    some (6 : Int)
  else
    (zq40 x1 (Head_Keys x0)).bind fun y1 =>
      bif !y1 then
        some (7 : Int)
      else some (1 : Int)
noncomputable abbrev zq132.g8 (x0 : List Int) (x1 : List Int) (r8 : Int → Int → Option Bool) (v8_2 : Int) (v8_3 : Int) : Option Bool :=
  bif decide (v8_3 < v8_2) then
  bif decide (0 ≤ v8_3) then
    bif decide (v8_3 < (x0.length : Int)) then
      bif decide (0 ≤ v8_3) then
        bif decide (v8_3 < (x1.length : Int)) then
          bif (x0.getD v8_3.toNat (0 : Int)) != (x1.getD v8_3.toNat (0 : Int)) then
            some false
          else r8 v8_2 (IntKind.i64.wrap (v8_3 + (1 : Int)))
        else none
      else none
    else none
  else none
else some true
noncomputable def zq132.l8 (x0 : List Int) (x1 : List Int) (n : Nat) : Int → Int → Option Bool :=
  V.iter (fun (r8 : Int → Int → Option Bool) => fun v8_2 v8_3 => zq132.g8 x0 x1 r8 v8_2 v8_3) (fun _ _ => none) n
theorem zq132.u8 (x0 : List Int) (x1 : List Int) (n : Nat) (v8_2 : Int) (v8_3 : Int) : zq132.l8 x0 x1 (n + 1) v8_2 v8_3 = zq132.g8 x0 x1 (zq132.l8 x0 x1 n) v8_2 v8_3 := rfl
noncomputable abbrev zq132.b (x0 : List Int) (x1 : List Int) (L8 : Int → Int → Option Bool) : Option Bool :=
  bif (x0.length : Int) != (x1.length : Int) then
  some false
else L8 (x0.length : Int) (0 : Int)
noncomputable def zq132 (x0 : List Int) (x1 : List Int) : Option Bool :=
  zq132.b x0 x1 (zq132.l8 x0 x1 V.KK)
noncomputable def zq7 (x0 : TKeys) (x1 : TKeys) : Option Bool :=
  (zq132 x0.1 x1.1).bind fun y1 =>
  bif y1 then
    some (x0.2 == x1.2)
  else some false
noncomputable def zq37 (x0 : THead) (x1 : THead) : Option Bool :=
  bif (Head_Count x0) == (Head_Count x1) then
  some ((Head_Root x0) == (Head_Root x1))
else some false
noncomputable abbrev zq58.g15 (x0 : THead) (x1 : TSigned) (v15_0 : Bool) : Option Int :=
  bif v15_0 then
  some (6 : Int)
else
  (zq40 x1 (Head_Heirs x0)).bind fun y2 =>
    bif !y2 then
      some (7 : Int)
    else some (1 : Int)
noncomputable def zq58.l15 (x0 : THead) (x1 : TSigned) (v15_0 : Bool) : Option Int :=
  zq58.g15 x0 x1 v15_0
noncomputable abbrev zq58.g11 (x0 : THead) (x1 : TSigned) (L15 : Bool → Option Int) (v11_0 : Bool) : Option Int :=
  bif v11_0 then
  some (5 : Int)
else
  bif (Head_Frozen (Signed_Head x1)) then
    L15 true
  else
    (zq7 (Head_Keys (Signed_Head x1)) (Head_Heirs x0)).bind fun y3 =>
      bif !y3 then
        L15 true
      else
        (zq37 (Signed_Head x1) x0).bind fun y4 =>
          L15 (!y4)
noncomputable def zq58.l11 (x0 : THead) (x1 : TSigned) (v11_0 : Bool) : Option Int :=
  zq58.g11 x0 x1 (zq58.l15 x0 x1) v11_0
noncomputable abbrev zq58.b (x0 : THead) (x1 : TSigned) (L11 : Bool → Option Int) : Option Int :=
  bif (Head_Frozen x0) then
  some (4 : Int)
else
  (zq34 (Head_Heirs x0)).bind fun y1 =>
    bif y1 then
      L11 true
    else L11 (decide ((Head_Time (Signed_Head x1)) < (IntKind.i64.wrap ((Head_Until x0) + (Head_Wait x0)))))
noncomputable def zq58 (x0 : THead) (x1 : TSigned) : Option Int :=
  zq58.b x0 x1 (zq58.l11 x0 x1)
noncomputable abbrev zq65.g13 (x0 : THead) (x1 : TSigned) (v13_0 : Bool) : Option Int :=
  bif v13_0 then
  some (6 : Int)
else
  (zq40 x1 (Head_Judge x0)).bind fun y5 =>
    bif !y5 then
      some (7 : Int)
    else some (1 : Int)
noncomputable def zq65.l13 (x0 : THead) (x1 : TSigned) (v13_0 : Bool) : Option Int :=
  zq65.g13 x0 x1 v13_0
noncomputable abbrev zq65.g7 (x0 : THead) (x1 : TSigned) (L13 : Bool → Option Int) (v7_0 : Bool) : Option Int :=
  (zq34 (Head_Judge x0)).bind fun y4 =>
  bif y4 then
    some (5 : Int)
  else
    bif (Head_Frozen (Signed_Head x1)) == (Head_Frozen x0) then
      L13 true
    else
      bif !v7_0 then
        L13 true
      else
        bif (Head_Frozen (Signed_Head x1)) then
          (zq7 (Head_Keys (Signed_Head x1)) (Head_Keys x0)).bind fun y6 =>
            L13 (!y6)
        else L13 false
noncomputable def zq65.l7 (x0 : THead) (x1 : TSigned) (v7_0 : Bool) : Option Int :=
  zq65.g7 x0 x1 (zq65.l13 x0 x1) v7_0
noncomputable abbrev zq65.b (x0 : THead) (x1 : TSigned) (L7 : Bool → Option Int) : Option Int :=
  (zq37 (Signed_Head x1) x0).bind fun y1 =>
  bif y1 then
    (zq7 (Head_Judge (Signed_Head x1)) (Head_Judge x0)).bind fun y2 =>
      bif y2 then
        (zq7 (Head_Heirs (Signed_Head x1)) (Head_Heirs x0)).bind fun y3 =>
          bif y3 then
            L7 ((Head_Wait (Signed_Head x1)) == (Head_Wait x0))
          else L7 false
      else L7 false
  else L7 false
noncomputable def zq65 (x0 : THead) (x1 : TSigned) : Option Int :=
  zq65.b x0 x1 (zq65.l7 x0 x1)
noncomputable abbrev zq33.g5 (x0 : THead) (x1 : TSigned) (v5_0 : Bool) : Option Int :=
  bif v5_0 then
  some (2 : Int)
else
  (zq62 x0 (Signed_Head x1)).bind fun y2 =>
    bif !y2 then
      some (3 : Int)
    else
      bif (Head_Kind (Signed_Head x1)) == (1 : Int) then
        (zq67 x0 x1).bind fun y3 =>
          some y3
      else
        bif (Head_Kind (Signed_Head x1)) == (2 : Int) then
          (zq58 x0 x1).bind fun y4 =>
            some y4
        else
          (zq65 x0 x1).bind fun y5 =>
            some y5
noncomputable def zq33.l5 (x0 : THead) (x1 : TSigned) (v5_0 : Bool) : Option Int :=
  zq33.g5 x0 x1 v5_0
noncomputable abbrev zq33.b (x0 : THead) (x1 : TSigned) (L5 : Bool → Option Int) : Option Int :=
  (zq16 x0).bind fun y1 =>
  bif !y1 then
    L5 true
  else
    (zq16 (Signed_Head x1)).bind fun y6 =>
      L5 (!y6)
noncomputable def zq33 (x0 : THead) (x1 : TSigned) : Option Int :=
  zq33.b x0 x1 (zq33.l5 x0 x1)
noncomputable def zq31 (x0 : THead) (x1 : TSigned) : Option Bool :=
  (zq33 x0 x1).bind fun y1 =>
  some (y1 == (1 : Int))
noncomputable abbrev zq8.g4 (x0 : List TSigned) (r4 : Int → Int → Option Int) (v4_2 : Int) (v4_3 : Int) : Option Int :=
  bif decide (v4_3 < v4_2) then
  bif decide (0 ≤ v4_3) then
    bif decide (v4_3 < (x0.length : Int)) then
      bif v4_3 == (0 : Int) then
        (zq15 (x0.getD v4_3.toNat dSigned)).bind fun y1 =>
          bif !y1 then
            some v4_3
          else
            bif decide (v4_3 > (0 : Int)) then
              bif decide (0 ≤ (IntKind.i64.wrap (v4_3 - (1 : Int)))) then
                bif decide ((IntKind.i64.wrap (v4_3 - (1 : Int))) < (x0.length : Int)) then
                  (zq31 (Signed_Head (x0.getD ((IntKind.i64.wrap (v4_3 - (1 : Int))).toNat) dSigned)) (x0.getD v4_3.toNat dSigned)).bind fun y2 =>
                    bif !y2 then
                      some v4_3
                    else r4 v4_2 (IntKind.i64.wrap (v4_3 + (1 : Int)))
                else none
              else none
            else r4 v4_2 (IntKind.i64.wrap (v4_3 + (1 : Int)))
      else
        bif decide (v4_3 > (0 : Int)) then
          bif decide (0 ≤ (IntKind.i64.wrap (v4_3 - (1 : Int)))) then
            bif decide ((IntKind.i64.wrap (v4_3 - (1 : Int))) < (x0.length : Int)) then
              (zq31 (Signed_Head (x0.getD ((IntKind.i64.wrap (v4_3 - (1 : Int))).toNat) dSigned)) (x0.getD v4_3.toNat dSigned)).bind fun y3 =>
                bif !y3 then
                  some v4_3
                else r4 v4_2 (IntKind.i64.wrap (v4_3 + (1 : Int)))
            else none
          else none
        else r4 v4_2 (IntKind.i64.wrap (v4_3 + (1 : Int)))
    else none
  else none
else some (-1 : Int)
noncomputable def zq8.l4 (x0 : List TSigned) (n : Nat) : Int → Int → Option Int :=
  V.iter (fun (r4 : Int → Int → Option Int) => fun v4_2 v4_3 => zq8.g4 x0 r4 v4_2 v4_3) (fun _ _ => none) n
theorem zq8.u4 (x0 : List TSigned) (n : Nat) (v4_2 : Int) (v4_3 : Int) : zq8.l4 x0 (n + 1) v4_2 v4_3 = zq8.g4 x0 (zq8.l4 x0 n) v4_2 v4_3 := rfl
noncomputable abbrev zq8.b (x0 : List TSigned) (L4 : Int → Int → Option Int) : Option Int :=
  L4 (x0.length : Int) (0 : Int)
noncomputable def zq8 (x0 : List TSigned) : Option Int :=
  zq8.b x0 (zq8.l4 x0 V.KK)
noncomputable def zq13 (x0 : List TSigned) : Option Bool :=
  (zq12 (x0.length : Int) (1 : Int) (12 : Int)).bind fun y1 =>
  bif y1 then
    (zq8 x0).bind fun y2 =>
      some (decide (y2 < (0 : Int)))
  else some false
noncomputable def zq66 (x0 : List TSigned) : Option THead :=
  bif decide (0 ≤ (IntKind.i64.wrap ((x0.length : Int) - (1 : Int)))) then
  bif decide ((IntKind.i64.wrap ((x0.length : Int) - (1 : Int))) < (x0.length : Int)) then
    some (Signed_Head (x0.getD ((IntKind.i64.wrap ((x0.length : Int) - (1 : Int))).toNat) dSigned))
  else none
else none
noncomputable abbrev zq18.g4 (x0 : ByteArray) (r4 : Int → Int → Option Bool) (v4_1 : Int) (v4_2 : Int) : Option Bool :=
  bif decide (v4_2 < v4_1) then
  bif decide (0 ≤ v4_2) then
    bif decide (v4_2 < (x0.size : Int)) then
      bif decide ((V.bt x0 v4_2) ≥ (97 : Int)) then
        bif decide ((V.bt x0 v4_2) ≤ (122 : Int)) then
          r4 v4_1 (IntKind.i64.wrap (v4_2 + (1 : Int)))
        else
          bif decide ((V.bt x0 v4_2) ≥ (48 : Int)) then
            bif decide ((V.bt x0 v4_2) ≤ (57 : Int)) then
              r4 v4_1 (IntKind.i64.wrap (v4_2 + (1 : Int)))
            else
              bif (V.bt x0 v4_2) == (45 : Int) then
                bif decide (v4_2 > (0 : Int)) then
                  bif !(decide (v4_2 < (IntKind.i64.wrap ((x0.size : Int) - (1 : Int))))) then
                    some false
                  else r4 v4_1 (IntKind.i64.wrap (v4_2 + (1 : Int)))
                else some false
              else some false
          else
            bif (V.bt x0 v4_2) == (45 : Int) then
              bif decide (v4_2 > (0 : Int)) then
                bif !(decide (v4_2 < (IntKind.i64.wrap ((x0.size : Int) - (1 : Int))))) then
                  some false
                else r4 v4_1 (IntKind.i64.wrap (v4_2 + (1 : Int)))
              else some false
            else some false
      else
        bif decide ((V.bt x0 v4_2) ≥ (48 : Int)) then
          bif decide ((V.bt x0 v4_2) ≤ (57 : Int)) then
            r4 v4_1 (IntKind.i64.wrap (v4_2 + (1 : Int)))
          else
            bif (V.bt x0 v4_2) == (45 : Int) then
              bif decide (v4_2 > (0 : Int)) then
                bif !(decide (v4_2 < (IntKind.i64.wrap ((x0.size : Int) - (1 : Int))))) then
                  some false
                else r4 v4_1 (IntKind.i64.wrap (v4_2 + (1 : Int)))
              else some false
            else some false
        else
          bif (V.bt x0 v4_2) == (45 : Int) then
            bif decide (v4_2 > (0 : Int)) then
              bif !(decide (v4_2 < (IntKind.i64.wrap ((x0.size : Int) - (1 : Int))))) then
                some false
              else r4 v4_1 (IntKind.i64.wrap (v4_2 + (1 : Int)))
            else some false
          else some false
    else none
  else none
else
  (zq12 (x0.size : Int) (1 : Int) (8 : Int)).bind fun y1 =>
    some y1
noncomputable def zq18.l4 (x0 : ByteArray) (n : Nat) : Int → Int → Option Bool :=
  V.iter (fun (r4 : Int → Int → Option Bool) => fun v4_1 v4_2 => zq18.g4 x0 r4 v4_1 v4_2) (fun _ _ => none) n
theorem zq18.u4 (x0 : ByteArray) (n : Nat) (v4_1 : Int) (v4_2 : Int) : zq18.l4 x0 (n + 1) v4_1 v4_2 = zq18.g4 x0 (zq18.l4 x0 n) v4_1 v4_2 := rfl
noncomputable abbrev zq18.b (x0 : ByteArray) (L4 : Int → Int → Option Bool) : Option Bool :=
  L4 (x0.size : Int) (0 : Int)
noncomputable def zq18 (x0 : ByteArray) : Option Bool :=
  zq18.b x0 (zq18.l4 x0 V.KK)
noncomputable def zq20 (x0 : ByteArray) : Option Bool :=
  (zq18 x0).bind fun y1 =>
  some (!y1)
noncomputable abbrev zq137.g4 (x0 : List ByteArray) (r4 : Int → Int → Option Int) (v4_1 : Int) (v4_2 : Int) : Option Int :=
  bif decide (v4_2 < v4_1) then
  bif decide (0 ≤ v4_2) then
    bif decide (v4_2 < (x0.length : Int)) then
      (zq20 (x0.getD v4_2.toNat (⟨#[]⟩ : ByteArray))).bind fun y1 =>
        bif y1 then
          some v4_2
        else r4 v4_1 (IntKind.i64.wrap (v4_2 + (1 : Int)))
    else none
  else none
else some (-1 : Int)
noncomputable def zq137.l4 (x0 : List ByteArray) (n : Nat) : Int → Int → Option Int :=
  V.iter (fun (r4 : Int → Int → Option Int) => fun v4_1 v4_2 => zq137.g4 x0 r4 v4_1 v4_2) (fun _ _ => none) n
theorem zq137.u4 (x0 : List ByteArray) (n : Nat) (v4_1 : Int) (v4_2 : Int) : zq137.l4 x0 (n + 1) v4_1 v4_2 = zq137.g4 x0 (zq137.l4 x0 n) v4_1 v4_2 := rfl
noncomputable abbrev zq137.b (x0 : List ByteArray) (x1 : (Unit) × (Unit)) (L4 : Int → Int → Option Int) : Option Int :=
  L4 (x0.length : Int) (0 : Int)
noncomputable def zq137 (x0 : List ByteArray) (x1 : (Unit) × (Unit)) : Option Int :=
  zq137.b x0 x1 (zq137.l4 x0 V.KK)
noncomputable def zq131 (x0 : List ByteArray) (x1 : (Unit) × (Unit)) : Option Bool :=
  (zq137 x0 (x1.1, x1.2)).bind fun y1 =>
  some (decide (y1 ≥ (0 : Int)))
noncomputable def zq19 (x0 : List ByteArray) : Option Bool :=
  (zq12 (x0.length : Int) (1 : Int) (4 : Int)).bind fun y1 =>
  bif y1 then
    (zq131 x0 ((), ())).bind fun y2 =>
      some (!y2)
  else some false
noncomputable def zq14 (x0 : TEntry) : Option Bool :=
  (zq18 x0.1).bind fun y1 =>
  bif !y1 then
    some false
  else
    bif x0.2.1 == (1 : Int) then
      (zq12 x0.2.2.1 (0 : Int) (999999 : Int)).bind fun y2 =>
        bif y2 then
          some ((x0.2.2.2.length : Int) == (0 : Int))
        else some false
    else
      bif x0.2.1 == (2 : Int) then
        (zq59 x0.2.2.1).bind fun y3 =>
          bif y3 then
            some ((x0.2.2.2.length : Int) == (0 : Int))
          else some false
      else
        bif x0.2.1 == (3 : Int) then
          (zq59 x0.2.2.1).bind fun y4 =>
            bif y4 then
              (zq19 x0.2.2.2).bind fun y5 =>
                some y5
            else some false
        else some false
noncomputable def zq69 (x0 : ByteArray) (x1 : ByteArray) : Option Int :=
  some (Go.Lib.compareBytes x0.data.toList x1.data.toList)
noncomputable def zq195 (x0 : ByteArray) (x1 : ByteArray) : Option Int :=
  (zq69 x0 x1).bind fun y1 =>
  some y1
noncomputable def zq3 (x0 : ByteArray) (x1 : ByteArray) : Option Int :=
  (zq195 x0 x1).bind fun y1 =>
  some y1
noncomputable abbrev zq0.g4 (x0 : List TEntry) (r4 : Int → Int → Option Bool) (v4_2 : Int) (v4_3 : Int) : Option Bool :=
  bif decide (v4_3 < v4_2) then
  bif decide (0 ≤ v4_3) then
    bif decide (v4_3 < (x0.length : Int)) then
      (zq14 (x0.getD v4_3.toNat dEntry)).bind fun y1 =>
        bif !y1 then
          some false
        else
          bif decide (v4_3 > (0 : Int)) then
            bif decide (0 ≤ (IntKind.i64.wrap (v4_3 - (1 : Int)))) then
              bif decide ((IntKind.i64.wrap (v4_3 - (1 : Int))) < (x0.length : Int)) then
                (zq3 (x0.getD v4_3.toNat dEntry).1 (x0.getD ((IntKind.i64.wrap (v4_3 - (1 : Int))).toNat) dEntry).1).bind fun y2 =>
                  bif decide (y2 ≤ (0 : Int)) then
                    some false
                  else r4 v4_2 (IntKind.i64.wrap (v4_3 + (1 : Int)))
              else none
            else none
          else r4 v4_2 (IntKind.i64.wrap (v4_3 + (1 : Int)))
    else none
  else none
else some (decide ((x0.length : Int) ≤ (12 : Int)))
noncomputable def zq0.l4 (x0 : List TEntry) (n : Nat) : Int → Int → Option Bool :=
  V.iter (fun (r4 : Int → Int → Option Bool) => fun v4_2 v4_3 => zq0.g4 x0 r4 v4_2 v4_3) (fun _ _ => none) n
theorem zq0.u4 (x0 : List TEntry) (n : Nat) (v4_2 : Int) (v4_3 : Int) : zq0.l4 x0 (n + 1) v4_2 v4_3 = zq0.g4 x0 (zq0.l4 x0 n) v4_2 v4_3 := rfl
noncomputable abbrev zq0.b (x0 : List TEntry) (L4 : Int → Int → Option Bool) : Option Bool :=
  L4 (x0.length : Int) (0 : Int)
noncomputable def zq0 (x0 : List TEntry) : Option Bool :=
  zq0.b x0 (zq0.l4 x0 V.KK)
noncomputable abbrev zq1.g6 (x0 : List Int) (r6 : Int → Int → (List Int) → Option (List Int)) (v6_1 : Int) (v6_2 : Int) (v6_3 : List Int) : Option (List Int) :=
  bif decide (v6_2 < v6_1) then
  bif decide (0 ≤ v6_2) then
    bif decide (v6_2 < (x0.length : Int)) then
      bif decide (v6_3.length + [IntKind.i64.wrap (x0.getD v6_2.toNat (0 : Int))].length < 68719476736) then
        r6 v6_1 (IntKind.i64.wrap (v6_2 + (1 : Int))) (v6_3 ++ [IntKind.i64.wrap (x0.getD v6_2.toNat (0 : Int))])
      else none
    else none
  else none
else some v6_3
noncomputable def zq1.l6 (x0 : List Int) (n : Nat) : Int → Int → (List Int) → Option (List Int) :=
  V.iter (fun (r6 : Int → Int → (List Int) → Option (List Int)) => fun v6_1 v6_2 v6_3 => zq1.g6 x0 r6 v6_1 v6_2 v6_3) (fun _ _ _ => none) n
theorem zq1.u6 (x0 : List Int) (n : Nat) (v6_1 : Int) (v6_2 : Int) (v6_3 : List Int) : zq1.l6 x0 (n + 1) v6_1 v6_2 v6_3 = zq1.g6 x0 (zq1.l6 x0 n) v6_1 v6_2 v6_3 := rfl
noncomputable abbrev zq1.b (x0 : List Int) (L6 : Int → Int → (List Int) → Option (List Int)) : Option (List Int) :=
  L6 (x0.length : Int) (0 : Int) [(x0.length : Int)]
noncomputable def zq1 (x0 : List Int) : Option (List Int) :=
  zq1.b x0 (zq1.l6 x0 V.KK)
noncomputable def zq28 (x0 : ByteArray) : Option (List Int) :=
  bif V.smallS x0 then
  (zq1 (V.bytesOf x0)).bind fun y1 =>
    some y1
else none
noncomputable abbrev zq6.g6 (x0 : TEntry) (r6 : Int → Int → (List Int) → Option (List Int)) (v6_1 : Int) (v6_2 : Int) (v6_3 : List Int) : Option (List Int) :=
  bif decide (v6_2 < v6_1) then
  bif decide (0 ≤ v6_2) then
    bif decide (v6_2 < (x0.2.2.2.length : Int)) then
      (zq28 (x0.2.2.2.getD v6_2.toNat (⟨#[]⟩ : ByteArray))).bind fun y2 =>
        bif decide (v6_3.length + y2.length < 68719476736) then
          r6 v6_1 (IntKind.i64.wrap (v6_2 + (1 : Int))) (v6_3 ++ y2)
        else none
    else none
  else none
else some v6_3
noncomputable def zq6.l6 (x0 : TEntry) (n : Nat) : Int → Int → (List Int) → Option (List Int) :=
  V.iter (fun (r6 : Int → Int → (List Int) → Option (List Int)) => fun v6_1 v6_2 v6_3 => zq6.g6 x0 r6 v6_1 v6_2 v6_3) (fun _ _ _ => none) n
theorem zq6.u6 (x0 : TEntry) (n : Nat) (v6_1 : Int) (v6_2 : Int) (v6_3 : List Int) : zq6.l6 x0 (n + 1) v6_1 v6_2 v6_3 = zq6.g6 x0 (zq6.l6 x0 n) v6_1 v6_2 v6_3 := rfl
noncomputable abbrev zq6.b (x0 : TEntry) (L6 : Int → Int → (List Int) → Option (List Int)) : Option (List Int) :=
  (zq28 x0.1).bind fun y1 =>
  bif decide (y1.length + [x0.2.1, x0.2.2.1, (x0.2.2.2.length : Int)].length < 68719476736) then
    L6 (x0.2.2.2.length : Int) (0 : Int) (y1 ++ [x0.2.1, x0.2.2.1, (x0.2.2.2.length : Int)])
  else none
noncomputable def zq6 (x0 : TEntry) : Option (List Int) :=
  zq6.b x0 (zq6.l6 x0 V.KK)
noncomputable def zq29 (x0 : TEntry) : Option Int :=
  (zq6 x0).bind fun y1 =>
  bif decide ([(227 : Int)].length + y1.length < 68719476736) then
    (zq9 ([(227 : Int)] ++ y1)).bind fun y2 =>
      some y2
  else none
noncomputable abbrev zq30.g6 (x0 : List TEntry) (r6 : Int → Int → (List Int) → Option (List Int)) (v6_1 : Int) (v6_2 : Int) (v6_3 : List Int) : Option (List Int) :=
  bif decide (v6_2 < v6_1) then
  bif decide (0 ≤ v6_2) then
    bif decide (v6_2 < (x0.length : Int)) then
      (zq29 (x0.getD v6_2.toNat dEntry)).bind fun y1 =>
        bif decide (v6_3.length + [y1].length < 68719476736) then
          r6 v6_1 (IntKind.i64.wrap (v6_2 + (1 : Int))) (v6_3 ++ [y1])
        else none
    else none
  else none
else some v6_3
noncomputable def zq30.l6 (x0 : List TEntry) (n : Nat) : Int → Int → (List Int) → Option (List Int) :=
  V.iter (fun (r6 : Int → Int → (List Int) → Option (List Int)) => fun v6_1 v6_2 v6_3 => zq30.g6 x0 r6 v6_1 v6_2 v6_3) (fun _ _ _ => none) n
theorem zq30.u6 (x0 : List TEntry) (n : Nat) (v6_1 : Int) (v6_2 : Int) (v6_3 : List Int) : zq30.l6 x0 (n + 1) v6_1 v6_2 v6_3 = zq30.g6 x0 (zq30.l6 x0 n) v6_1 v6_2 v6_3 := rfl
noncomputable abbrev zq30.b (x0 : List TEntry) (L6 : Int → Int → (List Int) → Option (List Int)) : Option (List Int) :=
  L6 (x0.length : Int) (0 : Int) []
noncomputable def zq30 (x0 : List TEntry) : Option (List Int) :=
  zq30.b x0 (zq30.l6 x0 V.KK)
noncomputable def zq57 (x0 : List Int) : Option Int :=
  (zq9 x0).bind fun y1 =>
  some y1
noncomputable def zq35 (x0 : Int) (x1 : Int) : Option Int :=
  (zq57 [(229 : Int), x0, x1]).bind fun y1 =>
  some y1
noncomputable abbrev zq46.g6 (x0 : List Int) (r6 : Int → (List Int) → Option (List Int)) (v6_1 : Int) (v6_2 : List Int) : Option (List Int) :=
  bif decide (v6_1 < (x0.length : Int)) then
  bif decide ((IntKind.i64.wrap (v6_1 + (1 : Int))) < (x0.length : Int)) then
    bif decide (0 ≤ v6_1) then
      bif decide (v6_1 < (x0.length : Int)) then
        bif decide (0 ≤ (IntKind.i64.wrap (v6_1 + (1 : Int)))) then
          bif decide ((IntKind.i64.wrap (v6_1 + (1 : Int))) < (x0.length : Int)) then
            (zq35 (x0.getD v6_1.toNat (0 : Int)) (x0.getD ((IntKind.i64.wrap (v6_1 + (1 : Int))).toNat) (0 : Int))).bind fun y1 =>
              bif decide (v6_2.length + [y1].length < 68719476736) then
                r6 (IntKind.i64.wrap (v6_1 + (2 : Int))) (v6_2 ++ [y1])
              else none
          else none
        else none
      else none
    else none
  else
    bif decide (0 ≤ v6_1) then
      bif decide (v6_1 < (x0.length : Int)) then
        bif decide (v6_2.length + [x0.getD v6_1.toNat (0 : Int)].length < 68719476736) then
          r6 (IntKind.i64.wrap (v6_1 + (2 : Int))) (v6_2 ++ [x0.getD v6_1.toNat (0 : Int)])
        else none
      else none
    else none
else some v6_2
noncomputable def zq46.l6 (x0 : List Int) (n : Nat) : Int → (List Int) → Option (List Int) :=
  V.iter (fun (r6 : Int → (List Int) → Option (List Int)) => fun v6_1 v6_2 => zq46.g6 x0 r6 v6_1 v6_2) (fun _ _ => none) n
theorem zq46.u6 (x0 : List Int) (n : Nat) (v6_1 : Int) (v6_2 : List Int) : zq46.l6 x0 (n + 1) v6_1 v6_2 = zq46.g6 x0 (zq46.l6 x0 n) v6_1 v6_2 := rfl
noncomputable abbrev zq46.b (x0 : List Int) (L6 : Int → (List Int) → Option (List Int)) : Option (List Int) :=
  L6 (0 : Int) []
noncomputable def zq46 (x0 : List Int) : Option (List Int) :=
  zq46.b x0 (zq46.l6 x0 V.KK)
noncomputable abbrev zq43.g6 (r6 : (List Int) → Option Int) (v6_0 : List Int) : Option Int :=
  bif decide ((v6_0.length : Int) > (1 : Int)) then
  (zq46 v6_0).bind fun y2 =>
    r6 y2
else
  bif decide (0 ≤ (0 : Int)) then
    bif decide ((0 : Int) < (v6_0.length : Int)) then
      some (v6_0.getD ((0 : Int).toNat) (0 : Int))
    else none
  else none
noncomputable def zq43.l6 (n : Nat) : (List Int) → Option Int :=
  V.iter (fun (r6 : (List Int) → Option Int) => fun v6_0 => zq43.g6 r6 v6_0) (fun _ => none) n
theorem zq43.u6 (n : Nat) (v6_0 : List Int) : zq43.l6 (n + 1) v6_0 = zq43.g6 (zq43.l6 n) v6_0 := rfl
noncomputable abbrev zq43.b (x0 : List Int) (L6 : (List Int) → Option Int) : Option Int :=
  bif (x0.length : Int) == (0 : Int) then
  (zq57 [(229 : Int)]).bind fun y1 =>
    some y1
else L6 x0
noncomputable def zq43 (x0 : List Int) : Option Int :=
  zq43.b x0 (zq43.l6 V.KK)
noncomputable def zq68 (x0 : Int) (x1 : Int) : Option Int :=
  (zq57 [(231 : Int), x0, x1]).bind fun y1 =>
  some y1
noncomputable def zq36 (x0 : List TEntry) : Option Int :=
  (zq30 x0).bind fun y1 =>
  (zq43 y1).bind fun y2 =>
    (zq68 (x0.length : Int) y2).bind fun y3 =>
      some y3
noncomputable def zq2 (x0 : Int) (x1 : List TEntry) : Option Bool :=
  (zq0 x1).bind fun y1 =>
  bif y1 then
    (zq36 x1).bind fun y2 =>
      some (y2 == x0)
  else some false
noncomputable def zq25 (x0 : TZone) : Option Bool :=
  (zq13 x0.1).bind fun y1 =>
  bif !y1 then
    some false
  else
    (zq66 x0.1).bind fun y2 =>
      bif (Head_Count y2) == (x0.2.length : Int) then
        (zq2 (Head_Root y2) x0.2).bind fun y3 =>
          some y3
      else some false
noncomputable def zq22 (x0 : TZone) : Option Bool :=
  (zq25 x0).bind fun y1 =>
  some (!y1)
noncomputable abbrev zq135.g4 (x0 : List TZone) (r4 : Int → Int → Option Int) (v4_1 : Int) (v4_2 : Int) : Option Int :=
  bif decide (v4_2 < v4_1) then
  bif decide (0 ≤ v4_2) then
    bif decide (v4_2 < (x0.length : Int)) then
      (zq22 (x0.getD v4_2.toNat dZone)).bind fun y1 =>
        bif y1 then
          some v4_2
        else r4 v4_1 (IntKind.i64.wrap (v4_2 + (1 : Int)))
    else none
  else none
else some (-1 : Int)
noncomputable def zq135.l4 (x0 : List TZone) (n : Nat) : Int → Int → Option Int :=
  V.iter (fun (r4 : Int → Int → Option Int) => fun v4_1 v4_2 => zq135.g4 x0 r4 v4_1 v4_2) (fun _ _ => none) n
theorem zq135.u4 (x0 : List TZone) (n : Nat) (v4_1 : Int) (v4_2 : Int) : zq135.l4 x0 (n + 1) v4_1 v4_2 = zq135.g4 x0 (zq135.l4 x0 n) v4_1 v4_2 := rfl
noncomputable abbrev zq135.b (x0 : List TZone) (x1 : (Unit) × (Unit)) (L4 : Int → Int → Option Int) : Option Int :=
  L4 (x0.length : Int) (0 : Int)
noncomputable def zq135 (x0 : List TZone) (x1 : (Unit) × (Unit)) : Option Int :=
  zq135.b x0 x1 (zq135.l4 x0 V.KK)
noncomputable def zq130 (x0 : List TZone) (x1 : (Unit) × (Unit)) : Option Bool :=
  (zq135 x0 (x1.1, x1.2)).bind fun y1 =>
  some (decide (y1 ≥ (0 : Int)))
noncomputable def zq21 (x0 : TServer) : Option Bool :=
  bif decide ((x0.1.length : Int) ≤ (8 : Int)) then
  (zq130 x0.1 ((), ())).bind fun y1 =>
    bif !y1 then
      (zq12 x0.2 (0 : Int) (4 : Int)).bind fun y2 =>
        some y2
    else some false
else some false
noncomputable def zq44 (x0 : TZone) : Option Int :=
  (zq25 x0).bind fun y1 =>
  bif !y1 then
    some (-1 : Int)
  else
    (zq66 x0.1).bind fun y2 =>
      some (Head_Zone y2)
noncomputable def zq39 (x0 : TZone) (x1 : Int) : Option Bool :=
  (zq44 x0).bind fun y1 =>
  some (y1 == x1)
noncomputable abbrev zq136.g4 (x0 : List TZone) (x1 : (Unit) × (Int)) (r4 : Int → Int → Option Int) (v4_2 : Int) (v4_3 : Int) : Option Int :=
  bif decide (v4_3 < v4_2) then
  bif decide (0 ≤ v4_3) then
    bif decide (v4_3 < (x0.length : Int)) then
      (zq39 (x0.getD v4_3.toNat dZone) x1.2).bind fun y1 =>
        bif y1 then
          some v4_3
        else r4 v4_2 (IntKind.i64.wrap (v4_3 + (1 : Int)))
    else none
  else none
else some (-1 : Int)
noncomputable def zq136.l4 (x0 : List TZone) (x1 : (Unit) × (Int)) (n : Nat) : Int → Int → Option Int :=
  V.iter (fun (r4 : Int → Int → Option Int) => fun v4_2 v4_3 => zq136.g4 x0 x1 r4 v4_2 v4_3) (fun _ _ => none) n
theorem zq136.u4 (x0 : List TZone) (x1 : (Unit) × (Int)) (n : Nat) (v4_2 : Int) (v4_3 : Int) : zq136.l4 x0 x1 (n + 1) v4_2 v4_3 = zq136.g4 x0 x1 (zq136.l4 x0 x1 n) v4_2 v4_3 := rfl
noncomputable abbrev zq136.b (x0 : List TZone) (x1 : (Unit) × (Int)) (L4 : Int → Int → Option Int) : Option Int :=
  L4 (x0.length : Int) (0 : Int)
noncomputable def zq136 (x0 : List TZone) (x1 : (Unit) × (Int)) : Option Int :=
  zq136.b x0 x1 (zq136.l4 x0 x1 V.KK)
noncomputable def zq38 (x0 : TServer) (x1 : Int) : Option Int :=
  bif decide (x1 < (0 : Int)) then
  some (-1 : Int)
else
  (zq136 x0.1 ((), x1)).bind fun y1 =>
    some y1
noncomputable abbrev zq41.g7 (x0 : TServer) (x1 : TZone) (y1 : TServer) (v7_0 : Bool) : Option TRServerBool :=
  bif v7_0 then
  some (RServerBool_mk y1 false)
else
  (zq44 x1).bind fun y3 =>
    (zq38 x0 y3).bind fun y4 =>
      bif decide (y4 ≥ (0 : Int)) then
        (zq56 x1).bind fun y5 =>
          bif decide (0 ≤ y4) then
            bif decide (y4 < (y1.1.length : Int)) then
              some (RServerBool_mk (y1.1.set y4.toNat y5, y1.2) true)
            else none
          else none
      else
        bif decide ((x0.1.length : Int) ≥ (8 : Int)) then
          some (RServerBool_mk y1 false)
        else
          (zq56 x1).bind fun y6 =>
            V.both (bif decide (y1.1.length + [y6].length < 68719476736) then
                some (RServerBool_mk (y1.1 ++ [y6], y1.2) true)
              else none)
              (V.both (V.both (bif decide (y1.1.length + [y6].length < 68719476736) then
                    some (RServerBool_mk (y1.1 ++ [y6], y1.2) true)
                  else none)
                  (bif decide (y1.1.length + [y6].length < 68719476736) then
                    some (RServerBool_mk (y1.1 ++ [y6], y1.2) true)
                  else none))
                (V.both (V.both (bif decide (y1.1.length + [y6].length < 68719476736) then
                      some (RServerBool_mk (y1.1 ++ [y6], y1.2) true)
                    else none)
                    (V.both (bif decide (y1.1.length + [y6].length < 68719476736) then
                        some (RServerBool_mk (y1.1 ++ [y6], y1.2) true)
                      else none)
                      (bif decide (y1.1.length + [y6].length < 68719476736) then
                        some (RServerBool_mk (y1.1 ++ [y6], y1.2) true)
                      else none)))
                  (V.both (V.both (bif decide (y1.1.length + [y6].length < 68719476736) then
                        some (RServerBool_mk (y1.1 ++ [y6], y1.2) true)
                      else none)
                      (bif decide (y1.1.length + [y6].length < 68719476736) then
                        some (RServerBool_mk (y1.1 ++ [y6], y1.2) true)
                      else none))
                    (bif decide (y1.1.length + [y6].length < 68719476736) then
                      some (RServerBool_mk (y1.1 ++ [y6], y1.2) true)
                    else none))))
noncomputable def zq41.l7 (x0 : TServer) (x1 : TZone) (y1 : TServer) (v7_0 : Bool) : Option TRServerBool :=
  zq41.g7 x0 x1 y1 v7_0
noncomputable abbrev zq41.b (x0 : TServer) (x1 : TZone) (L7 : TServer → Bool → Option TRServerBool) : Option TRServerBool :=
  (zq54 x0).bind fun y1 =>
  (zq21 x0).bind fun y2 =>
    bif !y2 then
      L7 y1 true
    else
      (zq25 x1).bind fun y7 =>
        L7 y1 (!y7)
noncomputable def zq41 (x0 : TServer) (x1 : TZone) : Option TRServerBool :=
  zq41.b x0 x1 (fun y1 => zq41.l7 x0 x1 y1)
noncomputable abbrev zq74.g8 (x0 : List Int) (x1 : List Int) (r8 : Int → Option Bool) (v8_2 : Int) : Option Bool :=
  bif decide (v8_2 < (x0.length : Int)) then
  bif decide (0 ≤ v8_2) then
    bif decide (v8_2 < (x0.length : Int)) then
      bif decide (0 ≤ v8_2) then
        bif decide (v8_2 < (x1.length : Int)) then
          bif (x0.getD v8_2.toNat (0 : Int)) != (x1.getD v8_2.toNat (0 : Int)) then
            some false
          else r8 (IntKind.i64.wrap (v8_2 + (1 : Int)))
        else none
      else none
    else none
  else none
else some true
noncomputable def zq74.l8 (x0 : List Int) (x1 : List Int) (n : Nat) : Int → Option Bool :=
  V.iter (fun (r8 : Int → Option Bool) => fun v8_2 => zq74.g8 x0 x1 r8 v8_2) (fun _ => none) n
theorem zq74.u8 (x0 : List Int) (x1 : List Int) (n : Nat) (v8_2 : Int) : zq74.l8 x0 x1 (n + 1) v8_2 = zq74.g8 x0 x1 (zq74.l8 x0 x1 n) v8_2 := rfl
noncomputable abbrev zq74.b (x0 : List Int) (x1 : List Int) (L8 : Int → Option Bool) : Option Bool :=
  bif (x0.length : Int) != (x1.length : Int) then
  some false
else L8 (0 : Int)
noncomputable def zq74 (x0 : List Int) (x1 : List Int) : Option Bool :=
  zq74.b x0 x1 (zq74.l8 x0 x1 V.KK)
noncomputable def zq75 (x0 : TKeys) (x1 : TKeys) : Option Bool :=
  (zq74 x0.1 x1.1).bind fun y1 =>
  bif !y1 then
    some false
  else
    bif x0.2 != x1.2 then
      some false
    else some true
noncomputable def zq73 (x0 : THead) (x1 : THead) : Option Bool :=
  bif (Head_Zone x0) != (Head_Zone x1) then
  some false
else
  bif (Head_Epoch x0) != (Head_Epoch x1) then
    some false
  else
    bif (Head_Kind x0) != (Head_Kind x1) then
      some false
    else
      bif (Head_Time x0) != (Head_Time x1) then
        some false
      else
        bif (Head_Until x0) != (Head_Until x1) then
          some false
        else
          bif (Head_Count x0) != (Head_Count x1) then
            some false
          else
            bif (Head_Root x0) != (Head_Root x1) then
              some false
            else
              bif (Head_Prev x0) != (Head_Prev x1) then
                some false
              else
                (zq75 (Head_Keys x0) (Head_Keys x1)).bind fun y1 =>
                  bif !y1 then
                    some false
                  else
                    (zq75 (Head_Heirs x0) (Head_Heirs x1)).bind fun y2 =>
                      bif !y2 then
                        some false
                      else
                        bif (Head_Wait x0) != (Head_Wait x1) then
                          some false
                        else
                          (zq75 (Head_Judge x0) (Head_Judge x1)).bind fun y3 =>
                            bif !y3 then
                              some false
                            else
                              bif !((Head_Frozen x0) == (Head_Frozen x1)) then
                                some false
                              else some true
noncomputable def zq77 (x0 : TSig) (x1 : TSig) : Option Bool :=
  bif x0.1 != x1.1 then
  some false
else
  bif x0.2 != x1.2 then
    some false
  else some true
noncomputable abbrev zq78.g8 (x0 : List TSig) (x1 : List TSig) (r8 : Int → Option Bool) (v8_2 : Int) : Option Bool :=
  bif decide (v8_2 < (x0.length : Int)) then
  bif decide (0 ≤ v8_2) then
    bif decide (v8_2 < (x0.length : Int)) then
      bif decide (0 ≤ v8_2) then
        bif decide (v8_2 < (x1.length : Int)) then
          (zq77 (x0.getD v8_2.toNat dSig) (x1.getD v8_2.toNat dSig)).bind fun y1 =>
            bif !y1 then
              some false
            else r8 (IntKind.i64.wrap (v8_2 + (1 : Int)))
        else none
      else none
    else none
  else none
else some true
noncomputable def zq78.l8 (x0 : List TSig) (x1 : List TSig) (n : Nat) : Int → Option Bool :=
  V.iter (fun (r8 : Int → Option Bool) => fun v8_2 => zq78.g8 x0 x1 r8 v8_2) (fun _ => none) n
theorem zq78.u8 (x0 : List TSig) (x1 : List TSig) (n : Nat) (v8_2 : Int) : zq78.l8 x0 x1 (n + 1) v8_2 = zq78.g8 x0 x1 (zq78.l8 x0 x1 n) v8_2 := rfl
noncomputable abbrev zq78.b (x0 : List TSig) (x1 : List TSig) (L8 : Int → Option Bool) : Option Bool :=
  bif (x0.length : Int) != (x1.length : Int) then
  some false
else L8 (0 : Int)
noncomputable def zq78 (x0 : List TSig) (x1 : List TSig) : Option Bool :=
  zq78.b x0 x1 (zq78.l8 x0 x1 V.KK)
noncomputable def zq79 (x0 : TSigned) (x1 : TSigned) : Option Bool :=
  (zq73 (Signed_Head x0) (Signed_Head x1)).bind fun y1 =>
  bif !y1 then
    some false
  else
    (zq78 (Signed_Sigs x0) (Signed_Sigs x1)).bind fun y2 =>
      bif !y2 then
        some false
      else some true
noncomputable abbrev zq80.g8 (x0 : List TSigned) (x1 : List TSigned) (r8 : Int → Option Bool) (v8_2 : Int) : Option Bool :=
  bif decide (v8_2 < (x0.length : Int)) then
  bif decide (0 ≤ v8_2) then
    bif decide (v8_2 < (x0.length : Int)) then
      bif decide (0 ≤ v8_2) then
        bif decide (v8_2 < (x1.length : Int)) then
          (zq79 (x0.getD v8_2.toNat dSigned) (x1.getD v8_2.toNat dSigned)).bind fun y1 =>
            bif !y1 then
              some false
            else r8 (IntKind.i64.wrap (v8_2 + (1 : Int)))
        else none
      else none
    else none
  else none
else some true
noncomputable def zq80.l8 (x0 : List TSigned) (x1 : List TSigned) (n : Nat) : Int → Option Bool :=
  V.iter (fun (r8 : Int → Option Bool) => fun v8_2 => zq80.g8 x0 x1 r8 v8_2) (fun _ => none) n
theorem zq80.u8 (x0 : List TSigned) (x1 : List TSigned) (n : Nat) (v8_2 : Int) : zq80.l8 x0 x1 (n + 1) v8_2 = zq80.g8 x0 x1 (zq80.l8 x0 x1 n) v8_2 := rfl
noncomputable abbrev zq80.b (x0 : List TSigned) (x1 : List TSigned) (L8 : Int → Option Bool) : Option Bool :=
  bif (x0.length : Int) != (x1.length : Int) then
  some false
else L8 (0 : Int)
noncomputable def zq80 (x0 : List TSigned) (x1 : List TSigned) : Option Bool :=
  zq80.b x0 x1 (zq80.l8 x0 x1 V.KK)
noncomputable abbrev zq81.g8 (x0 : List ByteArray) (x1 : List ByteArray) (r8 : Int → Option Bool) (v8_2 : Int) : Option Bool :=
  bif decide (v8_2 < (x0.length : Int)) then
  bif decide (0 ≤ v8_2) then
    bif decide (v8_2 < (x0.length : Int)) then
      bif decide (0 ≤ v8_2) then
        bif decide (v8_2 < (x1.length : Int)) then
          bif !((x0.getD v8_2.toNat (⟨#[]⟩ : ByteArray)).toList == (x1.getD v8_2.toNat (⟨#[]⟩ : ByteArray)).toList) then
            some false
          else r8 (IntKind.i64.wrap (v8_2 + (1 : Int)))
        else none
      else none
    else none
  else none
else some true
noncomputable def zq81.l8 (x0 : List ByteArray) (x1 : List ByteArray) (n : Nat) : Int → Option Bool :=
  V.iter (fun (r8 : Int → Option Bool) => fun v8_2 => zq81.g8 x0 x1 r8 v8_2) (fun _ => none) n
theorem zq81.u8 (x0 : List ByteArray) (x1 : List ByteArray) (n : Nat) (v8_2 : Int) : zq81.l8 x0 x1 (n + 1) v8_2 = zq81.g8 x0 x1 (zq81.l8 x0 x1 n) v8_2 := rfl
noncomputable abbrev zq81.b (x0 : List ByteArray) (x1 : List ByteArray) (L8 : Int → Option Bool) : Option Bool :=
  bif (x0.length : Int) != (x1.length : Int) then
  some false
else L8 (0 : Int)
noncomputable def zq81 (x0 : List ByteArray) (x1 : List ByteArray) : Option Bool :=
  zq81.b x0 x1 (zq81.l8 x0 x1 V.KK)
noncomputable def zq71 (x0 : TEntry) (x1 : TEntry) : Option Bool :=
  bif !(x0.1.toList == x1.1.toList) then
  some false
else
  bif x0.2.1 != x1.2.1 then
    some false
  else
    bif x0.2.2.1 != x1.2.2.1 then
      some false
    else
      (zq81 x0.2.2.2 x1.2.2.2).bind fun y1 =>
        bif !y1 then
          some false
        else some true
noncomputable abbrev zq72.g8 (x0 : List TEntry) (x1 : List TEntry) (r8 : Int → Option Bool) (v8_2 : Int) : Option Bool :=
  bif decide (v8_2 < (x0.length : Int)) then
  bif decide (0 ≤ v8_2) then
    bif decide (v8_2 < (x0.length : Int)) then
      bif decide (0 ≤ v8_2) then
        bif decide (v8_2 < (x1.length : Int)) then
          (zq71 (x0.getD v8_2.toNat dEntry) (x1.getD v8_2.toNat dEntry)).bind fun y1 =>
            bif !y1 then
              some false
            else r8 (IntKind.i64.wrap (v8_2 + (1 : Int)))
        else none
      else none
    else none
  else none
else some true
noncomputable def zq72.l8 (x0 : List TEntry) (x1 : List TEntry) (n : Nat) : Int → Option Bool :=
  V.iter (fun (r8 : Int → Option Bool) => fun v8_2 => zq72.g8 x0 x1 r8 v8_2) (fun _ => none) n
theorem zq72.u8 (x0 : List TEntry) (x1 : List TEntry) (n : Nat) (v8_2 : Int) : zq72.l8 x0 x1 (n + 1) v8_2 = zq72.g8 x0 x1 (zq72.l8 x0 x1 n) v8_2 := rfl
noncomputable abbrev zq72.b (x0 : List TEntry) (x1 : List TEntry) (L8 : Int → Option Bool) : Option Bool :=
  bif (x0.length : Int) != (x1.length : Int) then
  some false
else L8 (0 : Int)
noncomputable def zq72 (x0 : List TEntry) (x1 : List TEntry) : Option Bool :=
  zq72.b x0 x1 (zq72.l8 x0 x1 V.KK)
noncomputable def zq82 (x0 : TZone) (x1 : TZone) : Option Bool :=
  (zq80 x0.1 x1.1).bind fun y1 =>
  bif !y1 then
    some false
  else
    (zq72 x0.2 x1.2).bind fun y2 =>
      bif !y2 then
        some false
      else some true
noncomputable abbrev zq83.g8 (x0 : List TZone) (x1 : List TZone) (r8 : Int → Option Bool) (v8_2 : Int) : Option Bool :=
  bif decide (v8_2 < (x0.length : Int)) then
  bif decide (0 ≤ v8_2) then
    bif decide (v8_2 < (x0.length : Int)) then
      bif decide (0 ≤ v8_2) then
        bif decide (v8_2 < (x1.length : Int)) then
          (zq82 (x0.getD v8_2.toNat dZone) (x1.getD v8_2.toNat dZone)).bind fun y1 =>
            bif !y1 then
              some false
            else r8 (IntKind.i64.wrap (v8_2 + (1 : Int)))
        else none
      else none
    else none
  else none
else some true
noncomputable def zq83.l8 (x0 : List TZone) (x1 : List TZone) (n : Nat) : Int → Option Bool :=
  V.iter (fun (r8 : Int → Option Bool) => fun v8_2 => zq83.g8 x0 x1 r8 v8_2) (fun _ => none) n
theorem zq83.u8 (x0 : List TZone) (x1 : List TZone) (n : Nat) (v8_2 : Int) : zq83.l8 x0 x1 (n + 1) v8_2 = zq83.g8 x0 x1 (zq83.l8 x0 x1 n) v8_2 := rfl
noncomputable abbrev zq83.b (x0 : List TZone) (x1 : List TZone) (L8 : Int → Option Bool) : Option Bool :=
  bif (x0.length : Int) != (x1.length : Int) then
  some false
else L8 (0 : Int)
noncomputable def zq83 (x0 : List TZone) (x1 : List TZone) : Option Bool :=
  zq83.b x0 x1 (zq83.l8 x0 x1 V.KK)
noncomputable def zq76 (x0 : TServer) (x1 : TServer) : Option Bool :=
  (zq83 x0.1 x1.1).bind fun y1 =>
  bif !y1 then
    some false
  else
    bif x0.2 != x1.2 then
      some false
    else some true
noncomputable abbrev zq92.g4 (r4 : Int → Int → (List Int) → Option TKeys) (v4_0 : Int) (v4_1 : Int) (v4_2 : List Int) : Option TKeys :=
  bif decide (v4_1 < (v4_2.length : Int)) then
  bif decide (0 ≤ v4_1) then
    bif decide (v4_1 < (v4_2.length : Int)) then
      r4 (IntKind.i64.wrap (v4_0 + (1 : Int))) (IntKind.i64.wrap (v4_1 + (1 : Int))) (v4_2.set v4_1.toNat v4_0)
    else none
  else none
else some (v4_2, v4_0)
noncomputable def zq92.l4 (n : Nat) : Int → Int → (List Int) → Option TKeys :=
  V.iter (fun (r4 : Int → Int → (List Int) → Option TKeys) => fun v4_0 v4_1 v4_2 => zq92.g4 r4 v4_0 v4_1 v4_2) (fun _ _ _ => none) n
theorem zq92.u4 (n : Nat) (v4_0 : Int) (v4_1 : Int) (v4_2 : List Int) : zq92.l4 (n + 1) v4_0 v4_1 v4_2 = zq92.g4 (zq92.l4 n) v4_0 v4_1 v4_2 := rfl
noncomputable abbrev zq92.b (x0 : List Int) (x1 : Int) (L4 : Int → Int → (List Int) → Option TKeys) : Option TKeys :=
  L4 x1 (0 : Int) x0
noncomputable def zq92 (x0 : List Int) (x1 : Int) : Option TKeys :=
  zq92.b x0 x1 (zq92.l4 V.KK)
noncomputable abbrev zq94.w1 (v4_0 : Int) (v4_1 : Int) (v4_2 : List TSig) : List TSig :=
  V.upd (V.upd v4_2 v4_1.toNat (fun z => (v4_0, z.2))) v4_1.toNat (fun z => (z.1, IntKind.i64.wrap (v4_0 + (1 : Int))))
noncomputable abbrev zq94.g4 (r4 : Int → Int → (List TSig) → Option (List TSig × Int)) (v4_0 : Int) (v4_1 : Int) (v4_2 : List TSig) : Option (List TSig × Int) :=
  bif decide (v4_1 < (v4_2.length : Int)) then
  bif decide (0 ≤ v4_1) then
    bif decide (v4_1 < (v4_2.length : Int)) then
      bif decide (0 ≤ v4_1) then
        bif decide (v4_1 < (((V.upd v4_2 v4_1.toNat (fun z => (v4_0, z.2))).length) : Int)) then
          r4 (IntKind.i64.wrap ((IntKind.i64.wrap (v4_0 + (1 : Int))) + (1 : Int))) (IntKind.i64.wrap (v4_1 + (1 : Int))) (zq94.w1 v4_0 v4_1 v4_2)
        else none
      else none
    else none
  else none
else some (v4_2, v4_0)
noncomputable def zq94.l4 (n : Nat) : Int → Int → (List TSig) → Option (List TSig × Int) :=
  V.iter (fun (r4 : Int → Int → (List TSig) → Option (List TSig × Int)) => fun v4_0 v4_1 v4_2 => zq94.g4 r4 v4_0 v4_1 v4_2) (fun _ _ _ => none) n
theorem zq94.u4 (n : Nat) (v4_0 : Int) (v4_1 : Int) (v4_2 : List TSig) : zq94.l4 (n + 1) v4_0 v4_1 v4_2 = zq94.g4 (zq94.l4 n) v4_0 v4_1 v4_2 := rfl
noncomputable abbrev zq94.b (x0 : List TSig) (x1 : Int) (L4 : Int → Int → (List TSig) → Option (List TSig × Int)) : Option (List TSig × Int) :=
  L4 x1 (0 : Int) x0
noncomputable def zq94 (x0 : List TSig) (x1 : Int) : Option (List TSig × Int) :=
  zq94.b x0 x1 (zq94.l4 V.KK)
noncomputable abbrev zq95.w1 (v4_0 : Int) (v4_1 : Int) (v4_2 : List TSigned) : List TSigned :=
  V.upd (V.upd v4_2 v4_1.toNat (fun z => (v4_0, z.2))) v4_1.toNat (fun z => (z.1, IntKind.i64.wrap (v4_0 + (1 : Int)), z.2.2))
noncomputable abbrev zq95.w2 (v4_0 : Int) (v4_1 : Int) (v4_2 : List TSigned) : List TSigned :=
  V.upd (zq95.w1 v4_0 v4_1 v4_2) v4_1.toNat (fun z => (z.1, z.2.1, IntKind.i64.wrap ((IntKind.i64.wrap (v4_0 + (1 : Int))) + (1 : Int)), z.2.2.2))
noncomputable abbrev zq95.w3 (v4_0 : Int) (v4_1 : Int) (v4_2 : List TSigned) : List TSigned :=
  V.upd (zq95.w2 v4_0 v4_1 v4_2) v4_1.toNat (fun z => (z.1, z.2.1, z.2.2.1, IntKind.i64.wrap ((IntKind.i64.wrap ((IntKind.i64.wrap (v4_0 + (1 : Int))) + (1 : Int))) + (1 : Int)), z.2.2.2.2))
noncomputable abbrev zq95.w4 (v4_0 : Int) (v4_1 : Int) (v4_2 : List TSigned) : List TSigned :=
  V.upd (zq95.w3 v4_0 v4_1 v4_2) v4_1.toNat (fun z => (z.1, z.2.1, z.2.2.1, z.2.2.2.1, IntKind.i64.wrap ((IntKind.i64.wrap ((IntKind.i64.wrap ((IntKind.i64.wrap (v4_0 + (1 : Int))) + (1 : Int))) + (1 : Int))) + (1 : Int)), z.2.2.2.2.2))
noncomputable abbrev zq95.w5 (v4_0 : Int) (v4_1 : Int) (v4_2 : List TSigned) : List TSigned :=
  V.upd (zq95.w4 v4_0 v4_1 v4_2) v4_1.toNat (fun z => (z.1, z.2.1, z.2.2.1, z.2.2.2.1, z.2.2.2.2.1, IntKind.i64.wrap ((IntKind.i64.wrap ((IntKind.i64.wrap ((IntKind.i64.wrap ((IntKind.i64.wrap (v4_0 + (1 : Int))) + (1 : Int))) + (1 : Int))) + (1 : Int))) + (1 : Int)), z.2.2.2.2.2.2))
noncomputable abbrev zq95.w6 (v4_0 : Int) (v4_1 : Int) (v4_2 : List TSigned) : List TSigned :=
  V.upd (zq95.w5 v4_0 v4_1 v4_2) v4_1.toNat (fun z => (z.1, z.2.1, z.2.2.1, z.2.2.2.1, z.2.2.2.2.1, z.2.2.2.2.2.1, IntKind.i64.wrap ((IntKind.i64.wrap ((IntKind.i64.wrap ((IntKind.i64.wrap ((IntKind.i64.wrap ((IntKind.i64.wrap (v4_0 + (1 : Int))) + (1 : Int))) + (1 : Int))) + (1 : Int))) + (1 : Int))) + (1 : Int)), z.2.2.2.2.2.2.2))
noncomputable abbrev zq95.w7 (v4_0 : Int) (v4_1 : Int) (v4_2 : List TSigned) : List TSigned :=
  V.upd (zq95.w6 v4_0 v4_1 v4_2) v4_1.toNat (fun z => (z.1, z.2.1, z.2.2.1, z.2.2.2.1, z.2.2.2.2.1, z.2.2.2.2.2.1, z.2.2.2.2.2.2.1, IntKind.i64.wrap ((IntKind.i64.wrap ((IntKind.i64.wrap ((IntKind.i64.wrap ((IntKind.i64.wrap ((IntKind.i64.wrap ((IntKind.i64.wrap (v4_0 + (1 : Int))) + (1 : Int))) + (1 : Int))) + (1 : Int))) + (1 : Int))) + (1 : Int))) + (1 : Int)), z.2.2.2.2.2.2.2.2))
noncomputable abbrev zq95.w8 (v4_0 : Int) (v4_1 : Int) (v4_2 : List TSigned) (y1 : TKeys) : List TSigned :=
  V.upd (zq95.w7 v4_0 v4_1 v4_2) v4_1.toNat (fun z => (z.1, z.2.1, z.2.2.1, z.2.2.2.1, z.2.2.2.2.1, z.2.2.2.2.2.1, z.2.2.2.2.2.2.1, z.2.2.2.2.2.2.2.1, y1.1, z.2.2.2.2.2.2.2.2.2))
noncomputable abbrev zq95.w9 (v4_0 : Int) (v4_1 : Int) (v4_2 : List TSigned) (y1 : TKeys) : List TSigned :=
  V.upd (zq95.w8 v4_0 v4_1 v4_2 y1) v4_1.toNat (fun z => (z.1, z.2.1, z.2.2.1, z.2.2.2.1, z.2.2.2.2.1, z.2.2.2.2.2.1, z.2.2.2.2.2.2.1, z.2.2.2.2.2.2.2.1, z.2.2.2.2.2.2.2.2.1, y1.2, z.2.2.2.2.2.2.2.2.2.2))
noncomputable abbrev zq95.w10 (v4_0 : Int) (v4_1 : Int) (v4_2 : List TSigned) (y1 : TKeys) (y2 : TKeys) : List TSigned :=
  V.upd (zq95.w9 v4_0 v4_1 v4_2 y1) v4_1.toNat (fun z => (z.1, z.2.1, z.2.2.1, z.2.2.2.1, z.2.2.2.2.1, z.2.2.2.2.2.1, z.2.2.2.2.2.2.1, z.2.2.2.2.2.2.2.1, z.2.2.2.2.2.2.2.2.1, z.2.2.2.2.2.2.2.2.2.1, y2.1, z.2.2.2.2.2.2.2.2.2.2.2))
noncomputable abbrev zq95.w11 (v4_0 : Int) (v4_1 : Int) (v4_2 : List TSigned) (y1 : TKeys) (y2 : TKeys) : List TSigned :=
  V.upd (zq95.w10 v4_0 v4_1 v4_2 y1 y2) v4_1.toNat (fun z => (z.1, z.2.1, z.2.2.1, z.2.2.2.1, z.2.2.2.2.1, z.2.2.2.2.2.1, z.2.2.2.2.2.2.1, z.2.2.2.2.2.2.2.1, z.2.2.2.2.2.2.2.2.1, z.2.2.2.2.2.2.2.2.2.1, z.2.2.2.2.2.2.2.2.2.2.1, y2.2, z.2.2.2.2.2.2.2.2.2.2.2.2))
noncomputable abbrev zq95.w12 (v4_0 : Int) (v4_1 : Int) (v4_2 : List TSigned) (y1 : TKeys) (y2 : TKeys) : List TSigned :=
  V.upd (zq95.w11 v4_0 v4_1 v4_2 y1 y2) v4_1.toNat (fun z => (z.1, z.2.1, z.2.2.1, z.2.2.2.1, z.2.2.2.2.1, z.2.2.2.2.2.1, z.2.2.2.2.2.2.1, z.2.2.2.2.2.2.2.1, z.2.2.2.2.2.2.2.2.1, z.2.2.2.2.2.2.2.2.2.1, z.2.2.2.2.2.2.2.2.2.2.1, z.2.2.2.2.2.2.2.2.2.2.2.1, IntKind.i64.wrap (y2.2 + (1 : Int)), z.2.2.2.2.2.2.2.2.2.2.2.2.2))
noncomputable abbrev zq95.w13 (v4_0 : Int) (v4_1 : Int) (v4_2 : List TSigned) (y1 : TKeys) (y2 : TKeys) (y3 : TKeys) : List TSigned :=
  V.upd (zq95.w12 v4_0 v4_1 v4_2 y1 y2) v4_1.toNat (fun z => (z.1, z.2.1, z.2.2.1, z.2.2.2.1, z.2.2.2.2.1, z.2.2.2.2.2.1, z.2.2.2.2.2.2.1, z.2.2.2.2.2.2.2.1, z.2.2.2.2.2.2.2.2.1, z.2.2.2.2.2.2.2.2.2.1, z.2.2.2.2.2.2.2.2.2.2.1, z.2.2.2.2.2.2.2.2.2.2.2.1, z.2.2.2.2.2.2.2.2.2.2.2.2.1, y3.1, z.2.2.2.2.2.2.2.2.2.2.2.2.2.2))
noncomputable abbrev zq95.w14 (v4_0 : Int) (v4_1 : Int) (v4_2 : List TSigned) (y1 : TKeys) (y2 : TKeys) (y3 : TKeys) : List TSigned :=
  V.upd (zq95.w13 v4_0 v4_1 v4_2 y1 y2 y3) v4_1.toNat (fun z => (z.1, z.2.1, z.2.2.1, z.2.2.2.1, z.2.2.2.2.1, z.2.2.2.2.2.1, z.2.2.2.2.2.2.1, z.2.2.2.2.2.2.2.1, z.2.2.2.2.2.2.2.2.1, z.2.2.2.2.2.2.2.2.2.1, z.2.2.2.2.2.2.2.2.2.2.1, z.2.2.2.2.2.2.2.2.2.2.2.1, z.2.2.2.2.2.2.2.2.2.2.2.2.1, z.2.2.2.2.2.2.2.2.2.2.2.2.2.1, y3.2, z.2.2.2.2.2.2.2.2.2.2.2.2.2.2.2))
noncomputable abbrev zq95.w15 (v4_0 : Int) (v4_1 : Int) (v4_2 : List TSigned) (y1 : TKeys) (y2 : TKeys) (y3 : TKeys) : List TSigned :=
  V.upd (zq95.w14 v4_0 v4_1 v4_2 y1 y2 y3) v4_1.toNat (fun z => (z.1, z.2.1, z.2.2.1, z.2.2.2.1, z.2.2.2.2.1, z.2.2.2.2.2.1, z.2.2.2.2.2.2.1, z.2.2.2.2.2.2.2.1, z.2.2.2.2.2.2.2.2.1, z.2.2.2.2.2.2.2.2.2.1, z.2.2.2.2.2.2.2.2.2.2.1, z.2.2.2.2.2.2.2.2.2.2.2.1, z.2.2.2.2.2.2.2.2.2.2.2.2.1, z.2.2.2.2.2.2.2.2.2.2.2.2.2.1, z.2.2.2.2.2.2.2.2.2.2.2.2.2.2.1, (Int.tmod (IntKind.i64.wrap (y3.2 + (1 : Int))) (3 : Int)) == (0 : Int), z.2.2.2.2.2.2.2.2.2.2.2.2.2.2.2.2))
noncomputable abbrev zq95.w16 (v4_0 : Int) (v4_1 : Int) (v4_2 : List TSigned) (y1 : TKeys) (y2 : TKeys) (y3 : TKeys) (y4 : List TSig × Int) : List TSigned :=
  V.upd (zq95.w15 v4_0 v4_1 v4_2 y1 y2 y3) v4_1.toNat (fun z => (z.1, z.2.1, z.2.2.1, z.2.2.2.1, z.2.2.2.2.1, z.2.2.2.2.2.1, z.2.2.2.2.2.2.1, z.2.2.2.2.2.2.2.1, z.2.2.2.2.2.2.2.2.1, z.2.2.2.2.2.2.2.2.2.1, z.2.2.2.2.2.2.2.2.2.2.1, z.2.2.2.2.2.2.2.2.2.2.2.1, z.2.2.2.2.2.2.2.2.2.2.2.2.1, z.2.2.2.2.2.2.2.2.2.2.2.2.2.1, z.2.2.2.2.2.2.2.2.2.2.2.2.2.2.1, z.2.2.2.2.2.2.2.2.2.2.2.2.2.2.2.1, y4.1))
noncomputable abbrev zq95.g4 (r4 : Int → Int → (List TSigned) → Option (List TSigned × Int)) (v4_0 : Int) (v4_1 : Int) (v4_2 : List TSigned) : Option (List TSigned × Int) :=
  bif decide (v4_1 < (v4_2.length : Int)) then
  bif decide (0 ≤ v4_1) then
    bif decide (v4_1 < (v4_2.length : Int)) then
      bif decide (0 ≤ v4_1) then
        bif decide (v4_1 < (((V.upd v4_2 v4_1.toNat (fun z => (v4_0, z.2))).length) : Int)) then
          bif decide (0 ≤ v4_1) then
            bif decide (v4_1 < (((zq95.w1 v4_0 v4_1 v4_2).length) : Int)) then
              bif decide (0 ≤ v4_1) then
                bif decide (v4_1 < (((zq95.w2 v4_0 v4_1 v4_2).length) : Int)) then
                  bif decide (0 ≤ v4_1) then
                    bif decide (v4_1 < (((zq95.w3 v4_0 v4_1 v4_2).length) : Int)) then
                      bif decide (0 ≤ v4_1) then
                        bif decide (v4_1 < (((zq95.w4 v4_0 v4_1 v4_2).length) : Int)) then
                          bif decide (0 ≤ v4_1) then
                            bif decide (v4_1 < (((zq95.w5 v4_0 v4_1 v4_2).length) : Int)) then
                              bif decide (0 ≤ v4_1) then
                                bif decide (v4_1 < (((zq95.w6 v4_0 v4_1 v4_2).length) : Int)) then
                                  bif decide (0 ≤ v4_1) then
                                    bif decide (v4_1 < (((zq95.w7 v4_0 v4_1 v4_2).length) : Int)) then
                                      (zq92 (Head_Keys (Signed_Head ((zq95.w7 v4_0 v4_1 v4_2).getD v4_1.toNat dSigned))).1 (IntKind.i64.wrap ((IntKind.i64.wrap ((IntKind.i64.wrap ((IntKind.i64.wrap ((IntKind.i64.wrap ((IntKind.i64.wrap ((IntKind.i64.wrap ((IntKind.i64.wrap (v4_0 + (1 : Int))) + (1 : Int))) + (1 : Int))) + (1 : Int))) + (1 : Int))) + (1 : Int))) + (1 : Int))) + (1 : Int)))).bind fun y1 =>
                                        bif decide (0 ≤ v4_1) then
                                          bif decide (v4_1 < (((zq95.w8 v4_0 v4_1 v4_2 y1).length) : Int)) then
                                            bif decide (0 ≤ v4_1) then
                                              bif decide (v4_1 < (((zq95.w9 v4_0 v4_1 v4_2 y1).length) : Int)) then
                                                (zq92 (Head_Heirs (Signed_Head ((zq95.w9 v4_0 v4_1 v4_2 y1).getD v4_1.toNat dSigned))).1 (IntKind.i64.wrap (y1.2 + (1 : Int)))).bind fun y2 =>
                                                  bif decide (0 ≤ v4_1) then
                                                    bif decide (v4_1 < (((zq95.w10 v4_0 v4_1 v4_2 y1 y2).length) : Int)) then
                                                      bif decide (0 ≤ v4_1) then
                                                        bif decide (v4_1 < (((zq95.w11 v4_0 v4_1 v4_2 y1 y2).length) : Int)) then
                                                          bif decide (0 ≤ v4_1) then
                                                            bif decide (v4_1 < (((zq95.w12 v4_0 v4_1 v4_2 y1 y2).length) : Int)) then
                                                              (zq92 (Head_Judge (Signed_Head ((zq95.w12 v4_0 v4_1 v4_2 y1 y2).getD v4_1.toNat dSigned))).1 (IntKind.i64.wrap ((IntKind.i64.wrap (y2.2 + (1 : Int))) + (1 : Int)))).bind fun y3 =>
                                                                bif decide (0 ≤ v4_1) then
                                                                  bif decide (v4_1 < (((zq95.w13 v4_0 v4_1 v4_2 y1 y2 y3).length) : Int)) then
                                                                    bif ((3 : Int) == (0 : Int)) then
                                                                      none
                                                                    else
                                                                      bif decide (0 ≤ v4_1) then
                                                                        bif decide (v4_1 < (((zq95.w14 v4_0 v4_1 v4_2 y1 y2 y3).length) : Int)) then
                                                                          bif decide (0 ≤ v4_1) then
                                                                            bif decide (v4_1 < (((zq95.w15 v4_0 v4_1 v4_2 y1 y2 y3).length) : Int)) then
                                                                              (zq94 (Signed_Sigs ((zq95.w15 v4_0 v4_1 v4_2 y1 y2 y3).getD v4_1.toNat dSigned)) (IntKind.i64.wrap ((IntKind.i64.wrap (y3.2 + (1 : Int))) + (1 : Int)))).bind fun y4 =>
                                                                                r4 y4.2 (IntKind.i64.wrap (v4_1 + (1 : Int))) (zq95.w16 v4_0 v4_1 v4_2 y1 y2 y3 y4)
                                                                            else none
                                                                          else none
                                                                        else none
                                                                      else none
                                                                  else none
                                                                else none
                                                            else none
                                                          else none
                                                        else none
                                                      else none
                                                    else none
                                                  else none
                                              else none
                                            else none
                                          else none
                                        else none
                                    else none
                                  else none
                                else none
                              else none
                            else none
                          else none
                        else none
                      else none
                    else none
                  else none
                else none
              else none
            else none
          else none
        else none
      else none
    else none
  else none
else some (v4_2, v4_0)
noncomputable def zq95.l4 (n : Nat) : Int → Int → (List TSigned) → Option (List TSigned × Int) :=
  V.iter (fun (r4 : Int → Int → (List TSigned) → Option (List TSigned × Int)) => fun v4_0 v4_1 v4_2 => zq95.g4 r4 v4_0 v4_1 v4_2) (fun _ _ _ => none) n
theorem zq95.u4 (n : Nat) (v4_0 : Int) (v4_1 : Int) (v4_2 : List TSigned) : zq95.l4 (n + 1) v4_0 v4_1 v4_2 = zq95.g4 (zq95.l4 n) v4_0 v4_1 v4_2 := rfl
noncomputable abbrev zq95.b (x0 : List TSigned) (x1 : Int) (L4 : Int → Int → (List TSigned) → Option (List TSigned × Int)) : Option (List TSigned × Int) :=
  L4 x1 (0 : Int) x0
noncomputable def zq95 (x0 : List TSigned) (x1 : Int) : Option (List TSigned × Int) :=
  zq95.b x0 x1 (zq95.l4 V.KK)
noncomputable abbrev zq97.g8 (r8 : Int → ByteArray → Option ByteArray) (v8_0 : Int) (v8_1 : ByteArray) : Option ByteArray :=
  bif decide (v8_0 > (0 : Int)) then
  bif ((10 : Int) == (0 : Int)) then
    none
  else
    bif decide ((V.strOf [IntKind.u8.wrap (IntKind.i64.wrap ((48 : Int) + (Int.tmod v8_0 (10 : Int))))]).size + v8_1.size < 281474976710656) then
      bif ((10 : Int) == (0 : Int)) then
        none
      else r8 (IntKind.i64.wrap (Int.tdiv v8_0 (10 : Int))) ((V.strOf [IntKind.u8.wrap (IntKind.i64.wrap ((48 : Int) + (Int.tmod v8_0 (10 : Int))))]) ++ v8_1)
    else none
else
  bif decide ((⟨#[109]⟩ : ByteArray).size + v8_1.size < 281474976710656) then
    some ((⟨#[109]⟩ : ByteArray) ++ v8_1)
  else none
noncomputable def zq97.l8 (n : Nat) : Int → ByteArray → Option ByteArray :=
  V.iter (fun (r8 : Int → ByteArray → Option ByteArray) => fun v8_0 v8_1 => zq97.g8 r8 v8_0 v8_1) (fun _ _ => none) n
theorem zq97.u8 (n : Nat) (v8_0 : Int) (v8_1 : ByteArray) : zq97.l8 (n + 1) v8_0 v8_1 = zq97.g8 (zq97.l8 n) v8_0 v8_1 := rfl
noncomputable abbrev zq97.b (x0 : Int) (L8 : Int → ByteArray → Option ByteArray) : Option ByteArray :=
  bif decide (x0 ≤ (0 : Int)) then
  some (⟨#[109, 48]⟩ : ByteArray)
else L8 x0 (⟨#[]⟩ : ByteArray)
noncomputable def zq97 (x0 : Int) : Option ByteArray :=
  zq97.b x0 (zq97.l8 V.KK)
noncomputable abbrev zq96.g4 (r4 : Int → Int → (List ByteArray) → Option (List ByteArray × Int)) (v4_0 : Int) (v4_1 : Int) (v4_2 : List ByteArray) : Option (List ByteArray × Int) :=
  bif decide (v4_1 < (v4_2.length : Int)) then
  (zq97 v4_0).bind fun y1 =>
    bif decide (0 ≤ v4_1) then
      bif decide (v4_1 < (v4_2.length : Int)) then
        r4 (IntKind.i64.wrap (v4_0 + (1 : Int))) (IntKind.i64.wrap (v4_1 + (1 : Int))) (v4_2.set v4_1.toNat y1)
      else none
    else none
else some (v4_2, v4_0)
noncomputable def zq96.l4 (n : Nat) : Int → Int → (List ByteArray) → Option (List ByteArray × Int) :=
  V.iter (fun (r4 : Int → Int → (List ByteArray) → Option (List ByteArray × Int)) => fun v4_0 v4_1 v4_2 => zq96.g4 r4 v4_0 v4_1 v4_2) (fun _ _ _ => none) n
theorem zq96.u4 (n : Nat) (v4_0 : Int) (v4_1 : Int) (v4_2 : List ByteArray) : zq96.l4 (n + 1) v4_0 v4_1 v4_2 = zq96.g4 (zq96.l4 n) v4_0 v4_1 v4_2 := rfl
noncomputable abbrev zq96.b (x0 : List ByteArray) (x1 : Int) (L4 : Int → Int → (List ByteArray) → Option (List ByteArray × Int)) : Option (List ByteArray × Int) :=
  L4 x1 (0 : Int) x0
noncomputable def zq96 (x0 : List ByteArray) (x1 : Int) : Option (List ByteArray × Int) :=
  zq96.b x0 x1 (zq96.l4 V.KK)
noncomputable abbrev zq91.w1 (v4_0 : Int) (v4_1 : Int) (v4_2 : List TEntry) (y1 : ByteArray) : List TEntry :=
  V.upd (V.upd v4_2 v4_1.toNat (fun z => (y1, z.2))) v4_1.toNat (fun z => (z.1, IntKind.i64.wrap (v4_0 + (1 : Int)), z.2.2))
noncomputable abbrev zq91.w2 (v4_0 : Int) (v4_1 : Int) (v4_2 : List TEntry) (y1 : ByteArray) : List TEntry :=
  V.upd (zq91.w1 v4_0 v4_1 v4_2 y1) v4_1.toNat (fun z => (z.1, z.2.1, IntKind.i64.wrap ((IntKind.i64.wrap (v4_0 + (1 : Int))) + (1 : Int)), z.2.2.2))
noncomputable abbrev zq91.w3 (v4_0 : Int) (v4_1 : Int) (v4_2 : List TEntry) (y1 : ByteArray) (y2 : List ByteArray × Int) : List TEntry :=
  V.upd (zq91.w2 v4_0 v4_1 v4_2 y1) v4_1.toNat (fun z => (z.1, z.2.1, z.2.2.1, y2.1))
noncomputable abbrev zq91.g4 (r4 : Int → Int → (List TEntry) → Option (List TEntry × Int)) (v4_0 : Int) (v4_1 : Int) (v4_2 : List TEntry) : Option (List TEntry × Int) :=
  bif decide (v4_1 < (v4_2.length : Int)) then
  (zq97 v4_0).bind fun y1 =>
    bif decide (0 ≤ v4_1) then
      bif decide (v4_1 < (v4_2.length : Int)) then
        bif decide (0 ≤ v4_1) then
          bif decide (v4_1 < (((V.upd v4_2 v4_1.toNat (fun z => (y1, z.2))).length) : Int)) then
            bif decide (0 ≤ v4_1) then
              bif decide (v4_1 < (((zq91.w1 v4_0 v4_1 v4_2 y1).length) : Int)) then
                bif decide (0 ≤ v4_1) then
                  bif decide (v4_1 < (((zq91.w2 v4_0 v4_1 v4_2 y1).length) : Int)) then
                    (zq96 ((zq91.w2 v4_0 v4_1 v4_2 y1).getD v4_1.toNat dEntry).2.2.2 (IntKind.i64.wrap ((IntKind.i64.wrap ((IntKind.i64.wrap (v4_0 + (1 : Int))) + (1 : Int))) + (1 : Int)))).bind fun y2 =>
                      r4 y2.2 (IntKind.i64.wrap (v4_1 + (1 : Int))) (zq91.w3 v4_0 v4_1 v4_2 y1 y2)
                  else none
                else none
              else none
            else none
          else none
        else none
      else none
    else none
else some (v4_2, v4_0)
noncomputable def zq91.l4 (n : Nat) : Int → Int → (List TEntry) → Option (List TEntry × Int) :=
  V.iter (fun (r4 : Int → Int → (List TEntry) → Option (List TEntry × Int)) => fun v4_0 v4_1 v4_2 => zq91.g4 r4 v4_0 v4_1 v4_2) (fun _ _ _ => none) n
theorem zq91.u4 (n : Nat) (v4_0 : Int) (v4_1 : Int) (v4_2 : List TEntry) : zq91.l4 (n + 1) v4_0 v4_1 v4_2 = zq91.g4 (zq91.l4 n) v4_0 v4_1 v4_2 := rfl
noncomputable abbrev zq91.b (x0 : List TEntry) (x1 : Int) (L4 : Int → Int → (List TEntry) → Option (List TEntry × Int)) : Option (List TEntry × Int) :=
  L4 x1 (0 : Int) x0
noncomputable def zq91 (x0 : List TEntry) (x1 : Int) : Option (List TEntry × Int) :=
  zq91.b x0 x1 (zq91.l4 V.KK)
noncomputable abbrev zq99.w1 (v4_1 : Int) (v4_2 : List TZone) (y1 : List TSigned × Int) (y2 : List TEntry × Int) : List TZone :=
  V.upd (V.upd v4_2 v4_1.toNat (fun z => (y1.1, z.2))) v4_1.toNat (fun z => (z.1, y2.1))
noncomputable abbrev zq99.g4 (r4 : Int → Int → (List TZone) → Option TServer) (v4_0 : Int) (v4_1 : Int) (v4_2 : List TZone) : Option TServer :=
  bif decide (v4_1 < (v4_2.length : Int)) then
  bif decide (0 ≤ v4_1) then
    bif decide (v4_1 < (v4_2.length : Int)) then
      (zq95 (v4_2.getD v4_1.toNat dZone).1 v4_0).bind fun y1 =>
        bif decide (0 ≤ v4_1) then
          bif decide (v4_1 < (((V.upd v4_2 v4_1.toNat (fun z => (y1.1, z.2))).length) : Int)) then
            (zq91 ((V.upd v4_2 v4_1.toNat (fun z => (y1.1, z.2))).getD v4_1.toNat dZone).2 y1.2).bind fun y2 =>
              r4 y2.2 (IntKind.i64.wrap (v4_1 + (1 : Int))) (zq99.w1 v4_1 v4_2 y1 y2)
          else none
        else none
    else none
  else none
else some (v4_2, v4_0)
noncomputable def zq99.l4 (n : Nat) : Int → Int → (List TZone) → Option TServer :=
  V.iter (fun (r4 : Int → Int → (List TZone) → Option TServer) => fun v4_0 v4_1 v4_2 => zq99.g4 r4 v4_0 v4_1 v4_2) (fun _ _ _ => none) n
theorem zq99.u4 (n : Nat) (v4_0 : Int) (v4_1 : Int) (v4_2 : List TZone) : zq99.l4 (n + 1) v4_0 v4_1 v4_2 = zq99.g4 (zq99.l4 n) v4_0 v4_1 v4_2 := rfl
noncomputable abbrev zq99.b (x0 : List TZone) (x1 : Int) (L4 : Int → Int → (List TZone) → Option TServer) : Option TServer :=
  L4 x1 (0 : Int) x0
noncomputable def zq99 (x0 : List TZone) (x1 : Int) : Option TServer :=
  zq99.b x0 x1 (zq99.l4 V.KK)
noncomputable def zq93 (x0 : TServer) (x1 : Int) : Option TServer :=
  (zq99 x0.1 x1).bind fun y1 =>
  some y1
noncomputable def zq98 (x0 : TZone) (x1 : Int) : Option TRZoneInt :=
  (zq95 x0.1 x1).bind fun y1 =>
  (zq91 x0.2 y1.2).bind fun y2 =>
    some (RZoneInt_mk (y1.1, y2.1) y2.2)
noncomputable abbrev zq85.g4 (x0 : List Int) (r4 : Int → Int → Option Int) (v4_1 : Int) (v4_2 : Int) : Option Int :=
  bif decide (v4_2 < (x0.length : Int)) then
  bif decide (0 ≤ v4_2) then
    bif decide (v4_2 < (x0.length : Int)) then
      bif (x0.getD v4_2.toNat (0 : Int)) != v4_1 then
        some (-1 : Int)
      else r4 (IntKind.i64.wrap (v4_1 + (1 : Int))) (IntKind.i64.wrap (v4_2 + (1 : Int)))
    else none
  else none
else some v4_1
noncomputable def zq85.l4 (x0 : List Int) (n : Nat) : Int → Int → Option Int :=
  V.iter (fun (r4 : Int → Int → Option Int) => fun v4_1 v4_2 => zq85.g4 x0 r4 v4_1 v4_2) (fun _ _ => none) n
theorem zq85.u4 (x0 : List Int) (n : Nat) (v4_1 : Int) (v4_2 : Int) : zq85.l4 x0 (n + 1) v4_1 v4_2 = zq85.g4 x0 (zq85.l4 x0 n) v4_1 v4_2 := rfl
noncomputable abbrev zq85.b (x0 : List Int) (x1 : Int) (L4 : Int → Int → Option Int) : Option Int :=
  L4 x1 (0 : Int)
noncomputable def zq85 (x0 : List Int) (x1 : Int) : Option Int :=
  zq85.b x0 x1 (zq85.l4 x0 V.KK)
noncomputable abbrev zq87.g4 (x0 : List TSig) (r4 : Int → Int → Option Int) (v4_1 : Int) (v4_2 : Int) : Option Int :=
  bif decide (v4_2 < (x0.length : Int)) then
  bif decide (0 ≤ v4_2) then
    bif decide (v4_2 < (x0.length : Int)) then
      bif (x0.getD v4_2.toNat dSig).1 != v4_1 then
        some (-1 : Int)
      else
        bif decide (0 ≤ v4_2) then
          bif decide (v4_2 < (x0.length : Int)) then
            bif (x0.getD v4_2.toNat dSig).2 != (IntKind.i64.wrap (v4_1 + (1 : Int))) then
              some (-1 : Int)
            else r4 (IntKind.i64.wrap ((IntKind.i64.wrap (v4_1 + (1 : Int))) + (1 : Int))) (IntKind.i64.wrap (v4_2 + (1 : Int)))
          else none
        else none
    else none
  else none
else some v4_1
noncomputable def zq87.l4 (x0 : List TSig) (n : Nat) : Int → Int → Option Int :=
  V.iter (fun (r4 : Int → Int → Option Int) => fun v4_1 v4_2 => zq87.g4 x0 r4 v4_1 v4_2) (fun _ _ => none) n
theorem zq87.u4 (x0 : List TSig) (n : Nat) (v4_1 : Int) (v4_2 : Int) : zq87.l4 x0 (n + 1) v4_1 v4_2 = zq87.g4 x0 (zq87.l4 x0 n) v4_1 v4_2 := rfl
noncomputable abbrev zq87.b (x0 : List TSig) (x1 : Int) (L4 : Int → Int → Option Int) : Option Int :=
  L4 x1 (0 : Int)
noncomputable def zq87 (x0 : List TSig) (x1 : Int) : Option Int :=
  zq87.b x0 x1 (zq87.l4 x0 V.KK)
noncomputable abbrev zq88.g4 (x0 : List TSigned) (r4 : Int → Int → Option Int) (v4_1 : Int) (v4_2 : Int) : Option Int :=
  bif decide (v4_2 < (x0.length : Int)) then
  bif decide (0 ≤ v4_2) then
    bif decide (v4_2 < (x0.length : Int)) then
      bif (Head_Zone (Signed_Head (x0.getD v4_2.toNat dSigned))) != v4_1 then
        some (-1 : Int)
      else
        bif decide (0 ≤ v4_2) then
          bif decide (v4_2 < (x0.length : Int)) then
            bif (Head_Epoch (Signed_Head (x0.getD v4_2.toNat dSigned))) != (IntKind.i64.wrap (v4_1 + (1 : Int))) then
              some (-1 : Int)
            else
              bif decide (0 ≤ v4_2) then
                bif decide (v4_2 < (x0.length : Int)) then
                  bif (Head_Kind (Signed_Head (x0.getD v4_2.toNat dSigned))) != (IntKind.i64.wrap ((IntKind.i64.wrap (v4_1 + (1 : Int))) + (1 : Int))) then
                    some (-1 : Int)
                  else
                    bif decide (0 ≤ v4_2) then
                      bif decide (v4_2 < (x0.length : Int)) then
                        bif (Head_Time (Signed_Head (x0.getD v4_2.toNat dSigned))) != (IntKind.i64.wrap ((IntKind.i64.wrap ((IntKind.i64.wrap (v4_1 + (1 : Int))) + (1 : Int))) + (1 : Int))) then
                          some (-1 : Int)
                        else
                          bif decide (0 ≤ v4_2) then
                            bif decide (v4_2 < (x0.length : Int)) then
                              bif (Head_Until (Signed_Head (x0.getD v4_2.toNat dSigned))) != (IntKind.i64.wrap ((IntKind.i64.wrap ((IntKind.i64.wrap ((IntKind.i64.wrap (v4_1 + (1 : Int))) + (1 : Int))) + (1 : Int))) + (1 : Int))) then
                                some (-1 : Int)
                              else
                                bif decide (0 ≤ v4_2) then
                                  bif decide (v4_2 < (x0.length : Int)) then
                                    bif (Head_Count (Signed_Head (x0.getD v4_2.toNat dSigned))) != (IntKind.i64.wrap ((IntKind.i64.wrap ((IntKind.i64.wrap ((IntKind.i64.wrap ((IntKind.i64.wrap (v4_1 + (1 : Int))) + (1 : Int))) + (1 : Int))) + (1 : Int))) + (1 : Int))) then
                                      some (-1 : Int)
                                    else
                                      bif decide (0 ≤ v4_2) then
                                        bif decide (v4_2 < (x0.length : Int)) then
                                          bif (Head_Root (Signed_Head (x0.getD v4_2.toNat dSigned))) != (IntKind.i64.wrap ((IntKind.i64.wrap ((IntKind.i64.wrap ((IntKind.i64.wrap ((IntKind.i64.wrap ((IntKind.i64.wrap (v4_1 + (1 : Int))) + (1 : Int))) + (1 : Int))) + (1 : Int))) + (1 : Int))) + (1 : Int))) then
                                            some (-1 : Int)
                                          else
                                            bif decide (0 ≤ v4_2) then
                                              bif decide (v4_2 < (x0.length : Int)) then
                                                bif (Head_Prev (Signed_Head (x0.getD v4_2.toNat dSigned))) != (IntKind.i64.wrap ((IntKind.i64.wrap ((IntKind.i64.wrap ((IntKind.i64.wrap ((IntKind.i64.wrap ((IntKind.i64.wrap ((IntKind.i64.wrap (v4_1 + (1 : Int))) + (1 : Int))) + (1 : Int))) + (1 : Int))) + (1 : Int))) + (1 : Int))) + (1 : Int))) then
                                                  some (-1 : Int)
                                                else
                                                  bif decide (0 ≤ v4_2) then
                                                    bif decide (v4_2 < (x0.length : Int)) then
                                                      (zq85 (Head_Keys (Signed_Head (x0.getD v4_2.toNat dSigned))).1 (IntKind.i64.wrap ((IntKind.i64.wrap ((IntKind.i64.wrap ((IntKind.i64.wrap ((IntKind.i64.wrap ((IntKind.i64.wrap ((IntKind.i64.wrap ((IntKind.i64.wrap (v4_1 + (1 : Int))) + (1 : Int))) + (1 : Int))) + (1 : Int))) + (1 : Int))) + (1 : Int))) + (1 : Int))) + (1 : Int)))).bind fun y1 =>
                                                        bif decide (y1 < (0 : Int)) then
                                                          some (-1 : Int)
                                                        else
                                                          bif decide (0 ≤ v4_2) then
                                                            bif decide (v4_2 < (x0.length : Int)) then
                                                              bif (Head_Keys (Signed_Head (x0.getD v4_2.toNat dSigned))).2 != y1 then
                                                                some (-1 : Int)
                                                              else
                                                                bif decide (0 ≤ v4_2) then
                                                                  bif decide (v4_2 < (x0.length : Int)) then
                                                                    (zq85 (Head_Heirs (Signed_Head (x0.getD v4_2.toNat dSigned))).1 (IntKind.i64.wrap (y1 + (1 : Int)))).bind fun y2 =>
                                                                      bif decide (y2 < (0 : Int)) then
                                                                        some (-1 : Int)
                                                                      else
                                                                        bif decide (0 ≤ v4_2) then
                                                                          bif decide (v4_2 < (x0.length : Int)) then
                                                                            bif (Head_Heirs (Signed_Head (x0.getD v4_2.toNat dSigned))).2 != y2 then
                                                                              some (-1 : Int)
                                                                            else
                                                                              bif decide (0 ≤ v4_2) then
                                                                                bif decide (v4_2 < (x0.length : Int)) then
                                                                                  bif (Head_Wait (Signed_Head (x0.getD v4_2.toNat dSigned))) != (IntKind.i64.wrap (y2 + (1 : Int))) then
                                                                                    some (-1 : Int)
                                                                                  else
                                                                                    bif decide (0 ≤ v4_2) then
                                                                                      bif decide (v4_2 < (x0.length : Int)) then
                                                                                        (zq85 (Head_Judge (Signed_Head (x0.getD v4_2.toNat dSigned))).1 (IntKind.i64.wrap ((IntKind.i64.wrap (y2 + (1 : Int))) + (1 : Int)))).bind fun y3 =>
                                                                                          bif decide (y3 < (0 : Int)) then
                                                                                            some (-1 : Int)
                                                                                          else
                                                                                            bif decide (0 ≤ v4_2) then
                                                                                              bif decide (v4_2 < (x0.length : Int)) then
                                                                                                bif (Head_Judge (Signed_Head (x0.getD v4_2.toNat dSigned))).2 != y3 then
                                                                                                  some (-1 : Int)
                                                                                                else
                                                                                                  bif decide (0 ≤ v4_2) then
                                                                                                    bif decide (v4_2 < (x0.length : Int)) then
                                                                                                      bif ((3 : Int) == (0 : Int)) then
                                                                                                        none
                                                                                                      else
                                                                                                        bif !((Head_Frozen (Signed_Head (x0.getD v4_2.toNat dSigned))) == ((Int.tmod (IntKind.i64.wrap (y3 + (1 : Int))) (3 : Int)) == (0 : Int))) then
                                                                                                          some (-1 : Int)
                                                                                                        else
                                                                                                          bif decide (0 ≤ v4_2) then
                                                                                                            bif decide (v4_2 < (x0.length : Int)) then
                                                                                                              (zq87 (Signed_Sigs (x0.getD v4_2.toNat dSigned)) (IntKind.i64.wrap ((IntKind.i64.wrap (y3 + (1 : Int))) + (1 : Int)))).bind fun y4 =>
                                                                                                                bif decide (y4 < (0 : Int)) then
                                                                                                                  some (-1 : Int)
                                                                                                                else r4 y4 (IntKind.i64.wrap (v4_2 + (1 : Int)))
                                                                                                            else none
                                                                                                          else none
                                                                                                    else none
                                                                                                  else none
                                                                                              else none
                                                                                            else none
                                                                                      else none
                                                                                    else none
                                                                                else none
                                                                              else none
                                                                          else none
                                                                        else none
                                                                  else none
                                                                else none
                                                            else none
                                                          else none
                                                    else none
                                                  else none
                                              else none
                                            else none
                                        else none
                                      else none
                                  else none
                                else none
                            else none
                          else none
                      else none
                    else none
                else none
              else none
          else none
        else none
    else none
  else none
else some v4_1
noncomputable def zq88.l4 (x0 : List TSigned) (n : Nat) : Int → Int → Option Int :=
  V.iter (fun (r4 : Int → Int → Option Int) => fun v4_1 v4_2 => zq88.g4 x0 r4 v4_1 v4_2) (fun _ _ => none) n
theorem zq88.u4 (x0 : List TSigned) (n : Nat) (v4_1 : Int) (v4_2 : Int) : zq88.l4 x0 (n + 1) v4_1 v4_2 = zq88.g4 x0 (zq88.l4 x0 n) v4_1 v4_2 := rfl
noncomputable abbrev zq88.b (x0 : List TSigned) (x1 : Int) (L4 : Int → Int → Option Int) : Option Int :=
  L4 x1 (0 : Int)
noncomputable def zq88 (x0 : List TSigned) (x1 : Int) : Option Int :=
  zq88.b x0 x1 (zq88.l4 x0 V.KK)
noncomputable abbrev zq89.g4 (x0 : List ByteArray) (r4 : Int → Int → Option Int) (v4_1 : Int) (v4_2 : Int) : Option Int :=
  bif decide (v4_2 < (x0.length : Int)) then
  bif decide (0 ≤ v4_2) then
    bif decide (v4_2 < (x0.length : Int)) then
      (zq97 v4_1).bind fun y1 =>
        bif !((x0.getD v4_2.toNat (⟨#[]⟩ : ByteArray)).toList == y1.toList) then
          some (-1 : Int)
        else r4 (IntKind.i64.wrap (v4_1 + (1 : Int))) (IntKind.i64.wrap (v4_2 + (1 : Int)))
    else none
  else none
else some v4_1
noncomputable def zq89.l4 (x0 : List ByteArray) (n : Nat) : Int → Int → Option Int :=
  V.iter (fun (r4 : Int → Int → Option Int) => fun v4_1 v4_2 => zq89.g4 x0 r4 v4_1 v4_2) (fun _ _ => none) n
theorem zq89.u4 (x0 : List ByteArray) (n : Nat) (v4_1 : Int) (v4_2 : Int) : zq89.l4 x0 (n + 1) v4_1 v4_2 = zq89.g4 x0 (zq89.l4 x0 n) v4_1 v4_2 := rfl
noncomputable abbrev zq89.b (x0 : List ByteArray) (x1 : Int) (L4 : Int → Int → Option Int) : Option Int :=
  L4 x1 (0 : Int)
noncomputable def zq89 (x0 : List ByteArray) (x1 : Int) : Option Int :=
  zq89.b x0 x1 (zq89.l4 x0 V.KK)
noncomputable abbrev zq84.g4 (x0 : List TEntry) (r4 : Int → Int → Option Int) (v4_1 : Int) (v4_2 : Int) : Option Int :=
  bif decide (v4_2 < (x0.length : Int)) then
  bif decide (0 ≤ v4_2) then
    bif decide (v4_2 < (x0.length : Int)) then
      (zq97 v4_1).bind fun y1 =>
        bif !((x0.getD v4_2.toNat dEntry).1.toList == y1.toList) then
          some (-1 : Int)
        else
          bif decide (0 ≤ v4_2) then
            bif decide (v4_2 < (x0.length : Int)) then
              bif (x0.getD v4_2.toNat dEntry).2.1 != (IntKind.i64.wrap (v4_1 + (1 : Int))) then
                some (-1 : Int)
              else
                bif decide (0 ≤ v4_2) then
                  bif decide (v4_2 < (x0.length : Int)) then
                    bif (x0.getD v4_2.toNat dEntry).2.2.1 != (IntKind.i64.wrap ((IntKind.i64.wrap (v4_1 + (1 : Int))) + (1 : Int))) then
                      some (-1 : Int)
                    else
                      bif decide (0 ≤ v4_2) then
                        bif decide (v4_2 < (x0.length : Int)) then
                          (zq89 (x0.getD v4_2.toNat dEntry).2.2.2 (IntKind.i64.wrap ((IntKind.i64.wrap ((IntKind.i64.wrap (v4_1 + (1 : Int))) + (1 : Int))) + (1 : Int)))).bind fun y2 =>
                            bif decide (y2 < (0 : Int)) then
                              some (-1 : Int)
                            else r4 y2 (IntKind.i64.wrap (v4_2 + (1 : Int)))
                        else none
                      else none
                  else none
                else none
            else none
          else none
    else none
  else none
else some v4_1
noncomputable def zq84.l4 (x0 : List TEntry) (n : Nat) : Int → Int → Option Int :=
  V.iter (fun (r4 : Int → Int → Option Int) => fun v4_1 v4_2 => zq84.g4 x0 r4 v4_1 v4_2) (fun _ _ => none) n
theorem zq84.u4 (x0 : List TEntry) (n : Nat) (v4_1 : Int) (v4_2 : Int) : zq84.l4 x0 (n + 1) v4_1 v4_2 = zq84.g4 x0 (zq84.l4 x0 n) v4_1 v4_2 := rfl
noncomputable abbrev zq84.b (x0 : List TEntry) (x1 : Int) (L4 : Int → Int → Option Int) : Option Int :=
  L4 x1 (0 : Int)
noncomputable def zq84 (x0 : List TEntry) (x1 : Int) : Option Int :=
  zq84.b x0 x1 (zq84.l4 x0 V.KK)
noncomputable abbrev zq90.g4 (x0 : List TZone) (r4 : Int → Int → Option Int) (v4_1 : Int) (v4_2 : Int) : Option Int :=
  bif decide (v4_2 < (x0.length : Int)) then
  bif decide (0 ≤ v4_2) then
    bif decide (v4_2 < (x0.length : Int)) then
      (zq88 (x0.getD v4_2.toNat dZone).1 v4_1).bind fun y1 =>
        bif decide (y1 < (0 : Int)) then
          some (-1 : Int)
        else
          bif decide (0 ≤ v4_2) then
            bif decide (v4_2 < (x0.length : Int)) then
              (zq84 (x0.getD v4_2.toNat dZone).2 y1).bind fun y2 =>
                bif decide (y2 < (0 : Int)) then
                  some (-1 : Int)
                else r4 y2 (IntKind.i64.wrap (v4_2 + (1 : Int)))
            else none
          else none
    else none
  else none
else some v4_1
noncomputable def zq90.l4 (x0 : List TZone) (n : Nat) : Int → Int → Option Int :=
  V.iter (fun (r4 : Int → Int → Option Int) => fun v4_1 v4_2 => zq90.g4 x0 r4 v4_1 v4_2) (fun _ _ => none) n
theorem zq90.u4 (x0 : List TZone) (n : Nat) (v4_1 : Int) (v4_2 : Int) : zq90.l4 x0 (n + 1) v4_1 v4_2 = zq90.g4 x0 (zq90.l4 x0 n) v4_1 v4_2 := rfl
noncomputable abbrev zq90.b (x0 : List TZone) (x1 : Int) (L4 : Int → Int → Option Int) : Option Int :=
  L4 x1 (0 : Int)
noncomputable def zq90 (x0 : List TZone) (x1 : Int) : Option Int :=
  zq90.b x0 x1 (zq90.l4 x0 V.KK)
noncomputable def zq86 (x0 : TServer) (x1 : Int) : Option Int :=
  (zq90 x0.1 x1).bind fun y1 =>
  bif decide (y1 < (0 : Int)) then
    some (-1 : Int)
  else some y1
noncomputable abbrev zq70.g69 (y8 : TRServerBool) (y17 : TServer) : Option Bool :=
  (zq86 (y17.1, (RServerBool_r0 y8).2) (1 : Int)).bind fun y23 =>
  bif decide (y23 < (0 : Int)) then
    some false
  else
    bif y23 != y17.2 then
      some false
    else some true
noncomputable def zq70.l69 (y8 : TRServerBool) (y17 : TServer) : Option Bool :=
  zq70.g69 y8 y17
noncomputable abbrev zq70.g47 (x0 : TServer) (x1 : TZone) (y5 : TRServerBool) (y8 : TRServerBool) (L69 : TRServerBool → TServer → Option Bool) : Option Bool :=
  (zq93 (RServerBool_r0 y8) (1 : Int)).bind fun y17 =>
  (zq86 (y17.1, (RServerBool_r0 y8).2) (1 : Int)).bind fun y18 =>
    bif decide (y18 < (0 : Int)) then
      some false
    else
      bif y18 != y17.2 then
        some false
      else
        (zq117 x0).bind fun y19 =>
          (zq123 x1).bind fun y20 =>
            (zq41 y19 y20).bind fun y21 =>
              (zq76 (RServerBool_r0 y21) (RServerBool_r0 y5)).bind fun y22 =>
                bif !y22 then
                  some false
                else
                  bif !((RServerBool_r1 y21) == (RServerBool_r1 y5)) then
                    some false
                  else L69 y8 y17
noncomputable def zq70.l47 (x0 : TServer) (x1 : TZone) (y5 : TRServerBool) (y8 : TRServerBool) : Option Bool :=
  zq70.g47 x0 x1 y5 y8 (fun y8 y17 => zq70.l69 y8 y17)
noncomputable abbrev zq70.g29 (x0 : TServer) (x1 : TZone) (y5 : TRServerBool) (y6 : TServer) (y7 : TZone) (y8 : TRServerBool) (L47 : TRServerBool → TRServerBool → Option Bool) : Option Bool :=
  (zq117 x0).bind fun y10 =>
  (zq76 y6 y10).bind fun y11 =>
    bif !y11 then
      some false
    else
      (zq123 x1).bind fun y12 =>
        (zq82 y7 y12).bind fun y13 =>
          bif !y13 then
            some false
          else
            (zq93 y6 (1 : Int)).bind fun y14 =>
              (zq98 y7 y14.2).bind fun y15 =>
                bif decide ((RZoneInt_r1 y15) < (0 : Int)) then
                  some false
                else
                  (zq76 (RServerBool_r0 y8) (RServerBool_r0 y5)).bind fun y16 =>
                    bif !y16 then
                      some false
                    else
                      bif !((RServerBool_r1 y8) == (RServerBool_r1 y5)) then
                        some false
                      else L47 y5 y8
noncomputable def zq70.l29 (x0 : TServer) (x1 : TZone) (y5 : TRServerBool) (y6 : TServer) (y7 : TZone) (y8 : TRServerBool) : Option Bool :=
  zq70.g29 x0 x1 y5 y6 y7 y8 (fun y5 y8 => zq70.l47 x0 x1 y5 y8)
noncomputable abbrev zq70.b (x0 : TServer) (x1 : TZone) (L29 : TRServerBool → TServer → TZone → TRServerBool → Option Bool) : Option Bool :=
  (zq105 x0 (1048576 : Int)).bind fun y1 =>
  bif decide (y1 < (0 : Int)) then
    some true
  else
    (zq110 x1 y1).bind fun y2 =>
      bif decide (y2 < (0 : Int)) then
        some true
      else
        (zq117 x0).bind fun y3 =>
          (zq123 x1).bind fun y4 =>
            (zq175 y3 y4).bind fun y5 =>
              (zq117 x0).bind fun y6 =>
                (zq123 x1).bind fun y7 =>
                  (zq41 y6 y7).bind fun y8 =>
                    (zq76 (RServerBool_r0 y8) (RServerBool_r0 y5)).bind fun y9 =>
                      bif !y9 then
                        some false
                      else
                        bif !((RServerBool_r1 y8) == (RServerBool_r1 y5)) then
                          some false
                        else L29 y5 y6 y7 y8
noncomputable def zq70 (x0 : TServer) (x1 : TZone) : Option Bool :=
  zq70.b x0 x1 (fun y5 y6 y7 y8 => zq70.l29 x0 x1 y5 y6 y7 y8)
end Go.Proofs.YtpioofmdambjoaaGreat
