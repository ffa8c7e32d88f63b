/- What the functions compute: printed from their code by the evaluator. -/
import Derived.Test.YtpioofmdambjoaaGreatVE
namespace Go.Proofs.YtpioofmdambjoaaGreat
set_option linter.unusedVariables false
abbrev TKeys : Type := List Int × Int
abbrev dKeys : TKeys := ([], (0 : Int))
abbrev THead : Type := Int × Int × Int × Int × Int × Int × Int × Int × List Int × Int × List Int × Int × Int × List Int × Int × Bool
abbrev dHead : THead := ((0 : Int), (0 : Int), (0 : Int), (0 : Int), (0 : Int), (0 : Int), (0 : Int), (0 : Int), [], (0 : Int), [], (0 : Int), (0 : Int), [], (0 : Int), false)
def Head_Zone (x : THead) : Int := x.1
def Head_Epoch (x : THead) : Int := x.2.1
def Head_Kind (x : THead) : Int := x.2.2.1
def Head_Time (x : THead) : Int := x.2.2.2.1
def Head_Until (x : THead) : Int := x.2.2.2.2.1
def Head_Count (x : THead) : Int := x.2.2.2.2.2.1
def Head_Root (x : THead) : Int := x.2.2.2.2.2.2.1
def Head_Prev (x : THead) : Int := x.2.2.2.2.2.2.2.1
def Head_Keys (x : THead) : TKeys := (x.2.2.2.2.2.2.2.2.1, x.2.2.2.2.2.2.2.2.2.1)
def Head_Heirs (x : THead) : TKeys := (x.2.2.2.2.2.2.2.2.2.2.1, x.2.2.2.2.2.2.2.2.2.2.2.1)
def Head_Wait (x : THead) : Int := x.2.2.2.2.2.2.2.2.2.2.2.2.1
def Head_Judge (x : THead) : TKeys := (x.2.2.2.2.2.2.2.2.2.2.2.2.2.1, x.2.2.2.2.2.2.2.2.2.2.2.2.2.2.1)
def Head_Frozen (x : THead) : Bool := x.2.2.2.2.2.2.2.2.2.2.2.2.2.2.2
def Head_mk (a0 : Int) (a1 : Int) (a2 : Int) (a3 : Int) (a4 : Int) (a5 : Int) (a6 : Int) (a7 : Int) (a8 : TKeys) (a9 : TKeys) (a10 : Int) (a11 : TKeys) (a12 : Bool) : THead := (a0, a1, a2, a3, a4, a5, a6, a7, a8.1, a8.2, a9.1, a9.2, a10, a11.1, a11.2, a12)
theorem Head_s : ∀ (a0 : Int) (a1 : Int) (a2 : Int) (a3 : Int) (a4 : Int) (a5 : Int) (a6 : Int) (a7 : Int) (a8 : TKeys) (a9 : TKeys) (a10 : Int) (a11 : TKeys) (a12 : Bool), Head_Zone (Head_mk a0 a1 a2 a3 a4 a5 a6 a7 a8 a9 a10 a11 a12) = a0 ∧ Head_Epoch (Head_mk a0 a1 a2 a3 a4 a5 a6 a7 a8 a9 a10 a11 a12) = a1 ∧ Head_Kind (Head_mk a0 a1 a2 a3 a4 a5 a6 a7 a8 a9 a10 a11 a12) = a2 ∧ Head_Time (Head_mk a0 a1 a2 a3 a4 a5 a6 a7 a8 a9 a10 a11 a12) = a3 ∧ Head_Until (Head_mk a0 a1 a2 a3 a4 a5 a6 a7 a8 a9 a10 a11 a12) = a4 ∧ Head_Count (Head_mk a0 a1 a2 a3 a4 a5 a6 a7 a8 a9 a10 a11 a12) = a5 ∧ Head_Root (Head_mk a0 a1 a2 a3 a4 a5 a6 a7 a8 a9 a10 a11 a12) = a6 ∧ Head_Prev (Head_mk a0 a1 a2 a3 a4 a5 a6 a7 a8 a9 a10 a11 a12) = a7 ∧ Head_Keys (Head_mk a0 a1 a2 a3 a4 a5 a6 a7 a8 a9 a10 a11 a12) = a8 ∧ Head_Heirs (Head_mk a0 a1 a2 a3 a4 a5 a6 a7 a8 a9 a10 a11 a12) = a9 ∧ Head_Wait (Head_mk a0 a1 a2 a3 a4 a5 a6 a7 a8 a9 a10 a11 a12) = a10 ∧ Head_Judge (Head_mk a0 a1 a2 a3 a4 a5 a6 a7 a8 a9 a10 a11 a12) = a11 ∧ Head_Frozen (Head_mk a0 a1 a2 a3 a4 a5 a6 a7 a8 a9 a10 a11 a12) = a12 := fun a0 a1 a2 a3 a4 a5 a6 a7 a8 a9 a10 a11 a12 => ⟨rfl, rfl, rfl, rfl, rfl, rfl, rfl, rfl, rfl, rfl, rfl, rfl, rfl⟩
theorem Head_e (x : THead) : Head_mk (Head_Zone x) (Head_Epoch x) (Head_Kind x) (Head_Time x) (Head_Until x) (Head_Count x) (Head_Root x) (Head_Prev x) (Head_Keys x) (Head_Heirs x) (Head_Wait x) (Head_Judge x) (Head_Frozen x) = x := id rfl
theorem Head_d : Head_Zone dHead = (0 : Int) ∧ Head_Epoch dHead = (0 : Int) ∧ Head_Kind dHead = (0 : Int) ∧ Head_Time dHead = (0 : Int) ∧ Head_Until dHead = (0 : Int) ∧ Head_Count dHead = (0 : Int) ∧ Head_Root dHead = (0 : Int) ∧ Head_Prev dHead = (0 : Int) ∧ Head_Keys dHead = dKeys ∧ Head_Heirs dHead = dKeys ∧ Head_Wait dHead = (0 : Int) ∧ Head_Judge dHead = dKeys ∧ Head_Frozen dHead = false := ⟨rfl, rfl, rfl, rfl, rfl, rfl, rfl, rfl, rfl, rfl, rfl, rfl, rfl⟩
abbrev TSig : Type := Int × Int
abbrev dSig : TSig := ((0 : Int), (0 : Int))
abbrev TSigned : Type := Int × Int × Int × Int × Int × Int × Int × Int × List Int × Int × List Int × Int × Int × List Int × Int × Bool × List TSig
abbrev dSigned : TSigned := ((0 : Int), (0 : Int), (0 : Int), (0 : Int), (0 : Int), (0 : Int), (0 : Int), (0 : Int), [], (0 : Int), [], (0 : Int), (0 : Int), [], (0 : Int), false, [])
def Signed_Head (x : TSigned) : THead := (x.1, x.2.1, x.2.2.1, x.2.2.2.1, x.2.2.2.2.1, x.2.2.2.2.2.1, x.2.2.2.2.2.2.1, x.2.2.2.2.2.2.2.1, x.2.2.2.2.2.2.2.2.1, x.2.2.2.2.2.2.2.2.2.1, x.2.2.2.2.2.2.2.2.2.2.1, x.2.2.2.2.2.2.2.2.2.2.2.1, x.2.2.2.2.2.2.2.2.2.2.2.2.1, x.2.2.2.2.2.2.2.2.2.2.2.2.2.1, x.2.2.2.2.2.2.2.2.2.2.2.2.2.2.1, x.2.2.2.2.2.2.2.2.2.2.2.2.2.2.2.1)
def Signed_Sigs (x : TSigned) : List TSig := x.2.2.2.2.2.2.2.2.2.2.2.2.2.2.2.2
def Signed_mk (a0 : THead) (a1 : List TSig) : TSigned := (a0.1, a0.2.1, a0.2.2.1, a0.2.2.2.1, a0.2.2.2.2.1, a0.2.2.2.2.2.1, a0.2.2.2.2.2.2.1, a0.2.2.2.2.2.2.2.1, a0.2.2.2.2.2.2.2.2.1, a0.2.2.2.2.2.2.2.2.2.1, a0.2.2.2.2.2.2.2.2.2.2.1, a0.2.2.2.2.2.2.2.2.2.2.2.1, a0.2.2.2.2.2.2.2.2.2.2.2.2.1, a0.2.2.2.2.2.2.2.2.2.2.2.2.2.1, a0.2.2.2.2.2.2.2.2.2.2.2.2.2.2.1, a0.2.2.2.2.2.2.2.2.2.2.2.2.2.2.2, a1)
theorem Signed_s : ∀ (a0 : THead) (a1 : List TSig), Signed_Head (Signed_mk a0 a1) = a0 ∧ Signed_Sigs (Signed_mk a0 a1) = a1 := fun a0 a1 => ⟨rfl, rfl⟩
theorem Signed_e (x : TSigned) : Signed_mk (Signed_Head x) (Signed_Sigs x) = x := id rfl
theorem Signed_d : Signed_Head dSigned = dHead ∧ Signed_Sigs dSigned = [] := ⟨rfl, rfl⟩
abbrev TEntry : Type := ByteArray × Int × Int × List ByteArray
abbrev dEntry : TEntry := ((⟨#[]⟩ : ByteArray), (0 : Int), (0 : Int), [])
abbrev TZone : Type := List TSigned × List TEntry
abbrev dZone : TZone := ([], [])
abbrev TRHeadBool : Type := Int × Int × Int × Int × Int × Int × Int × Int × List Int × Int × List Int × Int × Int × List Int × Int × Bool × Bool
abbrev dRHeadBool : TRHeadBool := ((0 : Int), (0 : Int), (0 : Int), (0 : Int), (0 : Int), (0 : Int), (0 : Int), (0 : Int), [], (0 : Int), [], (0 : Int), (0 : Int), [], (0 : Int), false, false)
def RHeadBool_r0 (x : TRHeadBool) : THead := (x.1, x.2.1, x.2.2.1, x.2.2.2.1, x.2.2.2.2.1, x.2.2.2.2.2.1, x.2.2.2.2.2.2.1, x.2.2.2.2.2.2.2.1, x.2.2.2.2.2.2.2.2.1, x.2.2.2.2.2.2.2.2.2.1, x.2.2.2.2.2.2.2.2.2.2.1, x.2.2.2.2.2.2.2.2.2.2.2.1, x.2.2.2.2.2.2.2.2.2.2.2.2.1, x.2.2.2.2.2.2.2.2.2.2.2.2.2.1, x.2.2.2.2.2.2.2.2.2.2.2.2.2.2.1, x.2.2.2.2.2.2.2.2.2.2.2.2.2.2.2.1)
def RHeadBool_r1 (x : TRHeadBool) : Bool := x.2.2.2.2.2.2.2.2.2.2.2.2.2.2.2.2
def RHeadBool_mk (a0 : THead) (a1 : Bool) : TRHeadBool := (a0.1, a0.2.1, a0.2.2.1, a0.2.2.2.1, a0.2.2.2.2.1, a0.2.2.2.2.2.1, a0.2.2.2.2.2.2.1, a0.2.2.2.2.2.2.2.1, a0.2.2.2.2.2.2.2.2.1, a0.2.2.2.2.2.2.2.2.2.1, a0.2.2.2.2.2.2.2.2.2.2.1, a0.2.2.2.2.2.2.2.2.2.2.2.1, a0.2.2.2.2.2.2.2.2.2.2.2.2.1, a0.2.2.2.2.2.2.2.2.2.2.2.2.2.1, a0.2.2.2.2.2.2.2.2.2.2.2.2.2.2.1, a0.2.2.2.2.2.2.2.2.2.2.2.2.2.2.2, a1)
theorem RHeadBool_s : ∀ (a0 : THead) (a1 : Bool), RHeadBool_r0 (RHeadBool_mk a0 a1) = a0 ∧ RHeadBool_r1 (RHeadBool_mk a0 a1) = a1 := fun a0 a1 => ⟨rfl, rfl⟩
theorem RHeadBool_e (x : TRHeadBool) : RHeadBool_mk (RHeadBool_r0 x) (RHeadBool_r1 x) = x := id rfl
theorem RHeadBool_d : RHeadBool_r0 dRHeadBool = dHead ∧ RHeadBool_r1 dRHeadBool = false := ⟨rfl, rfl⟩
abbrev TRZoneBool : Type := List TSigned × List TEntry × Bool
abbrev dRZoneBool : TRZoneBool := ([], [], false)
def RZoneBool_r0 (x : TRZoneBool) : TZone := (x.1, x.2.1)
def RZoneBool_r1 (x : TRZoneBool) : Bool := x.2.2
def RZoneBool_mk (a0 : TZone) (a1 : Bool) : TRZoneBool := (a0.1, a0.2, a1)
theorem RZoneBool_s : ∀ (a0 : TZone) (a1 : Bool), RZoneBool_r0 (RZoneBool_mk a0 a1) = a0 ∧ RZoneBool_r1 (RZoneBool_mk a0 a1) = a1 := fun a0 a1 => ⟨rfl, rfl⟩
theorem RZoneBool_e (x : TRZoneBool) : RZoneBool_mk (RZoneBool_r0 x) (RZoneBool_r1 x) = x := id rfl
theorem RZoneBool_d : RZoneBool_r0 dRZoneBool = dZone ∧ RZoneBool_r1 dRZoneBool = false := ⟨rfl, rfl⟩
abbrev TRZoneInt : Type := List TSigned × List TEntry × Int
abbrev dRZoneInt : TRZoneInt := ([], [], (0 : Int))
def RZoneInt_r0 (x : TRZoneInt) : TZone := (x.1, x.2.1)
def RZoneInt_r1 (x : TRZoneInt) : Int := x.2.2
def RZoneInt_mk (a0 : TZone) (a1 : Int) : TRZoneInt := (a0.1, a0.2, a1)
theorem RZoneInt_s : ∀ (a0 : TZone) (a1 : Int), RZoneInt_r0 (RZoneInt_mk a0 a1) = a0 ∧ RZoneInt_r1 (RZoneInt_mk a0 a1) = a1 := fun a0 a1 => ⟨rfl, rfl⟩
theorem RZoneInt_e (x : TRZoneInt) : RZoneInt_mk (RZoneInt_r0 x) (RZoneInt_r1 x) = x := id rfl
theorem RZoneInt_d : RZoneInt_r0 dRZoneInt = dZone ∧ RZoneInt_r1 dRZoneInt = (0 : Int) := ⟨rfl, rfl⟩
noncomputable def laws_szIntS (x0 : List Int) (x1 : Int) : Option Int :=
  bif decide ((IntKind.i64.wrap (x1 - (x0.length : Int))) < (0 : Int)) then
  some (-1 : Int)
else some (IntKind.i64.wrap (x1 - (x0.length : Int)))
noncomputable def laws_szKeys (x0 : TKeys) (x1 : Int) : Option Int :=
  (laws_szIntS x0.1 x1).bind fun y1 =>
  bif decide (y1 < (0 : Int)) then
    some (-1 : Int)
  else some y1
noncomputable abbrev laws_szStringS.g10 (x0 : List ByteArray) (r10 : Int → Int → Option Int) (v10_1 : Int) (v10_2 : Int) : Option Int :=
  bif decide (v10_2 < (x0.length : Int)) then
  bif decide (0 ≤ v10_2) then
    bif decide (v10_2 < (x0.length : Int)) then
      bif decide ((IntKind.i64.wrap (v10_1 - ((x0.getD v10_2.toNat (⟨#[]⟩ : ByteArray)).size : Int))) < (0 : Int)) then
        some (-1 : Int)
      else r10 (IntKind.i64.wrap (v10_1 - ((x0.getD v10_2.toNat (⟨#[]⟩ : ByteArray)).size : Int))) (IntKind.i64.wrap (v10_2 + (1 : Int)))
    else none
  else none
else some v10_1
noncomputable def laws_szStringS.l10 (x0 : List ByteArray) (n : Nat) : Int → Int → Option Int :=
  V.iter (fun (r10 : Int → Int → Option Int) => fun v10_1 v10_2 => laws_szStringS.g10 x0 r10 v10_1 v10_2) (fun _ _ => none) n
theorem laws_szStringS.u10 (x0 : List ByteArray) (n : Nat) (v10_1 : Int) (v10_2 : Int) : laws_szStringS.l10 x0 (n + 1) v10_1 v10_2 = laws_szStringS.g10 x0 (laws_szStringS.l10 x0 n) v10_1 v10_2 := rfl
noncomputable abbrev laws_szStringS.b (x0 : List ByteArray) (x1 : Int) (L10 : Int → Int → Option Int) : Option Int :=
  bif decide ((IntKind.i64.wrap (x1 - (x0.length : Int))) < (0 : Int)) then
  some (-1 : Int)
else L10 (IntKind.i64.wrap (x1 - (x0.length : Int))) (0 : Int)
noncomputable def laws_szStringS (x0 : List ByteArray) (x1 : Int) : Option Int :=
  laws_szStringS.b x0 x1 (laws_szStringS.l10 x0 V.KK)
noncomputable def laws_szEntry (x0 : TEntry) (x1 : Int) : Option Int :=
  bif decide ((IntKind.i64.wrap (x1 - (x0.1.size : Int))) < (0 : Int)) then
  some (-1 : Int)
else
  (laws_szStringS x0.2.2.2 (IntKind.i64.wrap (x1 - (x0.1.size : Int)))).bind fun y1 =>
    bif decide (y1 < (0 : Int)) then
      some (-1 : Int)
    else some y1
noncomputable abbrev laws_szEntryS.g10 (x0 : List TEntry) (r10 : Int → Int → Option Int) (v10_1 : Int) (v10_2 : Int) : Option Int :=
  bif decide (v10_2 < (x0.length : Int)) then
  bif decide (0 ≤ v10_2) then
    bif decide (v10_2 < (x0.length : Int)) then
      (laws_szEntry (x0.getD v10_2.toNat dEntry) v10_1).bind fun y1 =>
        bif decide (y1 < (0 : Int)) then
          some (-1 : Int)
        else r10 y1 (IntKind.i64.wrap (v10_2 + (1 : Int)))
    else none
  else none
else some v10_1
noncomputable def laws_szEntryS.l10 (x0 : List TEntry) (n : Nat) : Int → Int → Option Int :=
  V.iter (fun (r10 : Int → Int → Option Int) => fun v10_1 v10_2 => laws_szEntryS.g10 x0 r10 v10_1 v10_2) (fun _ _ => none) n
theorem laws_szEntryS.u10 (x0 : List TEntry) (n : Nat) (v10_1 : Int) (v10_2 : Int) : laws_szEntryS.l10 x0 (n + 1) v10_1 v10_2 = laws_szEntryS.g10 x0 (laws_szEntryS.l10 x0 n) v10_1 v10_2 := rfl
noncomputable abbrev laws_szEntryS.b (x0 : List TEntry) (x1 : Int) (L10 : Int → Int → Option Int) : Option Int :=
  bif decide ((IntKind.i64.wrap (x1 - (x0.length : Int))) < (0 : Int)) then
  some (-1 : Int)
else L10 (IntKind.i64.wrap (x1 - (x0.length : Int))) (0 : Int)
noncomputable def laws_szEntryS (x0 : List TEntry) (x1 : Int) : Option Int :=
  laws_szEntryS.b x0 x1 (laws_szEntryS.l10 x0 V.KK)
noncomputable abbrev laws_toIntS.g6 (x0 : List Int) (r6 : Int → (List Int) → Option (List Int)) (v6_1 : Int) (v6_2 : List Int) : Option (List Int) :=
  bif decide (v6_1 < (x0.length : Int)) then
  bif decide (0 ≤ v6_1) then
    bif decide (v6_1 < (x0.length : Int)) then
      bif decide (0 ≤ v6_1) then
        bif decide (v6_1 < (v6_2.length : Int)) then
          r6 (IntKind.i64.wrap (v6_1 + (1 : Int))) (v6_2.set v6_1.toNat (x0.getD v6_1.toNat (0 : Int)))
        else none
      else none
    else none
  else none
else some v6_2
noncomputable def laws_toIntS.l6 (x0 : List Int) (n : Nat) : Int → (List Int) → Option (List Int) :=
  V.iter (fun (r6 : Int → (List Int) → Option (List Int)) => fun v6_1 v6_2 => laws_toIntS.g6 x0 r6 v6_1 v6_2) (fun _ _ => none) n
theorem laws_toIntS.u6 (x0 : List Int) (n : Nat) (v6_1 : Int) (v6_2 : List Int) : laws_toIntS.l6 x0 (n + 1) v6_1 v6_2 = laws_toIntS.g6 x0 (laws_toIntS.l6 x0 n) v6_1 v6_2 := rfl
noncomputable abbrev laws_toIntS.b (x0 : List Int) (L6 : Int → (List Int) → Option (List Int)) : Option (List Int) :=
  bif ((x0.length : Int) == (x0.length : Int)) then
  bif decide (0 ≤ (x0.length : Int)) then
    bif decide ((x0.length : Int) < (68719476736 : Int)) then
      L6 (0 : Int) (List.replicate ((x0.length : Int).toNat) (0 : Int))
    else none
  else none
else none
noncomputable def laws_toIntS (x0 : List Int) : Option (List Int) :=
  laws_toIntS.b x0 (laws_toIntS.l6 x0 V.KK)
noncomputable def laws_toKeys (x0 : TKeys) : Option TKeys :=
  (laws_toIntS x0.1).bind fun y1 =>
  some (y1, x0.2)
noncomputable abbrev laws_toStringS.g6 (x0 : List ByteArray) (r6 : Int → (List ByteArray) → Option (List ByteArray)) (v6_1 : Int) (v6_2 : List ByteArray) : Option (List ByteArray) :=
  bif decide (v6_1 < (x0.length : Int)) then
  bif decide (0 ≤ v6_1) then
    bif decide (v6_1 < (x0.length : Int)) then
      bif decide (0 ≤ v6_1) then
        bif decide (v6_1 < (v6_2.length : Int)) then
          r6 (IntKind.i64.wrap (v6_1 + (1 : Int))) (v6_2.set v6_1.toNat (x0.getD v6_1.toNat (⟨#[]⟩ : ByteArray)))
        else none
      else none
    else none
  else none
else some v6_2
noncomputable def laws_toStringS.l6 (x0 : List ByteArray) (n : Nat) : Int → (List ByteArray) → Option (List ByteArray) :=
  V.iter (fun (r6 : Int → (List ByteArray) → Option (List ByteArray)) => fun v6_1 v6_2 => laws_toStringS.g6 x0 r6 v6_1 v6_2) (fun _ _ => none) n
theorem laws_toStringS.u6 (x0 : List ByteArray) (n : Nat) (v6_1 : Int) (v6_2 : List ByteArray) : laws_toStringS.l6 x0 (n + 1) v6_1 v6_2 = laws_toStringS.g6 x0 (laws_toStringS.l6 x0 n) v6_1 v6_2 := rfl
noncomputable abbrev laws_toStringS.b (x0 : List ByteArray) (L6 : Int → (List ByteArray) → Option (List ByteArray)) : Option (List ByteArray) :=
  bif ((x0.length : Int) == (x0.length : Int)) then
  bif decide (0 ≤ (x0.length : Int)) then
    bif decide ((x0.length : Int) < (68719476736 : Int)) then
      L6 (0 : Int) (List.replicate ((x0.length : Int).toNat) (⟨#[]⟩ : ByteArray))
    else none
  else none
else none
noncomputable def laws_toStringS (x0 : List ByteArray) : Option (List ByteArray) :=
  laws_toStringS.b x0 (laws_toStringS.l6 x0 V.KK)
noncomputable def laws_toEntry (x0 : TEntry) : Option TEntry :=
  (laws_toStringS x0.2.2.2).bind fun y1 =>
  some (x0.1, x0.2.1, x0.2.2.1, y1)
noncomputable abbrev laws_toEntryS.g6 (x0 : List TEntry) (r6 : Int → (List TEntry) → Option (List TEntry)) (v6_1 : Int) (v6_2 : List TEntry) : Option (List TEntry) :=
  bif decide (v6_1 < (x0.length : Int)) then
  bif decide (0 ≤ v6_1) then
    bif decide (v6_1 < (x0.length : Int)) then
      (laws_toEntry (x0.getD v6_1.toNat dEntry)).bind fun y1 =>
        bif decide (0 ≤ v6_1) then
          bif decide (v6_1 < (v6_2.length : Int)) then
            r6 (IntKind.i64.wrap (v6_1 + (1 : Int))) (v6_2.set v6_1.toNat y1)
          else none
        else none
    else none
  else none
else some v6_2
noncomputable def laws_toEntryS.l6 (x0 : List TEntry) (n : Nat) : Int → (List TEntry) → Option (List TEntry) :=
  V.iter (fun (r6 : Int → (List TEntry) → Option (List TEntry)) => fun v6_1 v6_2 => laws_toEntryS.g6 x0 r6 v6_1 v6_2) (fun _ _ => none) n
theorem laws_toEntryS.u6 (x0 : List TEntry) (n : Nat) (v6_1 : Int) (v6_2 : List TEntry) : laws_toEntryS.l6 x0 (n + 1) v6_1 v6_2 = laws_toEntryS.g6 x0 (laws_toEntryS.l6 x0 n) v6_1 v6_2 := rfl
noncomputable abbrev laws_toEntryS.b (x0 : List TEntry) (L6 : Int → (List TEntry) → Option (List TEntry)) : Option (List TEntry) :=
  bif ((x0.length : Int) == (x0.length : Int)) then
  bif decide (0 ≤ (x0.length : Int)) then
    bif decide ((x0.length : Int) < (68719476736 : Int)) then
      L6 (0 : Int) (List.replicate ((x0.length : Int).toNat) dEntry)
    else none
  else none
else none
noncomputable def laws_toEntryS (x0 : List TEntry) : Option (List TEntry) :=
  laws_toEntryS.b x0 (laws_toEntryS.l6 x0 V.KK)
noncomputable def spec_l1In (x0 : Int) (x1 : Int) (x2 : Int) : Option Bool :=
  bif decide (x0 ≥ x1) then
  some (decide (x0 ≤ x2))
else some false
noncomputable abbrev spec_IsLabel.g8 (x0 : ByteArray) (r8 : Int → Option Bool) (v8_1 : Int) : Option Bool :=
  bif decide (v8_1 < (x0.size : Int)) then
  bif decide (0 ≤ v8_1) then
    bif decide (v8_1 < (x0.size : Int)) then
      bif decide ((V.bt x0 v8_1) < (97 : Int)) then
        bif decide (0 ≤ v8_1) then
          bif decide (v8_1 < (x0.size : Int)) then
            bif decide ((V.bt x0 v8_1) < (48 : Int)) then
              bif decide (0 ≤ v8_1) then
                bif decide (v8_1 < (x0.size : Int)) then
                  bif (V.bt x0 v8_1) != (45 : Int) then
                    some false
                  else r8 (IntKind.i64.wrap (v8_1 + (1 : Int)))
                else none
              else none
            else
              bif decide (0 ≤ v8_1) then
                bif decide (v8_1 < (x0.size : Int)) then
                  bif decide ((V.bt x0 v8_1) > (57 : Int)) then
                    bif decide (0 ≤ v8_1) then
                      bif decide (v8_1 < (x0.size : Int)) then
                        bif (V.bt x0 v8_1) != (45 : Int) then
                          some false
                        else r8 (IntKind.i64.wrap (v8_1 + (1 : Int)))
                      else none
                    else none
                  else r8 (IntKind.i64.wrap (v8_1 + (1 : Int)))
                else none
              else none
          else none
        else none
      else
        bif decide (0 ≤ v8_1) then
          bif decide (v8_1 < (x0.size : Int)) then
            bif decide ((V.bt x0 v8_1) > (122 : Int)) then
              bif decide (0 ≤ v8_1) then
                bif decide (v8_1 < (x0.size : Int)) then
                  bif decide ((V.bt x0 v8_1) < (48 : Int)) then
                    bif decide (0 ≤ v8_1) then
                      bif decide (v8_1 < (x0.size : Int)) then
                        bif (V.bt x0 v8_1) != (45 : Int) then
                          some false
                        else r8 (IntKind.i64.wrap (v8_1 + (1 : Int)))
                      else none
                    else none
                  else
                    bif decide (0 ≤ v8_1) then
                      bif decide (v8_1 < (x0.size : Int)) then
                        bif decide ((V.bt x0 v8_1) > (57 : Int)) then
                          bif decide (0 ≤ v8_1) then
                            bif decide (v8_1 < (x0.size : Int)) then
                              bif (V.bt x0 v8_1) != (45 : Int) then
                                some false
                              else r8 (IntKind.i64.wrap (v8_1 + (1 : Int)))
                            else none
                          else none
                        else r8 (IntKind.i64.wrap (v8_1 + (1 : Int)))
                      else none
                    else none
                else none
              else none
            else r8 (IntKind.i64.wrap (v8_1 + (1 : Int)))
          else none
        else none
    else none
  else none
else some true
noncomputable def spec_IsLabel.l8 (x0 : ByteArray) (n : Nat) : Int → Option Bool :=
  V.iter (fun (r8 : Int → Option Bool) => fun v8_1 => spec_IsLabel.g8 x0 r8 v8_1) (fun _ => none) n
theorem spec_IsLabel.u8 (x0 : ByteArray) (n : Nat) (v8_1 : Int) : spec_IsLabel.l8 x0 (n + 1) v8_1 = spec_IsLabel.g8 x0 (spec_IsLabel.l8 x0 n) v8_1 := rfl
noncomputable abbrev spec_IsLabel.g7 (x0 : ByteArray) (L8 : Int → Option Bool) : Option Bool :=
  L8 (0 : Int)
noncomputable def spec_IsLabel.l7 (x0 : ByteArray) : Option Bool :=
  spec_IsLabel.g7 x0 (spec_IsLabel.l8 x0 V.KK)
noncomputable abbrev spec_IsLabel.b (x0 : ByteArray) (L7 : Option Bool) : Option Bool :=
  (spec_l1In (x0.size : Int) (1 : Int) (8 : Int)).bind fun y1 =>
  bif !y1 then
    some false
  else
    bif decide (0 ≤ (0 : Int)) then
      bif decide ((0 : Int) < (x0.size : Int)) then
        bif (V.bt x0 (0 : Int)) == (45 : Int) then
          some false
        else
          bif decide (0 ≤ (IntKind.i64.wrap ((x0.size : Int) - (1 : Int)))) then
            bif decide ((IntKind.i64.wrap ((x0.size : Int) - (1 : Int))) < (x0.size : Int)) then
              bif (V.bt x0 (IntKind.i64.wrap ((x0.size : Int) - (1 : Int)))) == (45 : Int) then
                some false
              else L7
            else none
          else none
      else none
    else none
noncomputable def spec_IsLabel (x0 : ByteArray) : Option Bool :=
  spec_IsLabel.b x0 (spec_IsLabel.l7 x0)
noncomputable abbrev spec_IsPath.g4 (x0 : List ByteArray) (r4 : Int → Option Bool) (v4_1 : Int) : Option Bool :=
  bif decide (v4_1 < (x0.length : Int)) then
  bif decide (0 ≤ v4_1) then
    bif decide (v4_1 < (x0.length : Int)) then
      (spec_IsLabel (x0.getD v4_1.toNat (⟨#[]⟩ : ByteArray))).bind fun y1 =>
        bif !y1 then
          some false
        else r4 (IntKind.i64.wrap (v4_1 + (1 : Int)))
    else none
  else none
else
  (spec_l1In (x0.length : Int) (1 : Int) (4 : Int)).bind fun y2 =>
    some y2
noncomputable def spec_IsPath.l4 (x0 : List ByteArray) (n : Nat) : Int → Option Bool :=
  V.iter (fun (r4 : Int → Option Bool) => fun v4_1 => spec_IsPath.g4 x0 r4 v4_1) (fun _ => none) n
theorem spec_IsPath.u4 (x0 : List ByteArray) (n : Nat) (v4_1 : Int) : spec_IsPath.l4 x0 (n + 1) v4_1 = spec_IsPath.g4 x0 (spec_IsPath.l4 x0 n) v4_1 := rfl
noncomputable abbrev spec_IsPath.b (x0 : List ByteArray) (L4 : Int → Option Bool) : Option Bool :=
  L4 (0 : Int)
noncomputable def spec_IsPath (x0 : List ByteArray) : Option Bool :=
  spec_IsPath.b x0 (spec_IsPath.l4 x0 V.KK)
noncomputable def spec_IsEntry (x0 : TEntry) : Option Bool :=
  bif x0.2.1 == (1 : Int) then
  (spec_IsLabel x0.1).bind fun y1 =>
    bif y1 then
      (spec_l1In x0.2.2.1 (0 : Int) (999999 : Int)).bind fun y2 =>
        bif y2 then
          some ((x0.2.2.2.length : Int) == (0 : Int))
        else some false
    else some false
else
  bif x0.2.1 == (2 : Int) then
    (spec_IsLabel x0.1).bind fun y3 =>
      bif y3 then
        (spec_l1In x0.2.2.1 (0 : Int) (2147483646 : Int)).bind fun y4 =>
          bif y4 then
            some ((x0.2.2.2.length : Int) == (0 : Int))
          else some false
      else some false
  else
    bif x0.2.1 == (3 : Int) then
      (spec_IsLabel x0.1).bind fun y5 =>
        bif y5 then
          (spec_l1In x0.2.2.1 (0 : Int) (2147483646 : Int)).bind fun y6 =>
            bif y6 then
              (spec_IsPath x0.2.2.2).bind fun y7 =>
                some y7
            else some false
        else some false
    else some false
noncomputable def spec_CompareLabels (x0 : ByteArray) (x1 : ByteArray) : Option Int :=
  bif Op.bytesLess x0.toList x1.toList then
  some (-1 : Int)
else
  bif !(Op.bytesLess x0.toList x1.toList || x0.toList == x1.toList) then
    some (1 : Int)
  else some (0 : Int)
noncomputable abbrev spec_AreEntries.g4 (x0 : List TEntry) (r4 : Int → Option Bool) (v4_1 : Int) : Option Bool :=
  bif decide (v4_1 < (x0.length : Int)) then
  bif decide (0 ≤ v4_1) then
    bif decide (v4_1 < (x0.length : Int)) then
      (spec_IsEntry (x0.getD v4_1.toNat dEntry)).bind fun y1 =>
        bif !y1 then
          some false
        else
          bif decide (v4_1 > (0 : Int)) then
            bif decide (0 ≤ (IntKind.i64.wrap (v4_1 - (1 : Int)))) then
              bif decide ((IntKind.i64.wrap (v4_1 - (1 : Int))) < (x0.length : Int)) then
                bif decide (0 ≤ v4_1) then
                  bif decide (v4_1 < (x0.length : Int)) then
                    (spec_CompareLabels (x0.getD ((IntKind.i64.wrap (v4_1 - (1 : Int))).toNat) dEntry).1 (x0.getD v4_1.toNat dEntry).1).bind fun y2 =>
                      bif y2 != (-1 : Int) then
                        some false
                      else r4 (IntKind.i64.wrap (v4_1 + (1 : Int)))
                  else none
                else none
              else none
            else none
          else r4 (IntKind.i64.wrap (v4_1 + (1 : Int)))
    else none
  else none
else some (decide ((x0.length : Int) ≤ (12 : Int)))
noncomputable def spec_AreEntries.l4 (x0 : List TEntry) (n : Nat) : Int → Option Bool :=
  V.iter (fun (r4 : Int → Option Bool) => fun v4_1 => spec_AreEntries.g4 x0 r4 v4_1) (fun _ => none) n
theorem spec_AreEntries.u4 (x0 : List TEntry) (n : Nat) (v4_1 : Int) : spec_AreEntries.l4 x0 (n + 1) v4_1 = spec_AreEntries.g4 x0 (spec_AreEntries.l4 x0 n) v4_1 := rfl
noncomputable abbrev spec_AreEntries.b (x0 : List TEntry) (L4 : Int → Option Bool) : Option Bool :=
  L4 (0 : Int)
noncomputable def spec_AreEntries (x0 : List TEntry) : Option Bool :=
  spec_AreEntries.b x0 (spec_AreEntries.l4 x0 V.KK)
noncomputable def spec_KeysInts (x0 : TKeys) : Option (List Int) :=
  bif decide ([x0.2, (x0.1.length : Int)].length + x0.1.length < 68719476736) then
  some ([x0.2, (x0.1.length : Int)] ++ x0.1)
else none
noncomputable def spec_Mod (x0 : Int) (x1 : Int) : Option Int :=
  (spec_l1In x1 (1 : Int) (1000000000000 : Int)).bind fun y1 =>
  bif !y1 then
    some (0 : Int)
  else
    bif (x1 == (0 : Int)) then
      none
    else
      bif (x1 == (0 : Int)) then
        none
      else some (Int.tmod (IntKind.i64.wrap ((Int.tmod x0 x1) + x1)) x1)
noncomputable abbrev spec_Hash.g6 (x0 : List Int) (r6 : Int → Int → Option Int) (v6_1 : Int) (v6_2 : Int) : Option Int :=
  bif decide (v6_2 < (x0.length : Int)) then
  bif decide (0 ≤ v6_2) then
    bif decide (v6_2 < (x0.length : Int)) then
      (spec_Mod (x0.getD v6_2.toNat (0 : Int)) (2147483647 : Int)).bind fun y1 =>
        bif ((2147483647 : Int) == (0 : Int)) then
          none
        else r6 (Int.tmod (IntKind.i64.wrap ((IntKind.i64.wrap ((IntKind.i64.wrap (v6_1 * (1000003 : Int))) + y1)) + (13 : Int))) (2147483647 : Int)) (IntKind.i64.wrap (v6_2 + (1 : Int)))
    else none
  else none
else some v6_1
noncomputable def spec_Hash.l6 (x0 : List Int) (n : Nat) : Int → Int → Option Int :=
  V.iter (fun (r6 : Int → Int → Option Int) => fun v6_1 v6_2 => spec_Hash.g6 x0 r6 v6_1 v6_2) (fun _ _ => none) n
theorem spec_Hash.u6 (x0 : List Int) (n : Nat) (v6_1 : Int) (v6_2 : Int) : spec_Hash.l6 x0 (n + 1) v6_1 v6_2 = spec_Hash.g6 x0 (spec_Hash.l6 x0 n) v6_1 v6_2 := rfl
noncomputable abbrev spec_Hash.b (x0 : List Int) (L6 : Int → Int → Option Int) : Option Int :=
  L6 (11 : Int) (0 : Int)
noncomputable def spec_Hash (x0 : List Int) : Option Int :=
  spec_Hash.b x0 (spec_Hash.l6 x0 V.KK)
noncomputable def spec_ZoneOf (x0 : TKeys) (x1 : Int) : Option Int :=
  (spec_KeysInts x0).bind fun y1 =>
  bif decide ([(239 : Int), x1].length + y1.length < 68719476736) then
    (spec_Hash ([(239 : Int), x1] ++ y1)).bind fun y2 =>
      some y2
  else none
noncomputable abbrev spec_BytesToInts.g6 (x0 : List Int) (r6 : Int → (List Int) → Option (List Int)) (v6_1 : Int) (v6_2 : List Int) : Option (List Int) :=
  bif decide (v6_1 < (x0.length : Int)) then
  bif decide (0 ≤ v6_1) then
    bif decide (v6_1 < (x0.length : Int)) then
      bif decide (v6_2.length + [IntKind.i64.wrap (x0.getD v6_1.toNat (0 : Int))].length < 68719476736) then
        r6 (IntKind.i64.wrap (v6_1 + (1 : Int))) (v6_2 ++ [IntKind.i64.wrap (x0.getD v6_1.toNat (0 : Int))])
      else none
    else none
  else none
else some v6_2
noncomputable def spec_BytesToInts.l6 (x0 : List Int) (n : Nat) : Int → (List Int) → Option (List Int) :=
  V.iter (fun (r6 : Int → (List Int) → Option (List Int)) => fun v6_1 v6_2 => spec_BytesToInts.g6 x0 r6 v6_1 v6_2) (fun _ _ => none) n
theorem spec_BytesToInts.u6 (x0 : List Int) (n : Nat) (v6_1 : Int) (v6_2 : List Int) : spec_BytesToInts.l6 x0 (n + 1) v6_1 v6_2 = spec_BytesToInts.g6 x0 (spec_BytesToInts.l6 x0 n) v6_1 v6_2 := rfl
noncomputable abbrev spec_BytesToInts.b (x0 : List Int) (L6 : Int → (List Int) → Option (List Int)) : Option (List Int) :=
  L6 (0 : Int) [(x0.length : Int)]
noncomputable def spec_BytesToInts (x0 : List Int) : Option (List Int) :=
  spec_BytesToInts.b x0 (spec_BytesToInts.l6 x0 V.KK)
noncomputable def spec_LabelInts (x0 : ByteArray) : Option (List Int) :=
  bif V.smallS x0 then
  (spec_BytesToInts (V.bytesOf x0)).bind fun y1 =>
    some y1
else none
noncomputable abbrev spec_EntryInts.g6 (x0 : TEntry) (r6 : Int → (List Int) → Option (List Int)) (v6_0 : Int) (v6_5 : List Int) : Option (List Int) :=
  bif decide (v6_0 < (x0.2.2.2.length : Int)) then
  bif decide (0 ≤ v6_0) then
    bif decide (v6_0 < (x0.2.2.2.length : Int)) then
      (spec_LabelInts (x0.2.2.2.getD v6_0.toNat (⟨#[]⟩ : ByteArray))).bind fun y2 =>
        bif decide (v6_5.length + y2.length < 68719476736) then
          r6 (IntKind.i64.wrap (v6_0 + (1 : Int))) (v6_5 ++ y2)
        else none
    else none
  else none
else some v6_5
noncomputable def spec_EntryInts.l6 (x0 : TEntry) (n : Nat) : Int → (List Int) → Option (List Int) :=
  V.iter (fun (r6 : Int → (List Int) → Option (List Int)) => fun v6_0 v6_5 => spec_EntryInts.g6 x0 r6 v6_0 v6_5) (fun _ _ => none) n
theorem spec_EntryInts.u6 (x0 : TEntry) (n : Nat) (v6_0 : Int) (v6_5 : List Int) : spec_EntryInts.l6 x0 (n + 1) v6_0 v6_5 = spec_EntryInts.g6 x0 (spec_EntryInts.l6 x0 n) v6_0 v6_5 := rfl
noncomputable abbrev spec_EntryInts.b (x0 : TEntry) (L6 : Int → (List Int) → Option (List Int)) : Option (List Int) :=
  (spec_LabelInts x0.1).bind fun y1 =>
  bif decide (y1.length + [x0.2.1, x0.2.2.1, (x0.2.2.2.length : Int)].length < 68719476736) then
    L6 (0 : Int) (y1 ++ [x0.2.1, x0.2.2.1, (x0.2.2.2.length : Int)])
  else none
noncomputable def spec_EntryInts (x0 : TEntry) : Option (List Int) :=
  spec_EntryInts.b x0 (spec_EntryInts.l6 x0 V.KK)
noncomputable def spec_LeafOf (x0 : TEntry) : Option Int :=
  (spec_EntryInts x0).bind fun y1 =>
  bif decide ([(227 : Int)].length + y1.length < 68719476736) then
    (spec_Hash ([(227 : Int)] ++ y1)).bind fun y2 =>
      some y2
  else none
noncomputable abbrev spec_LeavesOf.g6 (x0 : List TEntry) (r6 : Int → (List Int) → Option (List Int)) (v6_1 : Int) (v6_2 : List Int) : Option (List Int) :=
  bif decide (v6_1 < (x0.length : Int)) then
  bif decide (0 ≤ v6_1) then
    bif decide (v6_1 < (x0.length : Int)) then
      (spec_LeafOf (x0.getD v6_1.toNat dEntry)).bind fun y1 =>
        bif decide (v6_2.length + [y1].length < 68719476736) then
          r6 (IntKind.i64.wrap (v6_1 + (1 : Int))) (v6_2 ++ [y1])
        else none
    else none
  else none
else some v6_2
noncomputable def spec_LeavesOf.l6 (x0 : List TEntry) (n : Nat) : Int → (List Int) → Option (List Int) :=
  V.iter (fun (r6 : Int → (List Int) → Option (List Int)) => fun v6_1 v6_2 => spec_LeavesOf.g6 x0 r6 v6_1 v6_2) (fun _ _ => none) n
theorem spec_LeavesOf.u6 (x0 : List TEntry) (n : Nat) (v6_1 : Int) (v6_2 : List Int) : spec_LeavesOf.l6 x0 (n + 1) v6_1 v6_2 = spec_LeavesOf.g6 x0 (spec_LeavesOf.l6 x0 n) v6_1 v6_2 := rfl
noncomputable abbrev spec_LeavesOf.b (x0 : List TEntry) (L6 : Int → (List Int) → Option (List Int)) : Option (List Int) :=
  L6 (0 : Int) []
noncomputable def spec_LeavesOf (x0 : List TEntry) : Option (List Int) :=
  spec_LeavesOf.b x0 (spec_LeavesOf.l6 x0 V.KK)
noncomputable def spec_NodeOf (x0 : Int) (x1 : Int) : Option Int :=
  (spec_Hash [(229 : Int), x0, x1]).bind fun y1 =>
  some y1
noncomputable abbrev spec_l10Up.g6 (x0 : List Int) (r6 : Int → (List Int) → Option (List Int)) (v6_1 : Int) (v6_2 : List Int) : Option (List Int) :=
  bif decide (v6_1 < (x0.length : Int)) then
  bif decide ((IntKind.i64.wrap (v6_1 + (1 : Int))) < (x0.length : Int)) then
    bif decide (0 ≤ v6_1) then
      bif decide (v6_1 < (x0.length : Int)) then
        bif decide (0 ≤ (IntKind.i64.wrap (v6_1 + (1 : Int)))) then
          bif decide ((IntKind.i64.wrap (v6_1 + (1 : Int))) < (x0.length : Int)) then
            (spec_NodeOf (x0.getD v6_1.toNat (0 : Int)) (x0.getD ((IntKind.i64.wrap (v6_1 + (1 : Int))).toNat) (0 : Int))).bind fun y1 =>
              bif decide (v6_2.length + [y1].length < 68719476736) then
                r6 (IntKind.i64.wrap (v6_1 + (2 : Int))) (v6_2 ++ [y1])
              else none
          else none
        else none
      else none
    else none
  else
    bif decide (0 ≤ v6_1) then
      bif decide (v6_1 < (x0.length : Int)) then
        bif decide (v6_2.length + [x0.getD v6_1.toNat (0 : Int)].length < 68719476736) then
          r6 (IntKind.i64.wrap (v6_1 + (2 : Int))) (v6_2 ++ [x0.getD v6_1.toNat (0 : Int)])
        else none
      else none
    else none
else some v6_2
noncomputable def spec_l10Up.l6 (x0 : List Int) (n : Nat) : Int → (List Int) → Option (List Int) :=
  V.iter (fun (r6 : Int → (List Int) → Option (List Int)) => fun v6_1 v6_2 => spec_l10Up.g6 x0 r6 v6_1 v6_2) (fun _ _ => none) n
theorem spec_l10Up.u6 (x0 : List Int) (n : Nat) (v6_1 : Int) (v6_2 : List Int) : spec_l10Up.l6 x0 (n + 1) v6_1 v6_2 = spec_l10Up.g6 x0 (spec_l10Up.l6 x0 n) v6_1 v6_2 := rfl
noncomputable abbrev spec_l10Up.b (x0 : List Int) (L6 : Int → (List Int) → Option (List Int)) : Option (List Int) :=
  L6 (0 : Int) []
noncomputable def spec_l10Up (x0 : List Int) : Option (List Int) :=
  spec_l10Up.b x0 (spec_l10Up.l6 x0 V.KK)
noncomputable abbrev spec_TopOf.g8 (r8 : (List Int) → Option Int) (v8_0 : List Int) : Option Int :=
  bif decide ((v8_0.length : Int) > (1 : Int)) then
  (spec_l10Up v8_0).bind fun y2 =>
    r8 y2
else
  bif decide (0 ≤ (0 : Int)) then
    bif decide ((0 : Int) < (v8_0.length : Int)) then
      some (v8_0.getD ((0 : Int).toNat) (0 : Int))
    else none
  else none
noncomputable def spec_TopOf.l8 (n : Nat) : (List Int) → Option Int :=
  V.iter (fun (r8 : (List Int) → Option Int) => fun v8_0 => spec_TopOf.g8 r8 v8_0) (fun _ => none) n
theorem spec_TopOf.u8 (n : Nat) (v8_0 : List Int) : spec_TopOf.l8 (n + 1) v8_0 = spec_TopOf.g8 (spec_TopOf.l8 n) v8_0 := rfl
noncomputable abbrev spec_TopOf.b (x0 : List Int) (L8 : (List Int) → Option Int) : Option Int :=
  bif (x0.length : Int) == (0 : Int) then
  (spec_Hash [(229 : Int)]).bind fun y1 =>
    some y1
else L8 x0
noncomputable def spec_TopOf (x0 : List Int) : Option Int :=
  spec_TopOf.b x0 (spec_TopOf.l8 V.KK)
noncomputable def spec_l10Root (x0 : Int) (x1 : Int) : Option Int :=
  (spec_Hash [(231 : Int), x0, x1]).bind fun y1 =>
  some y1
noncomputable def spec_RootOf (x0 : List TEntry) : Option Int :=
  (spec_LeavesOf x0).bind fun y1 =>
  (spec_TopOf y1).bind fun y2 =>
    (spec_l10Root (x0.length : Int) y2).bind fun y3 =>
      some y3
noncomputable def spec_l6Copy (x0 : TKeys) : Option TKeys :=
  bif decide (([] : List Int).length + x0.1.length < 68719476736) then
  some ([] ++ x0.1, x0.2)
else none
noncomputable abbrev spec_IsKeys.g4 (x0 : TKeys) (r4 : Int → Option Bool) (v4_0 : Int) : Option Bool :=
  bif decide (v4_0 < (x0.1.length : Int)) then
  bif decide (0 ≤ v4_0) then
    bif decide (v4_0 < (x0.1.length : Int)) then
      (spec_l1In (x0.1.getD v4_0.toNat (0 : Int)) (1 : Int) (99 : Int)).bind fun y1 =>
        bif !y1 then
          some false
        else
          bif decide (v4_0 > (0 : Int)) then
            bif decide (0 ≤ (IntKind.i64.wrap (v4_0 - (1 : Int)))) then
              bif decide ((IntKind.i64.wrap (v4_0 - (1 : Int))) < (x0.1.length : Int)) then
                bif decide (0 ≤ v4_0) then
                  bif decide (v4_0 < (x0.1.length : Int)) then
                    bif decide ((x0.1.getD ((IntKind.i64.wrap (v4_0 - (1 : Int))).toNat) (0 : Int)) ≥ (x0.1.getD v4_0.toNat (0 : Int))) then
                      some false
                    else r4 (IntKind.i64.wrap (v4_0 + (1 : Int)))
                  else none
                else none
              else none
            else none
          else r4 (IntKind.i64.wrap (v4_0 + (1 : Int)))
    else none
  else none
else
  (spec_l1In (x0.1.length : Int) (1 : Int) (4 : Int)).bind fun y2 =>
    bif y2 then
      (spec_l1In x0.2 (1 : Int) (x0.1.length : Int)).bind fun y3 =>
        some y3
    else some false
noncomputable def spec_IsKeys.l4 (x0 : TKeys) (n : Nat) : Int → Option Bool :=
  V.iter (fun (r4 : Int → Option Bool) => fun v4_0 => spec_IsKeys.g4 x0 r4 v4_0) (fun _ => none) n
theorem spec_IsKeys.u4 (x0 : TKeys) (n : Nat) (v4_0 : Int) : spec_IsKeys.l4 x0 (n + 1) v4_0 = spec_IsKeys.g4 x0 (spec_IsKeys.l4 x0 n) v4_0 := rfl
noncomputable abbrev spec_IsKeys.b (x0 : TKeys) (L4 : Int → Option Bool) : Option Bool :=
  L4 (0 : Int)
noncomputable def spec_IsKeys (x0 : TKeys) : Option Bool :=
  spec_IsKeys.b x0 (spec_IsKeys.l4 x0 V.KK)
noncomputable def spec_NoKeys (x0 : TKeys) : Option Bool :=
  bif x0.2 == (0 : Int) then
  some ((x0.1.length : Int) == (0 : Int))
else some false
noncomputable abbrev spec_IsHead.g21 (x0 : THead) : Option Bool :=
  (spec_IsKeys (Head_Judge x0)).bind fun y11 =>
  bif y11 then
    some true
  else
    (spec_NoKeys (Head_Judge x0)).bind fun y12 =>
      bif y12 then
        some (!(Head_Frozen x0))
      else some false
noncomputable def spec_IsHead.l21 (x0 : THead) : Option Bool :=
  spec_IsHead.g21 x0
noncomputable abbrev spec_IsHead.g11 (x0 : THead) (L21 : Option Bool) : Option Bool :=
  (spec_NoKeys (Head_Heirs x0)).bind fun y10 =>
  bif y10 then
    bif (Head_Wait x0) != (0 : Int) then
      some false
    else L21
  else
    (spec_IsKeys (Head_Heirs x0)).bind fun y13 =>
      bif !y13 then
        some false
      else
        (spec_l1In (Head_Wait x0) (1 : Int) (500 : Int)).bind fun y14 =>
          bif !y14 then
            some false
          else L21
noncomputable def spec_IsHead.l11 (x0 : THead) : Option Bool :=
  spec_IsHead.g11 x0 (spec_IsHead.l21 x0)
noncomputable abbrev spec_IsHead.g7 (x0 : THead) (L11 : Option Bool) : Option Bool :=
  (spec_l1In (Head_Time x0) (0 : Int) (100000 : Int)).bind fun y6 =>
  bif !y6 then
    some false
  else
    (spec_l1In (Head_Until x0) (Head_Time x0) (100000 : Int)).bind fun y7 =>
      bif !y7 then
        some false
      else
        bif decide ((IntKind.i64.wrap ((Head_Until x0) - (Head_Time x0))) > (200 : Int)) then
          some false
        else
          (spec_l1In (Head_Count x0) (0 : Int) (12 : Int)).bind fun y8 =>
            bif !y8 then
              some false
            else
              (spec_IsKeys (Head_Keys x0)).bind fun y9 =>
                bif !y9 then
                  some false
                else L11
noncomputable def spec_IsHead.l7 (x0 : THead) : Option Bool :=
  spec_IsHead.g7 x0 (spec_IsHead.l11 x0)
noncomputable abbrev spec_IsHead.b (x0 : THead) (L7 : Option Bool) : Option Bool :=
  (spec_l1In (Head_Zone x0) (0 : Int) (2147483646 : Int)).bind fun y1 =>
  bif !y1 then
    some false
  else
    (spec_l1In (Head_Root x0) (0 : Int) (2147483646 : Int)).bind fun y2 =>
      bif !y2 then
        some false
      else
        (spec_l1In (Head_Prev x0) (0 : Int) (2147483646 : Int)).bind fun y3 =>
          bif !y3 then
            some false
          else
            (spec_l1In (Head_Epoch x0) (0 : Int) (200 : Int)).bind fun y4 =>
              bif !y4 then
                some false
              else
                (spec_l1In (Head_Kind x0) (1 : Int) (3 : Int)).bind fun y5 =>
                  bif !y5 then
                    some false
                  else L7
noncomputable def spec_IsHead (x0 : THead) : Option Bool :=
  spec_IsHead.b x0 (spec_IsHead.l7 x0)
noncomputable abbrev spec_FirstHead.g5 (x0 : TKeys) (x1 : Int) (x2 : List TEntry) (x3 : Int) (x4 : Int) (v5_4 : Bool) : Option TRHeadBool :=
  bif v5_4 then
  some dRHeadBool
else
  (spec_ZoneOf x0 x1).bind fun y2 =>
    (spec_RootOf x2).bind fun y3 =>
      (spec_l6Copy x0).bind fun y4 =>
        (spec_IsHead (Head_mk y2 (0 : Int) (1 : Int) x3 (IntKind.i64.wrap (x3 + x4)) (x2.length : Int) y3 x1 y4 dKeys (0 : Int) dKeys false)).bind fun y5 =>
          bif !y5 then
            some dRHeadBool
          else some (RHeadBool_mk (Head_mk y2 (0 : Int) (1 : Int) x3 (IntKind.i64.wrap (x3 + x4)) (x2.length : Int) y3 x1 y4 dKeys (0 : Int) dKeys false) true)
noncomputable def spec_FirstHead.l5 (x0 : TKeys) (x1 : Int) (x2 : List TEntry) (x3 : Int) (x4 : Int) (v5_4 : Bool) : Option TRHeadBool :=
  spec_FirstHead.g5 x0 x1 x2 x3 x4 v5_4
noncomputable abbrev spec_FirstHead.b (x0 : TKeys) (x1 : Int) (x2 : List TEntry) (x3 : Int) (x4 : Int) (L5 : Bool → Option TRHeadBool) : Option TRHeadBool :=
  (spec_AreEntries x2).bind fun y1 =>
  bif !y1 then
    L5 true
  else
    (spec_l1In x3 (0 : Int) (100000 : Int)).bind fun y6 =>
      bif !y6 then
        L5 true
      else
        (spec_l1In x4 (0 : Int) (200 : Int)).bind fun y7 =>
          L5 (!y7)
noncomputable def spec_FirstHead (x0 : TKeys) (x1 : Int) (x2 : List TEntry) (x3 : Int) (x4 : Int) : Option TRHeadBool :=
  spec_FirstHead.b x0 x1 x2 x3 x4 (spec_FirstHead.l5 x0 x1 x2 x3 x4)
noncomputable def spec_l13Copy (x0 : THead) : Option THead :=
  (spec_l6Copy (Head_Keys x0)).bind fun y1 =>
  (spec_l6Copy (Head_Heirs x0)).bind fun y2 =>
    (spec_l6Copy (Head_Judge x0)).bind fun y3 =>
      some (Head_mk (Head_Zone x0) (Head_Epoch x0) (Head_Kind x0) (Head_Time x0) (Head_Until x0) (Head_Count x0) (Head_Root x0) (Head_Prev x0) y1 y2 (Head_Wait x0) y3 (Head_Frozen x0))
noncomputable def spec_HeadInts (x0 : THead) : Option (List Int) :=
  (spec_KeysInts (Head_Keys x0)).bind fun y1 =>
  bif decide ([(Head_Zone x0), (Head_Epoch x0), (Head_Kind x0), (Head_Time x0), (Head_Until x0), (Head_Count x0), (Head_Root x0), (Head_Prev x0)].length + y1.length < 68719476736) then
    (spec_KeysInts (Head_Heirs x0)).bind fun y2 =>
      bif decide (([(Head_Zone x0), (Head_Epoch x0), (Head_Kind x0), (Head_Time x0), (Head_Until x0), (Head_Count x0), (Head_Root x0), (Head_Prev x0)] ++ y1).length + y2.length < 68719476736) then
        bif decide ((([(Head_Zone x0), (Head_Epoch x0), (Head_Kind x0), (Head_Time x0), (Head_Until x0), (Head_Count x0), (Head_Root x0), (Head_Prev x0)] ++ y1) ++ y2).length + [(Head_Wait x0)].length < 68719476736) then
          (spec_KeysInts (Head_Judge x0)).bind fun y3 =>
            bif decide (((([(Head_Zone x0), (Head_Epoch x0), (Head_Kind x0), (Head_Time x0), (Head_Until x0), (Head_Count x0), (Head_Root x0), (Head_Prev x0)] ++ y1) ++ y2) ++ [(Head_Wait x0)]).length + y3.length < 68719476736) then
              bif (Head_Frozen x0) then
                bif decide ((((([(Head_Zone x0), (Head_Epoch x0), (Head_Kind x0), (Head_Time x0), (Head_Until x0), (Head_Count x0), (Head_Root x0), (Head_Prev x0)] ++ y1) ++ y2) ++ [(Head_Wait x0)]) ++ y3).length + [(1 : Int)].length < 68719476736) then
                  some ((((([(Head_Zone x0), (Head_Epoch x0), (Head_Kind x0), (Head_Time x0), (Head_Until x0), (Head_Count x0), (Head_Root x0), (Head_Prev x0)] ++ y1) ++ y2) ++ [(Head_Wait x0)]) ++ y3) ++ [(1 : Int)])
                else none
              else
                bif decide ((((([(Head_Zone x0), (Head_Epoch x0), (Head_Kind x0), (Head_Time x0), (Head_Until x0), (Head_Count x0), (Head_Root x0), (Head_Prev x0)] ++ y1) ++ y2) ++ [(Head_Wait x0)]) ++ y3).length + [(0 : Int)].length < 68719476736) then
                  some ((((([(Head_Zone x0), (Head_Epoch x0), (Head_Kind x0), (Head_Time x0), (Head_Until x0), (Head_Count x0), (Head_Root x0), (Head_Prev x0)] ++ y1) ++ y2) ++ [(Head_Wait x0)]) ++ y3) ++ [(0 : Int)])
                else none
            else none
        else none
      else none
  else none
noncomputable abbrev spec_l6Has.g4 (x0 : List Int) (x1 : Int) (r4 : Int → Option Bool) (v4_2 : Int) : Option Bool :=
  bif decide (v4_2 < (x0.length : Int)) then
  bif decide (0 ≤ v4_2) then
    bif decide (v4_2 < (x0.length : Int)) then
      bif (x0.getD v4_2.toNat (0 : Int)) == x1 then
        some true
      else r4 (IntKind.i64.wrap (v4_2 + (1 : Int)))
    else none
  else none
else some false
noncomputable def spec_l6Has.l4 (x0 : List Int) (x1 : Int) (n : Nat) : Int → Option Bool :=
  V.iter (fun (r4 : Int → Option Bool) => fun v4_2 => spec_l6Has.g4 x0 x1 r4 v4_2) (fun _ => none) n
theorem spec_l6Has.u4 (x0 : List Int) (x1 : Int) (n : Nat) (v4_2 : Int) : spec_l6Has.l4 x0 x1 (n + 1) v4_2 = spec_l6Has.g4 x0 x1 (spec_l6Has.l4 x0 x1 n) v4_2 := rfl
noncomputable abbrev spec_l6Has.b (x0 : List Int) (x1 : Int) (L4 : Int → Option Bool) : Option Bool :=
  L4 (0 : Int)
noncomputable def spec_l6Has (x0 : List Int) (x1 : Int) : Option Bool :=
  spec_l6Has.b x0 x1 (spec_l6Has.l4 x0 x1 V.KK)
noncomputable def spec_KeyedHash (x0 : Int) (x1 : List Int) : Option Int :=
  bif decide ([x0].length + x1.length < 68719476736) then
  bif decide (([x0] ++ x1).length + [x0].length < 68719476736) then
    (spec_Hash (([x0] ++ x1) ++ [x0])).bind fun y1 =>
      some y1
  else none
else none
noncomputable def spec_TagOf (x0 : Int) (x1 : List Int) : Option Int :=
  bif decide ([(223 : Int)].length + x1.length < 68719476736) then
  (spec_KeyedHash x0 ([(223 : Int)] ++ x1)).bind fun y1 =>
    some y1
else none
noncomputable abbrev spec_SignBy.g6 (x0 : List Int) (x1 : TKeys) (x2 : List Int) (r6 : Int → (List TSig) → Option (List TSig)) (v6_2 : Int) (v6_5 : List TSig) : Option (List TSig) :=
  bif decide (v6_2 < (x1.1.length : Int)) then
  bif decide (0 ≤ v6_2) then
    bif decide (v6_2 < (x1.1.length : Int)) then
      (spec_l6Has x0 (x1.1.getD v6_2.toNat (0 : Int))).bind fun y1 =>
        bif y1 then
          bif decide (0 ≤ v6_2) then
            bif decide (v6_2 < (x1.1.length : Int)) then
              bif decide (0 ≤ v6_2) then
                bif decide (v6_2 < (x1.1.length : Int)) then
                  (spec_TagOf (x1.1.getD v6_2.toNat (0 : Int)) x2).bind fun y2 =>
                    bif decide (v6_5.length + [(x1.1.getD v6_2.toNat (0 : Int), y2)].length < 68719476736) then
                      r6 (IntKind.i64.wrap (v6_2 + (1 : Int))) (v6_5 ++ [(x1.1.getD v6_2.toNat (0 : Int), y2)])
                    else none
                else none
              else none
            else none
          else none
        else r6 (IntKind.i64.wrap (v6_2 + (1 : Int))) v6_5
    else none
  else none
else some v6_5
noncomputable def spec_SignBy.l6 (x0 : List Int) (x1 : TKeys) (x2 : List Int) (n : Nat) : Int → (List TSig) → Option (List TSig) :=
  V.iter (fun (r6 : Int → (List TSig) → Option (List TSig)) => fun v6_2 v6_5 => spec_SignBy.g6 x0 x1 x2 r6 v6_2 v6_5) (fun _ _ => none) n
theorem spec_SignBy.u6 (x0 : List Int) (x1 : TKeys) (x2 : List Int) (n : Nat) (v6_2 : Int) (v6_5 : List TSig) : spec_SignBy.l6 x0 x1 x2 (n + 1) v6_2 v6_5 = spec_SignBy.g6 x0 x1 x2 (spec_SignBy.l6 x0 x1 x2 n) v6_2 v6_5 := rfl
noncomputable abbrev spec_SignBy.b (x0 : List Int) (x1 : TKeys) (x2 : List Int) (L6 : Int → (List TSig) → Option (List TSig)) : Option (List TSig) :=
  L6 (0 : Int) []
noncomputable def spec_SignBy (x0 : List Int) (x1 : TKeys) (x2 : List Int) : Option (List TSig) :=
  spec_SignBy.b x0 x1 x2 (spec_SignBy.l6 x0 x1 x2 V.KK)
noncomputable def spec_SignHead (x0 : List Int) (x1 : TKeys) (x2 : THead) : Option TSigned :=
  (spec_l13Copy x2).bind fun y1 =>
  (spec_HeadInts x2).bind fun y2 =>
    (spec_SignBy x0 x1 y2).bind fun y3 =>
      some (Signed_mk y1 y3)
noncomputable def spec_l5Copy (x0 : List ByteArray) : Option (List ByteArray) :=
  bif decide (([] : List ByteArray).length + x0.length < 68719476736) then
  some ([] ++ x0)
else none
noncomputable def spec_l8Copy (x0 : TEntry) : Option TEntry :=
  (spec_l5Copy x0.2.2.2).bind fun y1 =>
  some (x0.1, x0.2.1, x0.2.2.1, y1)
noncomputable abbrev spec_l9Copy.g6 (x0 : List TEntry) (r6 : Int → (List TEntry) → Option (List TEntry)) (v6_1 : Int) (v6_2 : List TEntry) : Option (List TEntry) :=
  bif decide (v6_1 < (x0.length : Int)) then
  bif decide (0 ≤ v6_1) then
    bif decide (v6_1 < (x0.length : Int)) then
      (spec_l8Copy (x0.getD v6_1.toNat dEntry)).bind fun y1 =>
        bif decide (v6_2.length + [y1].length < 68719476736) then
          r6 (IntKind.i64.wrap (v6_1 + (1 : Int))) (v6_2 ++ [y1])
        else none
    else none
  else none
else some v6_2
noncomputable def spec_l9Copy.l6 (x0 : List TEntry) (n : Nat) : Int → (List TEntry) → Option (List TEntry) :=
  V.iter (fun (r6 : Int → (List TEntry) → Option (List TEntry)) => fun v6_1 v6_2 => spec_l9Copy.g6 x0 r6 v6_1 v6_2) (fun _ _ => none) n
theorem spec_l9Copy.u6 (x0 : List TEntry) (n : Nat) (v6_1 : Int) (v6_2 : List TEntry) : spec_l9Copy.l6 x0 (n + 1) v6_1 v6_2 = spec_l9Copy.g6 x0 (spec_l9Copy.l6 x0 n) v6_1 v6_2 := rfl
noncomputable abbrev spec_l9Copy.b (x0 : List TEntry) (L6 : Int → (List TEntry) → Option (List TEntry)) : Option (List TEntry) :=
  L6 (0 : Int) []
noncomputable def spec_l9Copy (x0 : List TEntry) : Option (List TEntry) :=
  spec_l9Copy.b x0 (spec_l9Copy.l6 x0 V.KK)
noncomputable def spec_NewZone (x0 : TKeys) (x1 : Int) (x2 : List TEntry) (x3 : Int) (x4 : Int) : Option TRZoneBool :=
  (spec_FirstHead x0 x1 x2 x3 x4).bind fun y1 =>
  bif !(RHeadBool_r1 y1) then
    some dRZoneBool
  else
    (spec_SignHead x0.1 x0 (RHeadBool_r0 y1)).bind fun y2 =>
      (spec_l9Copy x2).bind fun y3 =>
        some (RZoneBool_mk ([y2], y3) true)
noncomputable def impl_KeysInts (x0 : TKeys) : Option (List Int) :=
  bif decide ([x0.2, (x0.1.length : Int)].length + x0.1.length < 68719476736) then
  some ([x0.2, (x0.1.length : Int)] ++ x0.1)
else none
noncomputable def impl_InRange (x0 : Int) (x1 : Int) (x2 : Int) : Option Bool :=
  bif decide (x1 ≤ x0) then
  some (decide (x0 ≤ x2))
else some false
noncomputable def impl_Mod (x0 : Int) (x1 : Int) : Option Int :=
  (impl_InRange x1 (1 : Int) (1000000000000 : Int)).bind fun y1 =>
  bif !y1 then
    some (0 : Int)
  else
    bif (x1 == (0 : Int)) then
      none
    else
      bif (x1 == (0 : Int)) then
        none
      else some (Int.tmod (IntKind.i64.wrap ((Int.tmod x0 x1) + x1)) x1)
noncomputable abbrev impl_Hash.g6 (x0 : List Int) (r6 : Int → Int → Int → Option Int) (v6_0 : Int) (v6_2 : Int) (v6_3 : Int) : Option Int :=
  bif decide (v6_3 < v6_2) then
  bif decide (0 ≤ v6_3) then
    bif decide (v6_3 < (x0.length : Int)) then
      (impl_Mod (x0.getD v6_3.toNat (0 : Int)) (2147483647 : Int)).bind fun y1 =>
        bif ((2147483647 : Int) == (0 : Int)) then
          none
        else r6 (Int.tmod (IntKind.i64.wrap ((IntKind.i64.wrap ((IntKind.i64.wrap (v6_0 * (1000003 : Int))) + y1)) + (13 : Int))) (2147483647 : Int)) v6_2 (IntKind.i64.wrap (v6_3 + (1 : Int)))
    else none
  else none
else some v6_0
noncomputable def impl_Hash.l6 (x0 : List Int) (n : Nat) : Int → Int → Int → Option Int :=
  V.iter (fun (r6 : Int → Int → Int → Option Int) => fun v6_0 v6_2 v6_3 => impl_Hash.g6 x0 r6 v6_0 v6_2 v6_3) (fun _ _ _ => none) n
theorem impl_Hash.u6 (x0 : List Int) (n : Nat) (v6_0 : Int) (v6_2 : Int) (v6_3 : Int) : impl_Hash.l6 x0 (n + 1) v6_0 v6_2 v6_3 = impl_Hash.g6 x0 (impl_Hash.l6 x0 n) v6_0 v6_2 v6_3 := rfl
noncomputable abbrev impl_Hash.b (x0 : List Int) (L6 : Int → Int → Int → Option Int) : Option Int :=
  L6 (11 : Int) (x0.length : Int) (0 : Int)
noncomputable def impl_Hash (x0 : List Int) : Option Int :=
  impl_Hash.b x0 (impl_Hash.l6 x0 V.KK)
noncomputable def impl_ZoneOf (x0 : TKeys) (x1 : Int) : Option Int :=
  (impl_KeysInts x0).bind fun y1 =>
  bif decide ([(239 : Int), x1].length + y1.length < 68719476736) then
    (impl_Hash ([(239 : Int), x1] ++ y1)).bind fun y2 =>
      some y2
  else none
noncomputable abbrev impl_until.g7 (x0 : Int) (x1 : Int) : Option Int :=
  some (IntKind.i64.wrap (x0 + x1))
noncomputable def impl_until.l7 (x0 : Int) (x1 : Int) : Option Int :=
  impl_until.g7 x0 x1
noncomputable abbrev impl_until.b (x0 : Int) (x1 : Int) (L7 : Option Int) : Option Int :=
  (impl_InRange x0 (0 : Int) (100000 : Int)).bind fun y1 =>
  bif !y1 then
    some (100001 : Int)
  else
    (impl_InRange x1 (0 : Int) (200 : Int)).bind fun y2 =>
      bif !y2 then
        some (100001 : Int)
      else L7
noncomputable def impl_until (x0 : Int) (x1 : Int) : Option Int :=
  impl_until.b x0 x1 (impl_until.l7 x0 x1)
noncomputable abbrev impl_BytesToInts.g6 (x0 : List Int) (r6 : Int → Int → (List Int) → Option (List Int)) (v6_1 : Int) (v6_2 : Int) (v6_3 : List Int) : Option (List Int) :=
  bif decide (v6_2 < v6_1) then
  bif decide (0 ≤ v6_2) then
    bif decide (v6_2 < (x0.length : Int)) then
      bif decide (v6_3.length + [IntKind.i64.wrap (x0.getD v6_2.toNat (0 : Int))].length < 68719476736) then
        r6 v6_1 (IntKind.i64.wrap (v6_2 + (1 : Int))) (v6_3 ++ [IntKind.i64.wrap (x0.getD v6_2.toNat (0 : Int))])
      else none
    else none
  else none
else some v6_3
noncomputable def impl_BytesToInts.l6 (x0 : List Int) (n : Nat) : Int → Int → (List Int) → Option (List Int) :=
  V.iter (fun (r6 : Int → Int → (List Int) → Option (List Int)) => fun v6_1 v6_2 v6_3 => impl_BytesToInts.g6 x0 r6 v6_1 v6_2 v6_3) (fun _ _ _ => none) n
theorem impl_BytesToInts.u6 (x0 : List Int) (n : Nat) (v6_1 : Int) (v6_2 : Int) (v6_3 : List Int) : impl_BytesToInts.l6 x0 (n + 1) v6_1 v6_2 v6_3 = impl_BytesToInts.g6 x0 (impl_BytesToInts.l6 x0 n) v6_1 v6_2 v6_3 := rfl
noncomputable abbrev impl_BytesToInts.b (x0 : List Int) (L6 : Int → Int → (List Int) → Option (List Int)) : Option (List Int) :=
  L6 (x0.length : Int) (0 : Int) [(x0.length : Int)]
noncomputable def impl_BytesToInts (x0 : List Int) : Option (List Int) :=
  impl_BytesToInts.b x0 (impl_BytesToInts.l6 x0 V.KK)
noncomputable def impl_LabelInts (x0 : ByteArray) : Option (List Int) :=
  bif V.smallS x0 then
  (impl_BytesToInts (V.bytesOf x0)).bind fun y1 =>
    some y1
else none
noncomputable abbrev impl_EntryInts.g6 (x0 : TEntry) (r6 : Int → Int → (List Int) → Option (List Int)) (v6_1 : Int) (v6_2 : Int) (v6_3 : List Int) : Option (List Int) :=
  bif decide (v6_2 < v6_1) then
  bif decide (0 ≤ v6_2) then
    bif decide (v6_2 < (x0.2.2.2.length : Int)) then
      (impl_LabelInts (x0.2.2.2.getD v6_2.toNat (⟨#[]⟩ : ByteArray))).bind fun y2 =>
        bif decide (v6_3.length + y2.length < 68719476736) then
          r6 v6_1 (IntKind.i64.wrap (v6_2 + (1 : Int))) (v6_3 ++ y2)
        else none
    else none
  else none
else some v6_3
noncomputable def impl_EntryInts.l6 (x0 : TEntry) (n : Nat) : Int → Int → (List Int) → Option (List Int) :=
  V.iter (fun (r6 : Int → Int → (List Int) → Option (List Int)) => fun v6_1 v6_2 v6_3 => impl_EntryInts.g6 x0 r6 v6_1 v6_2 v6_3) (fun _ _ _ => none) n
theorem impl_EntryInts.u6 (x0 : TEntry) (n : Nat) (v6_1 : Int) (v6_2 : Int) (v6_3 : List Int) : impl_EntryInts.l6 x0 (n + 1) v6_1 v6_2 v6_3 = impl_EntryInts.g6 x0 (impl_EntryInts.l6 x0 n) v6_1 v6_2 v6_3 := rfl
noncomputable abbrev impl_EntryInts.b (x0 : TEntry) (L6 : Int → Int → (List Int) → Option (List Int)) : Option (List Int) :=
  (impl_LabelInts x0.1).bind fun y1 =>
  bif decide (y1.length + [x0.2.1, x0.2.2.1, (x0.2.2.2.length : Int)].length < 68719476736) then
    L6 (x0.2.2.2.length : Int) (0 : Int) (y1 ++ [x0.2.1, x0.2.2.1, (x0.2.2.2.length : Int)])
  else none
noncomputable def impl_EntryInts (x0 : TEntry) : Option (List Int) :=
  impl_EntryInts.b x0 (impl_EntryInts.l6 x0 V.KK)
noncomputable def impl_LeafOf (x0 : TEntry) : Option Int :=
  (impl_EntryInts x0).bind fun y1 =>
  bif decide ([(227 : Int)].length + y1.length < 68719476736) then
    (impl_Hash ([(227 : Int)] ++ y1)).bind fun y2 =>
      some y2
  else none
noncomputable abbrev impl_LeavesOf.g6 (x0 : List TEntry) (r6 : Int → Int → (List Int) → Option (List Int)) (v6_1 : Int) (v6_2 : Int) (v6_3 : List Int) : Option (List Int) :=
  bif decide (v6_2 < v6_1) then
  bif decide (0 ≤ v6_2) then
    bif decide (v6_2 < (x0.length : Int)) then
      (impl_LeafOf (x0.getD v6_2.toNat dEntry)).bind fun y1 =>
        bif decide (v6_3.length + [y1].length < 68719476736) then
          r6 v6_1 (IntKind.i64.wrap (v6_2 + (1 : Int))) (v6_3 ++ [y1])
        else none
    else none
  else none
else some v6_3
noncomputable def impl_LeavesOf.l6 (x0 : List TEntry) (n : Nat) : Int → Int → (List Int) → Option (List Int) :=
  V.iter (fun (r6 : Int → Int → (List Int) → Option (List Int)) => fun v6_1 v6_2 v6_3 => impl_LeavesOf.g6 x0 r6 v6_1 v6_2 v6_3) (fun _ _ _ => none) n
theorem impl_LeavesOf.u6 (x0 : List TEntry) (n : Nat) (v6_1 : Int) (v6_2 : Int) (v6_3 : List Int) : impl_LeavesOf.l6 x0 (n + 1) v6_1 v6_2 v6_3 = impl_LeavesOf.g6 x0 (impl_LeavesOf.l6 x0 n) v6_1 v6_2 v6_3 := rfl
noncomputable abbrev impl_LeavesOf.b (x0 : List TEntry) (L6 : Int → Int → (List Int) → Option (List Int)) : Option (List Int) :=
  L6 (x0.length : Int) (0 : Int) []
noncomputable def impl_LeavesOf (x0 : List TEntry) : Option (List Int) :=
  impl_LeavesOf.b x0 (impl_LeavesOf.l6 x0 V.KK)
noncomputable def impl_hash (x0 : List Int) : Option Int :=
  (impl_Hash x0).bind fun y1 =>
  some y1
noncomputable def impl_NodeOf (x0 : Int) (x1 : Int) : Option Int :=
  (impl_hash [(229 : Int), x0, x1]).bind fun y1 =>
  some y1
noncomputable abbrev impl_above.g6 (x0 : List Int) (r6 : Int → (List Int) → Option (List Int)) (v6_1 : Int) (v6_2 : List Int) : Option (List Int) :=
  bif decide (v6_1 < (x0.length : Int)) then
  bif decide ((IntKind.i64.wrap (v6_1 + (1 : Int))) < (x0.length : Int)) then
    bif decide (0 ≤ v6_1) then
      bif decide (v6_1 < (x0.length : Int)) then
        bif decide (0 ≤ (IntKind.i64.wrap (v6_1 + (1 : Int)))) then
          bif decide ((IntKind.i64.wrap (v6_1 + (1 : Int))) < (x0.length : Int)) then
            (impl_NodeOf (x0.getD v6_1.toNat (0 : Int)) (x0.getD ((IntKind.i64.wrap (v6_1 + (1 : Int))).toNat) (0 : Int))).bind fun y1 =>
              bif decide (v6_2.length + [y1].length < 68719476736) then
                r6 (IntKind.i64.wrap (v6_1 + (2 : Int))) (v6_2 ++ [y1])
              else none
          else none
        else none
      else none
    else none
  else
    bif decide (0 ≤ v6_1) then
      bif decide (v6_1 < (x0.length : Int)) then
        bif decide (v6_2.length + [x0.getD v6_1.toNat (0 : Int)].length < 68719476736) then
          r6 (IntKind.i64.wrap (v6_1 + (2 : Int))) (v6_2 ++ [x0.getD v6_1.toNat (0 : Int)])
        else none
      else none
    else none
else some v6_2
noncomputable def impl_above.l6 (x0 : List Int) (n : Nat) : Int → (List Int) → Option (List Int) :=
  V.iter (fun (r6 : Int → (List Int) → Option (List Int)) => fun v6_1 v6_2 => impl_above.g6 x0 r6 v6_1 v6_2) (fun _ _ => none) n
theorem impl_above.u6 (x0 : List Int) (n : Nat) (v6_1 : Int) (v6_2 : List Int) : impl_above.l6 x0 (n + 1) v6_1 v6_2 = impl_above.g6 x0 (impl_above.l6 x0 n) v6_1 v6_2 := rfl
noncomputable abbrev impl_above.b (x0 : List Int) (L6 : Int → (List Int) → Option (List Int)) : Option (List Int) :=
  L6 (0 : Int) []
noncomputable def impl_above (x0 : List Int) : Option (List Int) :=
  impl_above.b x0 (impl_above.l6 x0 V.KK)
noncomputable abbrev impl_TopOf.g6 (r6 : (List Int) → Option Int) (v6_0 : List Int) : Option Int :=
  bif decide ((v6_0.length : Int) > (1 : Int)) then
  (impl_above v6_0).bind fun y2 =>
    r6 y2
else
  bif decide (0 ≤ (0 : Int)) then
    bif decide ((0 : Int) < (v6_0.length : Int)) then
      some (v6_0.getD ((0 : Int).toNat) (0 : Int))
    else none
  else none
noncomputable def impl_TopOf.l6 (n : Nat) : (List Int) → Option Int :=
  V.iter (fun (r6 : (List Int) → Option Int) => fun v6_0 => impl_TopOf.g6 r6 v6_0) (fun _ => none) n
theorem impl_TopOf.u6 (n : Nat) (v6_0 : List Int) : impl_TopOf.l6 (n + 1) v6_0 = impl_TopOf.g6 (impl_TopOf.l6 n) v6_0 := rfl
noncomputable abbrev impl_TopOf.b (x0 : List Int) (L6 : (List Int) → Option Int) : Option Int :=
  bif (x0.length : Int) == (0 : Int) then
  (impl_hash [(229 : Int)]).bind fun y1 =>
    some y1
else L6 x0
noncomputable def impl_TopOf (x0 : List Int) : Option Int :=
  impl_TopOf.b x0 (impl_TopOf.l6 V.KK)
noncomputable def impl_rootFrom (x0 : Int) (x1 : Int) : Option Int :=
  (impl_hash [(231 : Int), x0, x1]).bind fun y1 =>
  some y1
noncomputable def impl_RootOf (x0 : List TEntry) : Option Int :=
  (impl_LeavesOf x0).bind fun y1 =>
  (impl_TopOf y1).bind fun y2 =>
    (impl_rootFrom (x0.length : Int) y2).bind fun y3 =>
      some y3
noncomputable def slices_Clone_int (x0 : List Int) : Option (List Int) :=
  bif x0.isEmpty then
  V.both (some [])
    (bif decide (([] : List Int).length + x0.length < 68719476736) then
      some ([] ++ x0)
    else none)
else
  bif decide (([] : List Int).length + x0.length < 68719476736) then
    some ([] ++ x0)
  else none
noncomputable def impl_copyKeys (x0 : TKeys) : Option TKeys :=
  (slices_Clone_int x0.1).bind fun y1 =>
  some (y1, x0.2)
noncomputable abbrev impl_IsLabel.g4 (x0 : ByteArray) (r4 : Int → Int → Option Bool) (v4_1 : Int) (v4_2 : Int) : Option Bool :=
  bif decide (v4_2 < v4_1) then
  bif decide (0 ≤ v4_2) then
    bif decide (v4_2 < (x0.size : Int)) then
      bif decide ((V.bt x0 v4_2) ≥ (97 : Int)) then
        bif decide ((V.bt x0 v4_2) ≤ (122 : Int)) then
          r4 v4_1 (IntKind.i64.wrap (v4_2 + (1 : Int)))
        else
          bif decide ((V.bt x0 v4_2) ≥ (48 : Int)) then
            bif decide ((V.bt x0 v4_2) ≤ (57 : Int)) then
              r4 v4_1 (IntKind.i64.wrap (v4_2 + (1 : Int)))
            else
              bif (V.bt x0 v4_2) == (45 : Int) then
                bif decide (v4_2 > (0 : Int)) then
                  bif !(decide (v4_2 < (IntKind.i64.wrap ((x0.size : Int) - (1 : Int))))) then
                    some false
                  else r4 v4_1 (IntKind.i64.wrap (v4_2 + (1 : Int)))
                else some false
              else some false
          else
            bif (V.bt x0 v4_2) == (45 : Int) then
              bif decide (v4_2 > (0 : Int)) then
                bif !(decide (v4_2 < (IntKind.i64.wrap ((x0.size : Int) - (1 : Int))))) then
                  some false
                else r4 v4_1 (IntKind.i64.wrap (v4_2 + (1 : Int)))
              else some false
            else some false
      else
        bif decide ((V.bt x0 v4_2) ≥ (48 : Int)) then
          bif decide ((V.bt x0 v4_2) ≤ (57 : Int)) then
            r4 v4_1 (IntKind.i64.wrap (v4_2 + (1 : Int)))
          else
            bif (V.bt x0 v4_2) == (45 : Int) then
              bif decide (v4_2 > (0 : Int)) then
                bif !(decide (v4_2 < (IntKind.i64.wrap ((x0.size : Int) - (1 : Int))))) then
                  some false
                else r4 v4_1 (IntKind.i64.wrap (v4_2 + (1 : Int)))
              else some false
            else some false
        else
          bif (V.bt x0 v4_2) == (45 : Int) then
            bif decide (v4_2 > (0 : Int)) then
              bif !(decide (v4_2 < (IntKind.i64.wrap ((x0.size : Int) - (1 : Int))))) then
                some false
              else r4 v4_1 (IntKind.i64.wrap (v4_2 + (1 : Int)))
            else some false
          else some false
    else none
  else none
else
  (impl_InRange (x0.size : Int) (1 : Int) (8 : Int)).bind fun y1 =>
    some y1
noncomputable def impl_IsLabel.l4 (x0 : ByteArray) (n : Nat) : Int → Int → Option Bool :=
  V.iter (fun (r4 : Int → Int → Option Bool) => fun v4_1 v4_2 => impl_IsLabel.g4 x0 r4 v4_1 v4_2) (fun _ _ => none) n
theorem impl_IsLabel.u4 (x0 : ByteArray) (n : Nat) (v4_1 : Int) (v4_2 : Int) : impl_IsLabel.l4 x0 (n + 1) v4_1 v4_2 = impl_IsLabel.g4 x0 (impl_IsLabel.l4 x0 n) v4_1 v4_2 := rfl
noncomputable abbrev impl_IsLabel.b (x0 : ByteArray) (L4 : Int → Int → Option Bool) : Option Bool :=
  L4 (x0.size : Int) (0 : Int)
noncomputable def impl_IsLabel (x0 : ByteArray) : Option Bool :=
  impl_IsLabel.b x0 (impl_IsLabel.l4 x0 V.KK)
noncomputable def impl_isDigest (x0 : Int) : Option Bool :=
  (impl_InRange x0 (0 : Int) (2147483646 : Int)).bind fun y1 =>
  some y1
noncomputable def impl_IsPath_1 (x0 : ByteArray) : Option Bool :=
  (impl_IsLabel x0).bind fun y1 =>
  some (!y1)
noncomputable abbrev slices_IndexFunc_string__IsPath_1.g4 (x0 : List ByteArray) (r4 : Int → Int → Option Int) (v4_1 : Int) (v4_2 : Int) : Option Int :=
  bif decide (v4_2 < v4_1) then
  bif decide (0 ≤ v4_2) then
    bif decide (v4_2 < (x0.length : Int)) then
      (impl_IsPath_1 (x0.getD v4_2.toNat (⟨#[]⟩ : ByteArray))).bind fun y1 =>
        bif y1 then
          some v4_2
        else r4 v4_1 (IntKind.i64.wrap (v4_2 + (1 : Int)))
    else none
  else none
else some (-1 : Int)
noncomputable def slices_IndexFunc_string__IsPath_1.l4 (x0 : List ByteArray) (n : Nat) : Int → Int → Option Int :=
  V.iter (fun (r4 : Int → Int → Option Int) => fun v4_1 v4_2 => slices_IndexFunc_string__IsPath_1.g4 x0 r4 v4_1 v4_2) (fun _ _ => none) n
theorem slices_IndexFunc_string__IsPath_1.u4 (x0 : List ByteArray) (n : Nat) (v4_1 : Int) (v4_2 : Int) : slices_IndexFunc_string__IsPath_1.l4 x0 (n + 1) v4_1 v4_2 = slices_IndexFunc_string__IsPath_1.g4 x0 (slices_IndexFunc_string__IsPath_1.l4 x0 n) v4_1 v4_2 := rfl
noncomputable abbrev slices_IndexFunc_string__IsPath_1.b (x0 : List ByteArray) (x1 : (Unit) × (Unit)) (L4 : Int → Int → Option Int) : Option Int :=
  L4 (x0.length : Int) (0 : Int)
noncomputable def slices_IndexFunc_string__IsPath_1 (x0 : List ByteArray) (x1 : (Unit) × (Unit)) : Option Int :=
  slices_IndexFunc_string__IsPath_1.b x0 x1 (slices_IndexFunc_string__IsPath_1.l4 x0 V.KK)
noncomputable def slices_ContainsFunc_string__IsPath_1 (x0 : List ByteArray) (x1 : (Unit) × (Unit)) : Option Bool :=
  (slices_IndexFunc_string__IsPath_1 x0 (x1.1, x1.2)).bind fun y1 =>
  some (decide (y1 ≥ (0 : Int)))
noncomputable def impl_IsPath (x0 : List ByteArray) : Option Bool :=
  (impl_InRange (x0.length : Int) (1 : Int) (4 : Int)).bind fun y1 =>
  bif y1 then
    (slices_ContainsFunc_string__IsPath_1 x0 ((), ())).bind fun y2 =>
      some (!y2)
  else some false
noncomputable def impl_IsEntry (x0 : TEntry) : Option Bool :=
  (impl_IsLabel x0.1).bind fun y1 =>
  bif !y1 then
    some false
  else
    bif x0.2.1 == (1 : Int) then
      (impl_InRange x0.2.2.1 (0 : Int) (999999 : Int)).bind fun y2 =>
        bif y2 then
          some ((x0.2.2.2.length : Int) == (0 : Int))
        else some false
    else
      bif x0.2.1 == (2 : Int) then
        (impl_isDigest x0.2.2.1).bind fun y3 =>
          bif y3 then
            some ((x0.2.2.2.length : Int) == (0 : Int))
          else some false
      else
        bif x0.2.1 == (3 : Int) then
          (impl_isDigest x0.2.2.1).bind fun y4 =>
            bif y4 then
              (impl_IsPath x0.2.2.2).bind fun y5 =>
                some y5
            else some false
        else some false
noncomputable def internal_bytealg_CompareString (x0 : ByteArray) (x1 : ByteArray) : Option Int :=
  some (Go.Lib.compareBytes x0.data.toList x1.data.toList)
noncomputable def strings_Compare (x0 : ByteArray) (x1 : ByteArray) : Option Int :=
  (internal_bytealg_CompareString x0 x1).bind fun y1 =>
  some y1
noncomputable def impl_CompareLabels (x0 : ByteArray) (x1 : ByteArray) : Option Int :=
  (strings_Compare x0 x1).bind fun y1 =>
  some y1
noncomputable abbrev impl_AreEntries.g4 (x0 : List TEntry) (r4 : Int → Int → Option Bool) (v4_2 : Int) (v4_3 : Int) : Option Bool :=
  bif decide (v4_3 < v4_2) then
  bif decide (0 ≤ v4_3) then
    bif decide (v4_3 < (x0.length : Int)) then
      (impl_IsEntry (x0.getD v4_3.toNat dEntry)).bind fun y1 =>
        bif !y1 then
          some false
        else
          bif decide (v4_3 > (0 : Int)) then
            bif decide (0 ≤ (IntKind.i64.wrap (v4_3 - (1 : Int)))) then
              bif decide ((IntKind.i64.wrap (v4_3 - (1 : Int))) < (x0.length : Int)) then
                (impl_CompareLabels (x0.getD v4_3.toNat dEntry).1 (x0.getD ((IntKind.i64.wrap (v4_3 - (1 : Int))).toNat) dEntry).1).bind fun y2 =>
                  bif decide (y2 ≤ (0 : Int)) then
                    some false
                  else r4 v4_2 (IntKind.i64.wrap (v4_3 + (1 : Int)))
              else none
            else none
          else r4 v4_2 (IntKind.i64.wrap (v4_3 + (1 : Int)))
    else none
  else none
else some (decide ((x0.length : Int) ≤ (12 : Int)))
noncomputable def impl_AreEntries.l4 (x0 : List TEntry) (n : Nat) : Int → Int → Option Bool :=
  V.iter (fun (r4 : Int → Int → Option Bool) => fun v4_2 v4_3 => impl_AreEntries.g4 x0 r4 v4_2 v4_3) (fun _ _ => none) n
theorem impl_AreEntries.u4 (x0 : List TEntry) (n : Nat) (v4_2 : Int) (v4_3 : Int) : impl_AreEntries.l4 x0 (n + 1) v4_2 v4_3 = impl_AreEntries.g4 x0 (impl_AreEntries.l4 x0 n) v4_2 v4_3 := rfl
noncomputable abbrev impl_AreEntries.b (x0 : List TEntry) (L4 : Int → Int → Option Bool) : Option Bool :=
  L4 (x0.length : Int) (0 : Int)
noncomputable def impl_AreEntries (x0 : List TEntry) : Option Bool :=
  impl_AreEntries.b x0 (impl_AreEntries.l4 x0 V.KK)
noncomputable def impl_isSpan (x0 : THead) : Option Bool :=
  bif decide ((Head_Time x0) ≥ (0 : Int)) then
  bif decide ((Head_Time x0) ≤ (Head_Until x0)) then
    bif decide ((Head_Until x0) ≤ (100000 : Int)) then
      some (decide ((IntKind.i64.wrap ((Head_Until x0) - (Head_Time x0))) ≤ (200 : Int)))
    else some false
  else some false
else some false
noncomputable abbrev impl_ascending.g4 (x0 : List Int) (r4 : Int → Int → Option Bool) (v4_1 : Int) (v4_2 : Int) : Option Bool :=
  bif decide (v4_2 < v4_1) then
  bif decide (v4_2 > (0 : Int)) then
    bif decide (0 ≤ v4_2) then
      bif decide (v4_2 < (x0.length : Int)) then
        bif decide (0 ≤ (IntKind.i64.wrap (v4_2 - (1 : Int)))) then
          bif decide ((IntKind.i64.wrap (v4_2 - (1 : Int))) < (x0.length : Int)) then
            bif decide ((x0.getD v4_2.toNat (0 : Int)) ≤ (x0.getD ((IntKind.i64.wrap (v4_2 - (1 : Int))).toNat) (0 : Int))) then
              some false
            else r4 v4_1 (IntKind.i64.wrap (v4_2 + (1 : Int)))
          else none
        else none
      else none
    else none
  else r4 v4_1 (IntKind.i64.wrap (v4_2 + (1 : Int)))
else some true
noncomputable def impl_ascending.l4 (x0 : List Int) (n : Nat) : Int → Int → Option Bool :=
  V.iter (fun (r4 : Int → Int → Option Bool) => fun v4_1 v4_2 => impl_ascending.g4 x0 r4 v4_1 v4_2) (fun _ _ => none) n
theorem impl_ascending.u4 (x0 : List Int) (n : Nat) (v4_1 : Int) (v4_2 : Int) : impl_ascending.l4 x0 (n + 1) v4_1 v4_2 = impl_ascending.g4 x0 (impl_ascending.l4 x0 n) v4_1 v4_2 := rfl
noncomputable abbrev impl_ascending.b (x0 : List Int) (L4 : Int → Int → Option Bool) : Option Bool :=
  L4 (x0.length : Int) (0 : Int)
noncomputable def impl_ascending (x0 : List Int) : Option Bool :=
  impl_ascending.b x0 (impl_ascending.l4 x0 V.KK)
noncomputable def impl_isKey (x0 : Int) : Option Bool :=
  (impl_InRange x0 (1 : Int) (99 : Int)).bind fun y1 =>
  some y1
noncomputable def impl_IsKeys (x0 : TKeys) : Option Bool :=
  (impl_InRange (x0.1.length : Int) (1 : Int) (4 : Int)).bind fun y1 =>
  bif y1 then
    (impl_ascending x0.1).bind fun y2 =>
      bif y2 then
        bif decide (0 ≤ (0 : Int)) then
          bif decide ((0 : Int) < (x0.1.length : Int)) then
            (impl_isKey (x0.1.getD ((0 : Int).toNat) (0 : Int))).bind fun y3 =>
              bif y3 then
                bif decide (0 ≤ (IntKind.i64.wrap ((x0.1.length : Int) - (1 : Int)))) then
                  bif decide ((IntKind.i64.wrap ((x0.1.length : Int) - (1 : Int))) < (x0.1.length : Int)) then
                    (impl_isKey (x0.1.getD ((IntKind.i64.wrap ((x0.1.length : Int) - (1 : Int))).toNat) (0 : Int))).bind fun y4 =>
                      bif y4 then
                        (impl_InRange x0.2 (1 : Int) (x0.1.length : Int)).bind fun y5 =>
                          some y5
                      else some false
                  else none
                else none
              else some false
          else none
        else none
      else some false
  else some false
noncomputable def impl_NoKeys (x0 : TKeys) : Option Bool :=
  bif x0.2 == (0 : Int) then
  some ((x0.1.length : Int) == (0 : Int))
else some false
noncomputable def impl_isMaybe (x0 : TKeys) : Option Bool :=
  (impl_NoKeys x0).bind fun y1 =>
  bif y1 then
    some true
  else
    (impl_IsKeys x0).bind fun y2 =>
      some y2
noncomputable def impl_isWait (x0 : Int) (x1 : TKeys) : Option Bool :=
  (impl_NoKeys x1).bind fun y1 =>
  bif y1 then
    some (x0 == (0 : Int))
  else
    (impl_InRange x0 (1 : Int) (500 : Int)).bind fun y2 =>
      some y2
noncomputable def impl_IsHead (x0 : THead) : Option Bool :=
  (impl_isDigest (Head_Zone x0)).bind fun y1 =>
  bif y1 then
    (impl_isDigest (Head_Root x0)).bind fun y2 =>
      bif y2 then
        (impl_isDigest (Head_Prev x0)).bind fun y3 =>
          bif y3 then
            (impl_InRange (Head_Epoch x0) (0 : Int) (200 : Int)).bind fun y4 =>
              bif y4 then
                (impl_InRange (Head_Kind x0) (1 : Int) (3 : Int)).bind fun y5 =>
                  bif y5 then
                    (impl_isSpan x0).bind fun y6 =>
                      bif y6 then
                        (impl_InRange (Head_Count x0) (0 : Int) (12 : Int)).bind fun y7 =>
                          bif y7 then
                            (impl_IsKeys (Head_Keys x0)).bind fun y8 =>
                              bif y8 then
                                (impl_isMaybe (Head_Heirs x0)).bind fun y9 =>
                                  bif y9 then
                                    (impl_isMaybe (Head_Judge x0)).bind fun y10 =>
                                      bif y10 then
                                        (impl_isWait (Head_Wait x0) (Head_Heirs x0)).bind fun y11 =>
                                          bif y11 then
                                            bif (Head_Frozen x0) then
                                              (impl_NoKeys (Head_Judge x0)).bind fun y12 =>
                                                some (!y12)
                                            else some true
                                          else some false
                                      else some false
                                  else some false
                              else some false
                          else some false
                      else some false
                  else some false
              else some false
          else some false
      else some false
  else some false
noncomputable abbrev impl_FirstHead.g7 (x1 : Int) (x3 : Int) (y1 : Int) (y2 : Int) (y3 : Int) (y4 : TKeys) (v7_0 : Bool) (v7_19 : Int) : Option TRHeadBool :=
  bif v7_0 then
  some dRHeadBool
else some (RHeadBool_mk (Head_mk y1 (0 : Int) (1 : Int) x3 y2 v7_19 y3 x1 y4 dKeys (0 : Int) dKeys false) true)
noncomputable def impl_FirstHead.l7 (x1 : Int) (x3 : Int) (y1 : Int) (y2 : Int) (y3 : Int) (y4 : TKeys) (v7_0 : Bool) (v7_19 : Int) : Option TRHeadBool :=
  impl_FirstHead.g7 x1 x3 y1 y2 y3 y4 v7_0 v7_19
noncomputable abbrev impl_FirstHead.b (x0 : TKeys) (x1 : Int) (x2 : List TEntry) (x3 : Int) (x4 : Int) (L7 : Int → Int → Int → TKeys → Bool → Int → Option TRHeadBool) : Option TRHeadBool :=
  (impl_ZoneOf x0 x1).bind fun y1 =>
  (impl_until x3 x4).bind fun y2 =>
    (impl_RootOf x2).bind fun y3 =>
      (impl_copyKeys x0).bind fun y4 =>
        (impl_AreEntries x2).bind fun y5 =>
          bif !y5 then
            L7 y1 y2 y3 y4 true (x2.length : Int)
          else
            (impl_IsHead (Head_mk y1 (0 : Int) (1 : Int) x3 y2 (x2.length : Int) y3 x1 y4 dKeys (0 : Int) dKeys false)).bind fun y6 =>
              L7 y1 y2 y3 y4 (!y6) (x2.length : Int)
noncomputable def impl_FirstHead (x0 : TKeys) (x1 : Int) (x2 : List TEntry) (x3 : Int) (x4 : Int) : Option TRHeadBool :=
  impl_FirstHead.b x0 x1 x2 x3 x4 (fun y1 y2 y3 y4 => impl_FirstHead.l7 x1 x3 y1 y2 y3 y4)
noncomputable def impl_copyHead (x0 : THead) : Option THead :=
  (impl_copyKeys (Head_Keys x0)).bind fun y1 =>
  (impl_copyKeys (Head_Heirs x0)).bind fun y2 =>
    (impl_copyKeys (Head_Judge x0)).bind fun y3 =>
      some (Head_mk (Head_Zone x0) (Head_Epoch x0) (Head_Kind x0) (Head_Time x0) (Head_Until x0) (Head_Count x0) (Head_Root x0) (Head_Prev x0) y1 y2 (Head_Wait x0) y3 (Head_Frozen x0))
noncomputable def impl_bit (x0 : Bool) : Option Int :=
  bif x0 then
  some (1 : Int)
else some (0 : Int)
noncomputable abbrev slices_Grow_int.g7 (x1 : Int) : Option (List Int) :=
  bif decide ((IntKind.i64.wrap (x1 - (IntKind.i64.wrap ((0 : Int) - ((0 : Nat) : Int))))) > (0 : Int)) then
  bif decide (0 ≤ (IntKind.i64.wrap (x1 - (IntKind.i64.wrap ((0 : Int) - ((0 : Nat) : Int)))))) then
    bif decide ((IntKind.i64.wrap (x1 - (IntKind.i64.wrap ((0 : Int) - ((0 : Nat) : Int))))) < (68719476736 : Int)) then
      bif decide (0 ≤ (0 : Int)) then
        bif decide ((0 : Int) ≤ ((0 : Nat) : Int)) then
          bif decide (((0 : Nat) : Int) ≤ (((List.replicate ((IntKind.i64.wrap (x1 - (IntKind.i64.wrap ((0 : Int) - ((0 : Nat) : Int))))).toNat) (0 : Int)).length) : Int)) then
            some ((List.replicate ((IntKind.i64.wrap (x1 - (IntKind.i64.wrap ((0 : Int) - ((0 : Nat) : Int))))).toNat) (0 : Int)).take (((0 : Nat) : Int).toNat))
          else none
        else none
      else none
    else none
  else none
else some []
noncomputable def slices_Grow_int.l7 (x1 : Int) : Option (List Int) :=
  slices_Grow_int.g7 x1
noncomputable abbrev slices_Grow_int.b (x0 : List Int) (x1 : Int) (L7 : Option (List Int)) : Option (List Int) :=
  bif decide (x1 < (0 : Int)) then
  none
else L7
noncomputable def slices_Grow_int (x0 : List Int) (x1 : Int) : Option (List Int) :=
  slices_Grow_int.b x0 x1 (slices_Grow_int.l7 x1)
noncomputable abbrev slices_Concat_int.g22 (x0 : List (List Int)) (r22 : Int → Int → (List Int) → Option (List Int)) (v22_1 : Int) (v22_2 : Int) (v22_3 : List Int) : Option (List Int) :=
  bif decide (v22_2 < v22_1) then
  bif decide (0 ≤ v22_2) then
    bif decide (v22_2 < (x0.length : Int)) then
      bif decide (v22_3.length + (x0.getD v22_2.toNat []).length < 68719476736) then
        r22 v22_1 (IntKind.i64.wrap (v22_2 + (1 : Int))) (v22_3 ++ (x0.getD v22_2.toNat []))
      else none
    else none
  else none
else some v22_3
noncomputable def slices_Concat_int.l22 (x0 : List (List Int)) (n : Nat) : Int → Int → (List Int) → Option (List Int) :=
  V.iter (fun (r22 : Int → Int → (List Int) → Option (List Int)) => fun v22_1 v22_2 v22_3 => slices_Concat_int.g22 x0 r22 v22_1 v22_2 v22_3) (fun _ _ _ => none) n
theorem slices_Concat_int.u22 (x0 : List (List Int)) (n : Nat) (v22_1 : Int) (v22_2 : Int) (v22_3 : List Int) : slices_Concat_int.l22 x0 (n + 1) v22_1 v22_2 v22_3 = slices_Concat_int.g22 x0 (slices_Concat_int.l22 x0 n) v22_1 v22_2 v22_3 := rfl
noncomputable abbrev slices_Concat_int.g6 (x0 : List (List Int)) (r6 : Int → Int → Int → Option (List Int)) (L22 : Int → Int → (List Int) → Option (List Int)) (v6_1 : Int) (v6_3 : Int) (v6_4 : Int) : Option (List Int) :=
  bif decide (v6_4 < v6_3) then
  bif decide (0 ≤ v6_4) then
    bif decide (v6_4 < (x0.length : Int)) then
      bif decide ((IntKind.i64.wrap (v6_1 + ((x0.getD v6_4.toNat []).length : Int))) < (0 : Int)) then
        none
      else r6 (IntKind.i64.wrap (v6_1 + ((x0.getD v6_4.toNat []).length : Int))) v6_3 (IntKind.i64.wrap (v6_4 + (1 : Int)))
    else none
  else none
else
  (slices_Grow_int [] v6_1).bind fun y1 =>
    L22 (x0.length : Int) (0 : Int) y1
noncomputable def slices_Concat_int.l6 (x0 : List (List Int)) (n : Nat) : Int → Int → Int → Option (List Int) :=
  V.iter (fun (r6 : Int → Int → Int → Option (List Int)) => fun v6_1 v6_3 v6_4 => slices_Concat_int.g6 x0 r6 (slices_Concat_int.l22 x0 V.KK) v6_1 v6_3 v6_4) (fun _ _ _ => none) n
theorem slices_Concat_int.u6 (x0 : List (List Int)) (n : Nat) (v6_1 : Int) (v6_3 : Int) (v6_4 : Int) : slices_Concat_int.l6 x0 (n + 1) v6_1 v6_3 v6_4 = slices_Concat_int.g6 x0 (slices_Concat_int.l6 x0 n) (slices_Concat_int.l22 x0 V.KK) v6_1 v6_3 v6_4 := rfl
noncomputable abbrev slices_Concat_int.b (x0 : List (List Int)) (L6 : Int → Int → Int → Option (List Int)) : Option (List Int) :=
  L6 (0 : Int) (x0.length : Int) (0 : Int)
noncomputable def slices_Concat_int (x0 : List (List Int)) : Option (List Int) :=
  slices_Concat_int.b x0 (slices_Concat_int.l6 x0 V.KK)
noncomputable def impl_HeadInts (x0 : THead) : Option (List Int) :=
  (impl_KeysInts (Head_Keys x0)).bind fun y1 =>
  (impl_KeysInts (Head_Heirs x0)).bind fun y2 =>
    (impl_KeysInts (Head_Judge x0)).bind fun y3 =>
      (impl_bit (Head_Frozen x0)).bind fun y4 =>
        (slices_Concat_int [[(Head_Zone x0), (Head_Epoch x0), (Head_Kind x0), (Head_Time x0), (Head_Until x0), (Head_Count x0), (Head_Root x0), (Head_Prev x0)], y1, y2, [(Head_Wait x0)], y3, [y4]]).bind fun y5 =>
          some y5
noncomputable abbrev slices_Index_int.g4 (x0 : List Int) (x1 : Int) (r4 : Int → Int → Option Int) (v4_2 : Int) (v4_3 : Int) : Option Int :=
  bif decide (v4_3 < v4_2) then
  bif decide (0 ≤ v4_3) then
    bif decide (v4_3 < (x0.length : Int)) then
      bif x1 == (x0.getD v4_3.toNat (0 : Int)) then
        some v4_3
      else r4 v4_2 (IntKind.i64.wrap (v4_3 + (1 : Int)))
    else none
  else none
else some (-1 : Int)
noncomputable def slices_Index_int.l4 (x0 : List Int) (x1 : Int) (n : Nat) : Int → Int → Option Int :=
  V.iter (fun (r4 : Int → Int → Option Int) => fun v4_2 v4_3 => slices_Index_int.g4 x0 x1 r4 v4_2 v4_3) (fun _ _ => none) n
theorem slices_Index_int.u4 (x0 : List Int) (x1 : Int) (n : Nat) (v4_2 : Int) (v4_3 : Int) : slices_Index_int.l4 x0 x1 (n + 1) v4_2 v4_3 = slices_Index_int.g4 x0 x1 (slices_Index_int.l4 x0 x1 n) v4_2 v4_3 := rfl
noncomputable abbrev slices_Index_int.b (x0 : List Int) (x1 : Int) (L4 : Int → Int → Option Int) : Option Int :=
  L4 (x0.length : Int) (0 : Int)
noncomputable def slices_Index_int (x0 : List Int) (x1 : Int) : Option Int :=
  slices_Index_int.b x0 x1 (slices_Index_int.l4 x0 x1 V.KK)
noncomputable def slices_Contains_int (x0 : List Int) (x1 : Int) : Option Bool :=
  (slices_Index_int x0 x1).bind fun y1 =>
  some (decide (y1 ≥ (0 : Int)))
noncomputable def impl_KeyedHash (x0 : Int) (x1 : List Int) : Option Int :=
  (slices_Concat_int [[x0], x1, [x0]]).bind fun y1 =>
  (impl_Hash y1).bind fun y2 =>
    some y2
noncomputable def impl_TagOf (x0 : Int) (x1 : List Int) : Option Int :=
  bif decide ([(223 : Int)].length + x1.length < 68719476736) then
  (impl_KeyedHash x0 ([(223 : Int)] ++ x1)).bind fun y1 =>
    some y1
else none
noncomputable abbrev impl_SignBy.g6 (x0 : List Int) (x1 : TKeys) (x2 : List Int) (r6 : Int → Int → (List TSig) → Option (List TSig)) (v6_3 : Int) (v6_4 : Int) (v6_5 : List TSig) : Option (List TSig) :=
  bif decide (v6_4 < v6_3) then
  bif decide (0 ≤ v6_4) then
    bif decide (v6_4 < (x1.1.length : Int)) then
      (slices_Contains_int x0 (x1.1.getD v6_4.toNat (0 : Int))).bind fun y1 =>
        bif y1 then
          (impl_TagOf (x1.1.getD v6_4.toNat (0 : Int)) x2).bind fun y2 =>
            bif decide (v6_5.length + [(x1.1.getD v6_4.toNat (0 : Int), y2)].length < 68719476736) then
              r6 v6_3 (IntKind.i64.wrap (v6_4 + (1 : Int))) (v6_5 ++ [(x1.1.getD v6_4.toNat (0 : Int), y2)])
            else none
        else r6 v6_3 (IntKind.i64.wrap (v6_4 + (1 : Int))) v6_5
    else none
  else none
else some v6_5
noncomputable def impl_SignBy.l6 (x0 : List Int) (x1 : TKeys) (x2 : List Int) (n : Nat) : Int → Int → (List TSig) → Option (List TSig) :=
  V.iter (fun (r6 : Int → Int → (List TSig) → Option (List TSig)) => fun v6_3 v6_4 v6_5 => impl_SignBy.g6 x0 x1 x2 r6 v6_3 v6_4 v6_5) (fun _ _ _ => none) n
theorem impl_SignBy.u6 (x0 : List Int) (x1 : TKeys) (x2 : List Int) (n : Nat) (v6_3 : Int) (v6_4 : Int) (v6_5 : List TSig) : impl_SignBy.l6 x0 x1 x2 (n + 1) v6_3 v6_4 v6_5 = impl_SignBy.g6 x0 x1 x2 (impl_SignBy.l6 x0 x1 x2 n) v6_3 v6_4 v6_5 := rfl
noncomputable abbrev impl_SignBy.b (x0 : List Int) (x1 : TKeys) (x2 : List Int) (L6 : Int → Int → (List TSig) → Option (List TSig)) : Option (List TSig) :=
  L6 (x1.1.length : Int) (0 : Int) []
noncomputable def impl_SignBy (x0 : List Int) (x1 : TKeys) (x2 : List Int) : Option (List TSig) :=
  impl_SignBy.b x0 x1 x2 (impl_SignBy.l6 x0 x1 x2 V.KK)
noncomputable def impl_SignHead (x0 : List Int) (x1 : TKeys) (x2 : THead) : Option TSigned :=
  (impl_copyHead x2).bind fun y1 =>
  (impl_HeadInts x2).bind fun y2 =>
    (impl_SignBy x0 x1 y2).bind fun y3 =>
      some (Signed_mk y1 y3)
noncomputable def slices_Clone_string (x0 : List ByteArray) : Option (List ByteArray) :=
  bif x0.isEmpty then
  V.both (some [])
    (bif decide (([] : List ByteArray).length + x0.length < 68719476736) then
      some ([] ++ x0)
    else none)
else
  bif decide (([] : List ByteArray).length + x0.length < 68719476736) then
    some ([] ++ x0)
  else none
noncomputable def impl_copyEntry (x0 : TEntry) : Option TEntry :=
  (slices_Clone_string x0.2.2.2).bind fun y1 =>
  some (x0.1, x0.2.1, x0.2.2.1, y1)
noncomputable abbrev impl_copyEntries.g6 (x0 : List TEntry) (r6 : Int → Int → (List TEntry) → Option (List TEntry)) (v6_1 : Int) (v6_2 : Int) (v6_3 : List TEntry) : Option (List TEntry) :=
  bif decide (v6_2 < v6_1) then
  bif decide (0 ≤ v6_2) then
    bif decide (v6_2 < (x0.length : Int)) then
      (impl_copyEntry (x0.getD v6_2.toNat dEntry)).bind fun y1 =>
        bif decide (v6_3.length + [y1].length < 68719476736) then
          r6 v6_1 (IntKind.i64.wrap (v6_2 + (1 : Int))) (v6_3 ++ [y1])
        else none
    else none
  else none
else some v6_3
noncomputable def impl_copyEntries.l6 (x0 : List TEntry) (n : Nat) : Int → Int → (List TEntry) → Option (List TEntry) :=
  V.iter (fun (r6 : Int → Int → (List TEntry) → Option (List TEntry)) => fun v6_1 v6_2 v6_3 => impl_copyEntries.g6 x0 r6 v6_1 v6_2 v6_3) (fun _ _ _ => none) n
theorem impl_copyEntries.u6 (x0 : List TEntry) (n : Nat) (v6_1 : Int) (v6_2 : Int) (v6_3 : List TEntry) : impl_copyEntries.l6 x0 (n + 1) v6_1 v6_2 v6_3 = impl_copyEntries.g6 x0 (impl_copyEntries.l6 x0 n) v6_1 v6_2 v6_3 := rfl
noncomputable abbrev impl_copyEntries.b (x0 : List TEntry) (L6 : Int → Int → (List TEntry) → Option (List TEntry)) : Option (List TEntry) :=
  L6 (x0.length : Int) (0 : Int) []
noncomputable def impl_copyEntries (x0 : List TEntry) : Option (List TEntry) :=
  impl_copyEntries.b x0 (impl_copyEntries.l6 x0 V.KK)
noncomputable def impl_NewZone (x0 : TKeys) (x1 : Int) (x2 : List TEntry) (x3 : Int) (x4 : Int) : Option TRZoneBool :=
  (impl_FirstHead x0 x1 x2 x3 x4).bind fun y1 =>
  bif !(RHeadBool_r1 y1) then
    some dRZoneBool
  else
    (impl_SignHead x0.1 x0 (RHeadBool_r0 y1)).bind fun y2 =>
      (impl_copyEntries x2).bind fun y3 =>
        some (RZoneBool_mk ([y2], y3) true)
noncomputable abbrev laws_eqIntS.g8 (x0 : List Int) (x1 : List Int) (r8 : Int → Option Bool) (v8_2 : Int) : Option Bool :=
  bif decide (v8_2 < (x0.length : Int)) then
  bif decide (0 ≤ v8_2) then
    bif decide (v8_2 < (x0.length : Int)) then
      bif decide (0 ≤ v8_2) then
        bif decide (v8_2 < (x1.length : Int)) then
          bif (x0.getD v8_2.toNat (0 : Int)) != (x1.getD v8_2.toNat (0 : Int)) then
            some false
          else r8 (IntKind.i64.wrap (v8_2 + (1 : Int)))
        else none
      else none
    else none
  else none
else some true
noncomputable def laws_eqIntS.l8 (x0 : List Int) (x1 : List Int) (n : Nat) : Int → Option Bool :=
  V.iter (fun (r8 : Int → Option Bool) => fun v8_2 => laws_eqIntS.g8 x0 x1 r8 v8_2) (fun _ => none) n
theorem laws_eqIntS.u8 (x0 : List Int) (x1 : List Int) (n : Nat) (v8_2 : Int) : laws_eqIntS.l8 x0 x1 (n + 1) v8_2 = laws_eqIntS.g8 x0 x1 (laws_eqIntS.l8 x0 x1 n) v8_2 := rfl
noncomputable abbrev laws_eqIntS.b (x0 : List Int) (x1 : List Int) (L8 : Int → Option Bool) : Option Bool :=
  bif (x0.length : Int) != (x1.length : Int) then
  some false
else L8 (0 : Int)
noncomputable def laws_eqIntS (x0 : List Int) (x1 : List Int) : Option Bool :=
  laws_eqIntS.b x0 x1 (laws_eqIntS.l8 x0 x1 V.KK)
noncomputable def laws_eqKeys (x0 : TKeys) (x1 : TKeys) : Option Bool :=
  (laws_eqIntS x0.1 x1.1).bind fun y1 =>
  bif !y1 then
    some false
  else
    bif x0.2 != x1.2 then
      some false
    else some true
noncomputable def laws_eqHead (x0 : THead) (x1 : THead) : Option Bool :=
  bif (Head_Zone x0) != (Head_Zone x1) then
  some false
else
  bif (Head_Epoch x0) != (Head_Epoch x1) then
    some false
  else
    bif (Head_Kind x0) != (Head_Kind x1) then
      some false
    else
      bif (Head_Time x0) != (Head_Time x1) then
        some false
      else
        bif (Head_Until x0) != (Head_Until x1) then
          some false
        else
          bif (Head_Count x0) != (Head_Count x1) then
            some false
          else
            bif (Head_Root x0) != (Head_Root x1) then
              some false
            else
              bif (Head_Prev x0) != (Head_Prev x1) then
                some false
              else
                (laws_eqKeys (Head_Keys x0) (Head_Keys x1)).bind fun y1 =>
                  bif !y1 then
                    some false
                  else
                    (laws_eqKeys (Head_Heirs x0) (Head_Heirs x1)).bind fun y2 =>
                      bif !y2 then
                        some false
                      else
                        bif (Head_Wait x0) != (Head_Wait x1) then
                          some false
                        else
                          (laws_eqKeys (Head_Judge x0) (Head_Judge x1)).bind fun y3 =>
                            bif !y3 then
                              some false
                            else
                              bif !((Head_Frozen x0) == (Head_Frozen x1)) then
                                some false
                              else some true
noncomputable def laws_eqSig (x0 : TSig) (x1 : TSig) : Option Bool :=
  bif x0.1 != x1.1 then
  some false
else
  bif x0.2 != x1.2 then
    some false
  else some true
noncomputable abbrev laws_eqSigS.g8 (x0 : List TSig) (x1 : List TSig) (r8 : Int → Option Bool) (v8_2 : Int) : Option Bool :=
  bif decide (v8_2 < (x0.length : Int)) then
  bif decide (0 ≤ v8_2) then
    bif decide (v8_2 < (x0.length : Int)) then
      bif decide (0 ≤ v8_2) then
        bif decide (v8_2 < (x1.length : Int)) then
          (laws_eqSig (x0.getD v8_2.toNat dSig) (x1.getD v8_2.toNat dSig)).bind fun y1 =>
            bif !y1 then
              some false
            else r8 (IntKind.i64.wrap (v8_2 + (1 : Int)))
        else none
      else none
    else none
  else none
else some true
noncomputable def laws_eqSigS.l8 (x0 : List TSig) (x1 : List TSig) (n : Nat) : Int → Option Bool :=
  V.iter (fun (r8 : Int → Option Bool) => fun v8_2 => laws_eqSigS.g8 x0 x1 r8 v8_2) (fun _ => none) n
theorem laws_eqSigS.u8 (x0 : List TSig) (x1 : List TSig) (n : Nat) (v8_2 : Int) : laws_eqSigS.l8 x0 x1 (n + 1) v8_2 = laws_eqSigS.g8 x0 x1 (laws_eqSigS.l8 x0 x1 n) v8_2 := rfl
noncomputable abbrev laws_eqSigS.b (x0 : List TSig) (x1 : List TSig) (L8 : Int → Option Bool) : Option Bool :=
  bif (x0.length : Int) != (x1.length : Int) then
  some false
else L8 (0 : Int)
noncomputable def laws_eqSigS (x0 : List TSig) (x1 : List TSig) : Option Bool :=
  laws_eqSigS.b x0 x1 (laws_eqSigS.l8 x0 x1 V.KK)
noncomputable def laws_eqSigned (x0 : TSigned) (x1 : TSigned) : Option Bool :=
  (laws_eqHead (Signed_Head x0) (Signed_Head x1)).bind fun y1 =>
  bif !y1 then
    some false
  else
    (laws_eqSigS (Signed_Sigs x0) (Signed_Sigs x1)).bind fun y2 =>
      bif !y2 then
        some false
      else some true
noncomputable abbrev laws_eqSignedS.g8 (x0 : List TSigned) (x1 : List TSigned) (r8 : Int → Option Bool) (v8_2 : Int) : Option Bool :=
  bif decide (v8_2 < (x0.length : Int)) then
  bif decide (0 ≤ v8_2) then
    bif decide (v8_2 < (x0.length : Int)) then
      bif decide (0 ≤ v8_2) then
        bif decide (v8_2 < (x1.length : Int)) then
          (laws_eqSigned (x0.getD v8_2.toNat dSigned) (x1.getD v8_2.toNat dSigned)).bind fun y1 =>
            bif !y1 then
              some false
            else r8 (IntKind.i64.wrap (v8_2 + (1 : Int)))
        else none
      else none
    else none
  else none
else some true
noncomputable def laws_eqSignedS.l8 (x0 : List TSigned) (x1 : List TSigned) (n : Nat) : Int → Option Bool :=
  V.iter (fun (r8 : Int → Option Bool) => fun v8_2 => laws_eqSignedS.g8 x0 x1 r8 v8_2) (fun _ => none) n
theorem laws_eqSignedS.u8 (x0 : List TSigned) (x1 : List TSigned) (n : Nat) (v8_2 : Int) : laws_eqSignedS.l8 x0 x1 (n + 1) v8_2 = laws_eqSignedS.g8 x0 x1 (laws_eqSignedS.l8 x0 x1 n) v8_2 := rfl
noncomputable abbrev laws_eqSignedS.b (x0 : List TSigned) (x1 : List TSigned) (L8 : Int → Option Bool) : Option Bool :=
  bif (x0.length : Int) != (x1.length : Int) then
  some false
else L8 (0 : Int)
noncomputable def laws_eqSignedS (x0 : List TSigned) (x1 : List TSigned) : Option Bool :=
  laws_eqSignedS.b x0 x1 (laws_eqSignedS.l8 x0 x1 V.KK)
noncomputable abbrev laws_eqStringS.g8 (x0 : List ByteArray) (x1 : List ByteArray) (r8 : Int → Option Bool) (v8_2 : Int) : Option Bool :=
  bif decide (v8_2 < (x0.length : Int)) then
  bif decide (0 ≤ v8_2) then
    bif decide (v8_2 < (x0.length : Int)) then
      bif decide (0 ≤ v8_2) then
        bif decide (v8_2 < (x1.length : Int)) then
          bif !((x0.getD v8_2.toNat (⟨#[]⟩ : ByteArray)).toList == (x1.getD v8_2.toNat (⟨#[]⟩ : ByteArray)).toList) then
            some false
          else r8 (IntKind.i64.wrap (v8_2 + (1 : Int)))
        else none
      else none
    else none
  else none
else some true
noncomputable def laws_eqStringS.l8 (x0 : List ByteArray) (x1 : List ByteArray) (n : Nat) : Int → Option Bool :=
  V.iter (fun (r8 : Int → Option Bool) => fun v8_2 => laws_eqStringS.g8 x0 x1 r8 v8_2) (fun _ => none) n
theorem laws_eqStringS.u8 (x0 : List ByteArray) (x1 : List ByteArray) (n : Nat) (v8_2 : Int) : laws_eqStringS.l8 x0 x1 (n + 1) v8_2 = laws_eqStringS.g8 x0 x1 (laws_eqStringS.l8 x0 x1 n) v8_2 := rfl
noncomputable abbrev laws_eqStringS.b (x0 : List ByteArray) (x1 : List ByteArray) (L8 : Int → Option Bool) : Option Bool :=
  bif (x0.length : Int) != (x1.length : Int) then
  some false
else L8 (0 : Int)
noncomputable def laws_eqStringS (x0 : List ByteArray) (x1 : List ByteArray) : Option Bool :=
  laws_eqStringS.b x0 x1 (laws_eqStringS.l8 x0 x1 V.KK)
noncomputable def laws_eqEntry (x0 : TEntry) (x1 : TEntry) : Option Bool :=
  bif !(x0.1.toList == x1.1.toList) then
  some false
else
  bif x0.2.1 != x1.2.1 then
    some false
  else
    bif x0.2.2.1 != x1.2.2.1 then
      some false
    else
      (laws_eqStringS x0.2.2.2 x1.2.2.2).bind fun y1 =>
        bif !y1 then
          some false
        else some true
noncomputable abbrev laws_eqEntryS.g8 (x0 : List TEntry) (x1 : List TEntry) (r8 : Int → Option Bool) (v8_2 : Int) : Option Bool :=
  bif decide (v8_2 < (x0.length : Int)) then
  bif decide (0 ≤ v8_2) then
    bif decide (v8_2 < (x0.length : Int)) then
      bif decide (0 ≤ v8_2) then
        bif decide (v8_2 < (x1.length : Int)) then
          (laws_eqEntry (x0.getD v8_2.toNat dEntry) (x1.getD v8_2.toNat dEntry)).bind fun y1 =>
            bif !y1 then
              some false
            else r8 (IntKind.i64.wrap (v8_2 + (1 : Int)))
        else none
      else none
    else none
  else none
else some true
noncomputable def laws_eqEntryS.l8 (x0 : List TEntry) (x1 : List TEntry) (n : Nat) : Int → Option Bool :=
  V.iter (fun (r8 : Int → Option Bool) => fun v8_2 => laws_eqEntryS.g8 x0 x1 r8 v8_2) (fun _ => none) n
theorem laws_eqEntryS.u8 (x0 : List TEntry) (x1 : List TEntry) (n : Nat) (v8_2 : Int) : laws_eqEntryS.l8 x0 x1 (n + 1) v8_2 = laws_eqEntryS.g8 x0 x1 (laws_eqEntryS.l8 x0 x1 n) v8_2 := rfl
noncomputable abbrev laws_eqEntryS.b (x0 : List TEntry) (x1 : List TEntry) (L8 : Int → Option Bool) : Option Bool :=
  bif (x0.length : Int) != (x1.length : Int) then
  some false
else L8 (0 : Int)
noncomputable def laws_eqEntryS (x0 : List TEntry) (x1 : List TEntry) : Option Bool :=
  laws_eqEntryS.b x0 x1 (laws_eqEntryS.l8 x0 x1 V.KK)
noncomputable def laws_eqZone (x0 : TZone) (x1 : TZone) : Option Bool :=
  (laws_eqSignedS x0.1 x1.1).bind fun y1 =>
  bif !y1 then
    some false
  else
    (laws_eqEntryS x0.2 x1.2).bind fun y2 =>
      bif !y2 then
        some false
      else some true
noncomputable abbrev laws_markIntS.g4 (r4 : Int → Int → (List Int) → Option TKeys) (v4_0 : Int) (v4_1 : Int) (v4_2 : List Int) : Option TKeys :=
  bif decide (v4_1 < (v4_2.length : Int)) then
  bif decide (0 ≤ v4_1) then
    bif decide (v4_1 < (v4_2.length : Int)) then
      r4 (IntKind.i64.wrap (v4_0 + (1 : Int))) (IntKind.i64.wrap (v4_1 + (1 : Int))) (v4_2.set v4_1.toNat v4_0)
    else none
  else none
else some (v4_2, v4_0)
noncomputable def laws_markIntS.l4 (n : Nat) : Int → Int → (List Int) → Option TKeys :=
  V.iter (fun (r4 : Int → Int → (List Int) → Option TKeys) => fun v4_0 v4_1 v4_2 => laws_markIntS.g4 r4 v4_0 v4_1 v4_2) (fun _ _ _ => none) n
theorem laws_markIntS.u4 (n : Nat) (v4_0 : Int) (v4_1 : Int) (v4_2 : List Int) : laws_markIntS.l4 (n + 1) v4_0 v4_1 v4_2 = laws_markIntS.g4 (laws_markIntS.l4 n) v4_0 v4_1 v4_2 := rfl
noncomputable abbrev laws_markIntS.b (x0 : List Int) (x1 : Int) (L4 : Int → Int → (List Int) → Option TKeys) : Option TKeys :=
  L4 x1 (0 : Int) x0
noncomputable def laws_markIntS (x0 : List Int) (x1 : Int) : Option TKeys :=
  laws_markIntS.b x0 x1 (laws_markIntS.l4 V.KK)
noncomputable def laws_markKeys (x0 : TKeys) (x1 : Int) : Option TKeys :=
  (laws_markIntS x0.1 x1).bind fun y1 =>
  some y1
noncomputable abbrev laws_markText.g8 (r8 : Int → ByteArray → Option ByteArray) (v8_0 : Int) (v8_1 : ByteArray) : Option ByteArray :=
  bif decide (v8_0 > (0 : Int)) then
  bif ((10 : Int) == (0 : Int)) then
    none
  else
    bif decide ((V.strOf [IntKind.u8.wrap (IntKind.i64.wrap ((48 : Int) + (Int.tmod v8_0 (10 : Int))))]).size + v8_1.size < 281474976710656) then
      bif ((10 : Int) == (0 : Int)) then
        none
      else r8 (IntKind.i64.wrap (Int.tdiv v8_0 (10 : Int))) ((V.strOf [IntKind.u8.wrap (IntKind.i64.wrap ((48 : Int) + (Int.tmod v8_0 (10 : Int))))]) ++ v8_1)
    else none
else
  bif decide ((⟨#[109]⟩ : ByteArray).size + v8_1.size < 281474976710656) then
    some ((⟨#[109]⟩ : ByteArray) ++ v8_1)
  else none
noncomputable def laws_markText.l8 (n : Nat) : Int → ByteArray → Option ByteArray :=
  V.iter (fun (r8 : Int → ByteArray → Option ByteArray) => fun v8_0 v8_1 => laws_markText.g8 r8 v8_0 v8_1) (fun _ _ => none) n
theorem laws_markText.u8 (n : Nat) (v8_0 : Int) (v8_1 : ByteArray) : laws_markText.l8 (n + 1) v8_0 v8_1 = laws_markText.g8 (laws_markText.l8 n) v8_0 v8_1 := rfl
noncomputable abbrev laws_markText.b (x0 : Int) (L8 : Int → ByteArray → Option ByteArray) : Option ByteArray :=
  bif decide (x0 ≤ (0 : Int)) then
  some (⟨#[109, 48]⟩ : ByteArray)
else L8 x0 (⟨#[]⟩ : ByteArray)
noncomputable def laws_markText (x0 : Int) : Option ByteArray :=
  laws_markText.b x0 (laws_markText.l8 V.KK)
noncomputable abbrev laws_markStringS.g4 (r4 : Int → Int → (List ByteArray) → Option (List ByteArray × Int)) (v4_0 : Int) (v4_1 : Int) (v4_2 : List ByteArray) : Option (List ByteArray × Int) :=
  bif decide (v4_1 < (v4_2.length : Int)) then
  (laws_markText v4_0).bind fun y1 =>
    bif decide (0 ≤ v4_1) then
      bif decide (v4_1 < (v4_2.length : Int)) then
        r4 (IntKind.i64.wrap (v4_0 + (1 : Int))) (IntKind.i64.wrap (v4_1 + (1 : Int))) (v4_2.set v4_1.toNat y1)
      else none
    else none
else some (v4_2, v4_0)
noncomputable def laws_markStringS.l4 (n : Nat) : Int → Int → (List ByteArray) → Option (List ByteArray × Int) :=
  V.iter (fun (r4 : Int → Int → (List ByteArray) → Option (List ByteArray × Int)) => fun v4_0 v4_1 v4_2 => laws_markStringS.g4 r4 v4_0 v4_1 v4_2) (fun _ _ _ => none) n
theorem laws_markStringS.u4 (n : Nat) (v4_0 : Int) (v4_1 : Int) (v4_2 : List ByteArray) : laws_markStringS.l4 (n + 1) v4_0 v4_1 v4_2 = laws_markStringS.g4 (laws_markStringS.l4 n) v4_0 v4_1 v4_2 := rfl
noncomputable abbrev laws_markStringS.b (x0 : List ByteArray) (x1 : Int) (L4 : Int → Int → (List ByteArray) → Option (List ByteArray × Int)) : Option (List ByteArray × Int) :=
  L4 x1 (0 : Int) x0
noncomputable def laws_markStringS (x0 : List ByteArray) (x1 : Int) : Option (List ByteArray × Int) :=
  laws_markStringS.b x0 x1 (laws_markStringS.l4 V.KK)
noncomputable abbrev laws_markEntryS.w1 (v4_0 : Int) (v4_1 : Int) (v4_2 : List TEntry) (y1 : ByteArray) : List TEntry :=
  V.upd (V.upd v4_2 v4_1.toNat (fun z => (y1, z.2))) v4_1.toNat (fun z => (z.1, IntKind.i64.wrap (v4_0 + (1 : Int)), z.2.2))
noncomputable abbrev laws_markEntryS.w2 (v4_0 : Int) (v4_1 : Int) (v4_2 : List TEntry) (y1 : ByteArray) : List TEntry :=
  V.upd (laws_markEntryS.w1 v4_0 v4_1 v4_2 y1) v4_1.toNat (fun z => (z.1, z.2.1, IntKind.i64.wrap ((IntKind.i64.wrap (v4_0 + (1 : Int))) + (1 : Int)), z.2.2.2))
noncomputable abbrev laws_markEntryS.w3 (v4_0 : Int) (v4_1 : Int) (v4_2 : List TEntry) (y1 : ByteArray) (y2 : List ByteArray × Int) : List TEntry :=
  V.upd (laws_markEntryS.w2 v4_0 v4_1 v4_2 y1) v4_1.toNat (fun z => (z.1, z.2.1, z.2.2.1, y2.1))
noncomputable abbrev laws_markEntryS.g4 (r4 : Int → Int → (List TEntry) → Option (List TEntry × Int)) (v4_0 : Int) (v4_1 : Int) (v4_2 : List TEntry) : Option (List TEntry × Int) :=
  bif decide (v4_1 < (v4_2.length : Int)) then
  (laws_markText v4_0).bind fun y1 =>
    bif decide (0 ≤ v4_1) then
      bif decide (v4_1 < (v4_2.length : Int)) then
        bif decide (0 ≤ v4_1) then
          bif decide (v4_1 < (((V.upd v4_2 v4_1.toNat (fun z => (y1, z.2))).length) : Int)) then
            bif decide (0 ≤ v4_1) then
              bif decide (v4_1 < (((laws_markEntryS.w1 v4_0 v4_1 v4_2 y1).length) : Int)) then
                bif decide (0 ≤ v4_1) then
                  bif decide (v4_1 < (((laws_markEntryS.w2 v4_0 v4_1 v4_2 y1).length) : Int)) then
                    (laws_markStringS ((laws_markEntryS.w2 v4_0 v4_1 v4_2 y1).getD v4_1.toNat dEntry).2.2.2 (IntKind.i64.wrap ((IntKind.i64.wrap ((IntKind.i64.wrap (v4_0 + (1 : Int))) + (1 : Int))) + (1 : Int)))).bind fun y2 =>
                      r4 y2.2 (IntKind.i64.wrap (v4_1 + (1 : Int))) (laws_markEntryS.w3 v4_0 v4_1 v4_2 y1 y2)
                  else none
                else none
              else none
            else none
          else none
        else none
      else none
    else none
else some (v4_2, v4_0)
noncomputable def laws_markEntryS.l4 (n : Nat) : Int → Int → (List TEntry) → Option (List TEntry × Int) :=
  V.iter (fun (r4 : Int → Int → (List TEntry) → Option (List TEntry × Int)) => fun v4_0 v4_1 v4_2 => laws_markEntryS.g4 r4 v4_0 v4_1 v4_2) (fun _ _ _ => none) n
theorem laws_markEntryS.u4 (n : Nat) (v4_0 : Int) (v4_1 : Int) (v4_2 : List TEntry) : laws_markEntryS.l4 (n + 1) v4_0 v4_1 v4_2 = laws_markEntryS.g4 (laws_markEntryS.l4 n) v4_0 v4_1 v4_2 := rfl
noncomputable abbrev laws_markEntryS.b (x0 : List TEntry) (x1 : Int) (L4 : Int → Int → (List TEntry) → Option (List TEntry × Int)) : Option (List TEntry × Int) :=
  L4 x1 (0 : Int) x0
noncomputable def laws_markEntryS (x0 : List TEntry) (x1 : Int) : Option (List TEntry × Int) :=
  laws_markEntryS.b x0 x1 (laws_markEntryS.l4 V.KK)
noncomputable abbrev laws_markSigS.w1 (v4_0 : Int) (v4_1 : Int) (v4_2 : List TSig) : List TSig :=
  V.upd (V.upd v4_2 v4_1.toNat (fun z => (v4_0, z.2))) v4_1.toNat (fun z => (z.1, IntKind.i64.wrap (v4_0 + (1 : Int))))
noncomputable abbrev laws_markSigS.g4 (r4 : Int → Int → (List TSig) → Option (List TSig × Int)) (v4_0 : Int) (v4_1 : Int) (v4_2 : List TSig) : Option (List TSig × Int) :=
  bif decide (v4_1 < (v4_2.length : Int)) then
  bif decide (0 ≤ v4_1) then
    bif decide (v4_1 < (v4_2.length : Int)) then
      bif decide (0 ≤ v4_1) then
        bif decide (v4_1 < (((V.upd v4_2 v4_1.toNat (fun z => (v4_0, z.2))).length) : Int)) then
          r4 (IntKind.i64.wrap ((IntKind.i64.wrap (v4_0 + (1 : Int))) + (1 : Int))) (IntKind.i64.wrap (v4_1 + (1 : Int))) (laws_markSigS.w1 v4_0 v4_1 v4_2)
        else none
      else none
    else none
  else none
else some (v4_2, v4_0)
noncomputable def laws_markSigS.l4 (n : Nat) : Int → Int → (List TSig) → Option (List TSig × Int) :=
  V.iter (fun (r4 : Int → Int → (List TSig) → Option (List TSig × Int)) => fun v4_0 v4_1 v4_2 => laws_markSigS.g4 r4 v4_0 v4_1 v4_2) (fun _ _ _ => none) n
theorem laws_markSigS.u4 (n : Nat) (v4_0 : Int) (v4_1 : Int) (v4_2 : List TSig) : laws_markSigS.l4 (n + 1) v4_0 v4_1 v4_2 = laws_markSigS.g4 (laws_markSigS.l4 n) v4_0 v4_1 v4_2 := rfl
noncomputable abbrev laws_markSigS.b (x0 : List TSig) (x1 : Int) (L4 : Int → Int → (List TSig) → Option (List TSig × Int)) : Option (List TSig × Int) :=
  L4 x1 (0 : Int) x0
noncomputable def laws_markSigS (x0 : List TSig) (x1 : Int) : Option (List TSig × Int) :=
  laws_markSigS.b x0 x1 (laws_markSigS.l4 V.KK)
noncomputable abbrev laws_markSignedS.w1 (v4_0 : Int) (v4_1 : Int) (v4_2 : List TSigned) : List TSigned :=
  V.upd (V.upd v4_2 v4_1.toNat (fun z => (v4_0, z.2))) v4_1.toNat (fun z => (z.1, IntKind.i64.wrap (v4_0 + (1 : Int)), z.2.2))
noncomputable abbrev laws_markSignedS.w2 (v4_0 : Int) (v4_1 : Int) (v4_2 : List TSigned) : List TSigned :=
  V.upd (laws_markSignedS.w1 v4_0 v4_1 v4_2) v4_1.toNat (fun z => (z.1, z.2.1, IntKind.i64.wrap ((IntKind.i64.wrap (v4_0 + (1 : Int))) + (1 : Int)), z.2.2.2))
noncomputable abbrev laws_markSignedS.w3 (v4_0 : Int) (v4_1 : Int) (v4_2 : List TSigned) : List TSigned :=
  V.upd (laws_markSignedS.w2 v4_0 v4_1 v4_2) v4_1.toNat (fun z => (z.1, z.2.1, z.2.2.1, IntKind.i64.wrap ((IntKind.i64.wrap ((IntKind.i64.wrap (v4_0 + (1 : Int))) + (1 : Int))) + (1 : Int)), z.2.2.2.2))
noncomputable abbrev laws_markSignedS.w4 (v4_0 : Int) (v4_1 : Int) (v4_2 : List TSigned) : List TSigned :=
  V.upd (laws_markSignedS.w3 v4_0 v4_1 v4_2) v4_1.toNat (fun z => (z.1, z.2.1, z.2.2.1, z.2.2.2.1, IntKind.i64.wrap ((IntKind.i64.wrap ((IntKind.i64.wrap ((IntKind.i64.wrap (v4_0 + (1 : Int))) + (1 : Int))) + (1 : Int))) + (1 : Int)), z.2.2.2.2.2))
noncomputable abbrev laws_markSignedS.w5 (v4_0 : Int) (v4_1 : Int) (v4_2 : List TSigned) : List TSigned :=
  V.upd (laws_markSignedS.w4 v4_0 v4_1 v4_2) v4_1.toNat (fun z => (z.1, z.2.1, z.2.2.1, z.2.2.2.1, z.2.2.2.2.1, IntKind.i64.wrap ((IntKind.i64.wrap ((IntKind.i64.wrap ((IntKind.i64.wrap ((IntKind.i64.wrap (v4_0 + (1 : Int))) + (1 : Int))) + (1 : Int))) + (1 : Int))) + (1 : Int)), z.2.2.2.2.2.2))
noncomputable abbrev laws_markSignedS.w6 (v4_0 : Int) (v4_1 : Int) (v4_2 : List TSigned) : List TSigned :=
  V.upd (laws_markSignedS.w5 v4_0 v4_1 v4_2) v4_1.toNat (fun z => (z.1, z.2.1, z.2.2.1, z.2.2.2.1, z.2.2.2.2.1, z.2.2.2.2.2.1, IntKind.i64.wrap ((IntKind.i64.wrap ((IntKind.i64.wrap ((IntKind.i64.wrap ((IntKind.i64.wrap ((IntKind.i64.wrap (v4_0 + (1 : Int))) + (1 : Int))) + (1 : Int))) + (1 : Int))) + (1 : Int))) + (1 : Int)), z.2.2.2.2.2.2.2))
noncomputable abbrev laws_markSignedS.w7 (v4_0 : Int) (v4_1 : Int) (v4_2 : List TSigned) : List TSigned :=
  V.upd (laws_markSignedS.w6 v4_0 v4_1 v4_2) v4_1.toNat (fun z => (z.1, z.2.1, z.2.2.1, z.2.2.2.1, z.2.2.2.2.1, z.2.2.2.2.2.1, z.2.2.2.2.2.2.1, IntKind.i64.wrap ((IntKind.i64.wrap ((IntKind.i64.wrap ((IntKind.i64.wrap ((IntKind.i64.wrap ((IntKind.i64.wrap ((IntKind.i64.wrap (v4_0 + (1 : Int))) + (1 : Int))) + (1 : Int))) + (1 : Int))) + (1 : Int))) + (1 : Int))) + (1 : Int)), z.2.2.2.2.2.2.2.2))
noncomputable abbrev laws_markSignedS.w8 (v4_0 : Int) (v4_1 : Int) (v4_2 : List TSigned) (y1 : TKeys) : List TSigned :=
  V.upd (laws_markSignedS.w7 v4_0 v4_1 v4_2) v4_1.toNat (fun z => (z.1, z.2.1, z.2.2.1, z.2.2.2.1, z.2.2.2.2.1, z.2.2.2.2.2.1, z.2.2.2.2.2.2.1, z.2.2.2.2.2.2.2.1, y1.1, z.2.2.2.2.2.2.2.2.2))
noncomputable abbrev laws_markSignedS.w9 (v4_0 : Int) (v4_1 : Int) (v4_2 : List TSigned) (y1 : TKeys) : List TSigned :=
  V.upd (laws_markSignedS.w8 v4_0 v4_1 v4_2 y1) v4_1.toNat (fun z => (z.1, z.2.1, z.2.2.1, z.2.2.2.1, z.2.2.2.2.1, z.2.2.2.2.2.1, z.2.2.2.2.2.2.1, z.2.2.2.2.2.2.2.1, z.2.2.2.2.2.2.2.2.1, y1.2, z.2.2.2.2.2.2.2.2.2.2))
noncomputable abbrev laws_markSignedS.w10 (v4_0 : Int) (v4_1 : Int) (v4_2 : List TSigned) (y1 : TKeys) (y2 : TKeys) : List TSigned :=
  V.upd (laws_markSignedS.w9 v4_0 v4_1 v4_2 y1) v4_1.toNat (fun z => (z.1, z.2.1, z.2.2.1, z.2.2.2.1, z.2.2.2.2.1, z.2.2.2.2.2.1, z.2.2.2.2.2.2.1, z.2.2.2.2.2.2.2.1, z.2.2.2.2.2.2.2.2.1, z.2.2.2.2.2.2.2.2.2.1, y2.1, z.2.2.2.2.2.2.2.2.2.2.2))
noncomputable abbrev laws_markSignedS.w11 (v4_0 : Int) (v4_1 : Int) (v4_2 : List TSigned) (y1 : TKeys) (y2 : TKeys) : List TSigned :=
  V.upd (laws_markSignedS.w10 v4_0 v4_1 v4_2 y1 y2) v4_1.toNat (fun z => (z.1, z.2.1, z.2.2.1, z.2.2.2.1, z.2.2.2.2.1, z.2.2.2.2.2.1, z.2.2.2.2.2.2.1, z.2.2.2.2.2.2.2.1, z.2.2.2.2.2.2.2.2.1, z.2.2.2.2.2.2.2.2.2.1, z.2.2.2.2.2.2.2.2.2.2.1, y2.2, z.2.2.2.2.2.2.2.2.2.2.2.2))
noncomputable abbrev laws_markSignedS.w12 (v4_0 : Int) (v4_1 : Int) (v4_2 : List TSigned) (y1 : TKeys) (y2 : TKeys) : List TSigned :=
  V.upd (laws_markSignedS.w11 v4_0 v4_1 v4_2 y1 y2) v4_1.toNat (fun z => (z.1, z.2.1, z.2.2.1, z.2.2.2.1, z.2.2.2.2.1, z.2.2.2.2.2.1, z.2.2.2.2.2.2.1, z.2.2.2.2.2.2.2.1, z.2.2.2.2.2.2.2.2.1, z.2.2.2.2.2.2.2.2.2.1, z.2.2.2.2.2.2.2.2.2.2.1, z.2.2.2.2.2.2.2.2.2.2.2.1, IntKind.i64.wrap (y2.2 + (1 : Int)), z.2.2.2.2.2.2.2.2.2.2.2.2.2))
noncomputable abbrev laws_markSignedS.w13 (v4_0 : Int) (v4_1 : Int) (v4_2 : List TSigned) (y1 : TKeys) (y2 : TKeys) (y3 : TKeys) : List TSigned :=
  V.upd (laws_markSignedS.w12 v4_0 v4_1 v4_2 y1 y2) v4_1.toNat (fun z => (z.1, z.2.1, z.2.2.1, z.2.2.2.1, z.2.2.2.2.1, z.2.2.2.2.2.1, z.2.2.2.2.2.2.1, z.2.2.2.2.2.2.2.1, z.2.2.2.2.2.2.2.2.1, z.2.2.2.2.2.2.2.2.2.1, z.2.2.2.2.2.2.2.2.2.2.1, z.2.2.2.2.2.2.2.2.2.2.2.1, z.2.2.2.2.2.2.2.2.2.2.2.2.1, y3.1, z.2.2.2.2.2.2.2.2.2.2.2.2.2.2))
noncomputable abbrev laws_markSignedS.w14 (v4_0 : Int) (v4_1 : Int) (v4_2 : List TSigned) (y1 : TKeys) (y2 : TKeys) (y3 : TKeys) : List TSigned :=
  V.upd (laws_markSignedS.w13 v4_0 v4_1 v4_2 y1 y2 y3) v4_1.toNat (fun z => (z.1, z.2.1, z.2.2.1, z.2.2.2.1, z.2.2.2.2.1, z.2.2.2.2.2.1, z.2.2.2.2.2.2.1, z.2.2.2.2.2.2.2.1, z.2.2.2.2.2.2.2.2.1, z.2.2.2.2.2.2.2.2.2.1, z.2.2.2.2.2.2.2.2.2.2.1, z.2.2.2.2.2.2.2.2.2.2.2.1, z.2.2.2.2.2.2.2.2.2.2.2.2.1, z.2.2.2.2.2.2.2.2.2.2.2.2.2.1, y3.2, z.2.2.2.2.2.2.2.2.2.2.2.2.2.2.2))
noncomputable abbrev laws_markSignedS.w15 (v4_0 : Int) (v4_1 : Int) (v4_2 : List TSigned) (y1 : TKeys) (y2 : TKeys) (y3 : TKeys) : List TSigned :=
  V.upd (laws_markSignedS.w14 v4_0 v4_1 v4_2 y1 y2 y3) v4_1.toNat (fun z => (z.1, z.2.1, z.2.2.1, z.2.2.2.1, z.2.2.2.2.1, z.2.2.2.2.2.1, z.2.2.2.2.2.2.1, z.2.2.2.2.2.2.2.1, z.2.2.2.2.2.2.2.2.1, z.2.2.2.2.2.2.2.2.2.1, z.2.2.2.2.2.2.2.2.2.2.1, z.2.2.2.2.2.2.2.2.2.2.2.1, z.2.2.2.2.2.2.2.2.2.2.2.2.1, z.2.2.2.2.2.2.2.2.2.2.2.2.2.1, z.2.2.2.2.2.2.2.2.2.2.2.2.2.2.1, (Int.tmod (IntKind.i64.wrap (y3.2 + (1 : Int))) (3 : Int)) == (0 : Int), z.2.2.2.2.2.2.2.2.2.2.2.2.2.2.2.2))
noncomputable abbrev laws_markSignedS.w16 (v4_0 : Int) (v4_1 : Int) (v4_2 : List TSigned) (y1 : TKeys) (y2 : TKeys) (y3 : TKeys) (y4 : List TSig × Int) : List TSigned :=
  V.upd (laws_markSignedS.w15 v4_0 v4_1 v4_2 y1 y2 y3) v4_1.toNat (fun z => (z.1, z.2.1, z.2.2.1, z.2.2.2.1, z.2.2.2.2.1, z.2.2.2.2.2.1, z.2.2.2.2.2.2.1, z.2.2.2.2.2.2.2.1, z.2.2.2.2.2.2.2.2.1, z.2.2.2.2.2.2.2.2.2.1, z.2.2.2.2.2.2.2.2.2.2.1, z.2.2.2.2.2.2.2.2.2.2.2.1, z.2.2.2.2.2.2.2.2.2.2.2.2.1, z.2.2.2.2.2.2.2.2.2.2.2.2.2.1, z.2.2.2.2.2.2.2.2.2.2.2.2.2.2.1, z.2.2.2.2.2.2.2.2.2.2.2.2.2.2.2.1, y4.1))
noncomputable abbrev laws_markSignedS.g4 (r4 : Int → Int → (List TSigned) → Option (List TSigned × Int)) (v4_0 : Int) (v4_1 : Int) (v4_2 : List TSigned) : Option (List TSigned × Int) :=
  bif decide (v4_1 < (v4_2.length : Int)) then
  bif decide (0 ≤ v4_1) then
    bif decide (v4_1 < (v4_2.length : Int)) then
      bif decide (0 ≤ v4_1) then
        bif decide (v4_1 < (((V.upd v4_2 v4_1.toNat (fun z => (v4_0, z.2))).length) : Int)) then
          bif decide (0 ≤ v4_1) then
            bif decide (v4_1 < (((laws_markSignedS.w1 v4_0 v4_1 v4_2).length) : Int)) then
              bif decide (0 ≤ v4_1) then
                bif decide (v4_1 < (((laws_markSignedS.w2 v4_0 v4_1 v4_2).length) : Int)) then
                  bif decide (0 ≤ v4_1) then
                    bif decide (v4_1 < (((laws_markSignedS.w3 v4_0 v4_1 v4_2).length) : Int)) then
                      bif decide (0 ≤ v4_1) then
                        bif decide (v4_1 < (((laws_markSignedS.w4 v4_0 v4_1 v4_2).length) : Int)) then
                          bif decide (0 ≤ v4_1) then
                            bif decide (v4_1 < (((laws_markSignedS.w5 v4_0 v4_1 v4_2).length) : Int)) then
                              bif decide (0 ≤ v4_1) then
                                bif decide (v4_1 < (((laws_markSignedS.w6 v4_0 v4_1 v4_2).length) : Int)) then
                                  bif decide (0 ≤ v4_1) then
                                    bif decide (v4_1 < (((laws_markSignedS.w7 v4_0 v4_1 v4_2).length) : Int)) then
                                      (laws_markIntS (Head_Keys (Signed_Head ((laws_markSignedS.w7 v4_0 v4_1 v4_2).getD v4_1.toNat dSigned))).1 (IntKind.i64.wrap ((IntKind.i64.wrap ((IntKind.i64.wrap ((IntKind.i64.wrap ((IntKind.i64.wrap ((IntKind.i64.wrap ((IntKind.i64.wrap ((IntKind.i64.wrap (v4_0 + (1 : Int))) + (1 : Int))) + (1 : Int))) + (1 : Int))) + (1 : Int))) + (1 : Int))) + (1 : Int))) + (1 : Int)))).bind fun y1 =>
                                        bif decide (0 ≤ v4_1) then
                                          bif decide (v4_1 < (((laws_markSignedS.w8 v4_0 v4_1 v4_2 y1).length) : Int)) then
                                            bif decide (0 ≤ v4_1) then
                                              bif decide (v4_1 < (((laws_markSignedS.w9 v4_0 v4_1 v4_2 y1).length) : Int)) then
                                                (laws_markIntS (Head_Heirs (Signed_Head ((laws_markSignedS.w9 v4_0 v4_1 v4_2 y1).getD v4_1.toNat dSigned))).1 (IntKind.i64.wrap (y1.2 + (1 : Int)))).bind fun y2 =>
                                                  bif decide (0 ≤ v4_1) then
                                                    bif decide (v4_1 < (((laws_markSignedS.w10 v4_0 v4_1 v4_2 y1 y2).length) : Int)) then
                                                      bif decide (0 ≤ v4_1) then
                                                        bif decide (v4_1 < (((laws_markSignedS.w11 v4_0 v4_1 v4_2 y1 y2).length) : Int)) then
                                                          bif decide (0 ≤ v4_1) then
                                                            bif decide (v4_1 < (((laws_markSignedS.w12 v4_0 v4_1 v4_2 y1 y2).length) : Int)) then
                                                              (laws_markIntS (Head_Judge (Signed_Head ((laws_markSignedS.w12 v4_0 v4_1 v4_2 y1 y2).getD v4_1.toNat dSigned))).1 (IntKind.i64.wrap ((IntKind.i64.wrap (y2.2 + (1 : Int))) + (1 : Int)))).bind fun y3 =>
                                                                bif decide (0 ≤ v4_1) then
                                                                  bif decide (v4_1 < (((laws_markSignedS.w13 v4_0 v4_1 v4_2 y1 y2 y3).length) : Int)) then
                                                                    bif ((3 : Int) == (0 : Int)) then
                                                                      none
                                                                    else
                                                                      bif decide (0 ≤ v4_1) then
                                                                        bif decide (v4_1 < (((laws_markSignedS.w14 v4_0 v4_1 v4_2 y1 y2 y3).length) : Int)) then
                                                                          bif decide (0 ≤ v4_1) then
                                                                            bif decide (v4_1 < (((laws_markSignedS.w15 v4_0 v4_1 v4_2 y1 y2 y3).length) : Int)) then
                                                                              (laws_markSigS (Signed_Sigs ((laws_markSignedS.w15 v4_0 v4_1 v4_2 y1 y2 y3).getD v4_1.toNat dSigned)) (IntKind.i64.wrap ((IntKind.i64.wrap (y3.2 + (1 : Int))) + (1 : Int)))).bind fun y4 =>
                                                                                r4 y4.2 (IntKind.i64.wrap (v4_1 + (1 : Int))) (laws_markSignedS.w16 v4_0 v4_1 v4_2 y1 y2 y3 y4)
                                                                            else none
                                                                          else none
                                                                        else none
                                                                      else none
                                                                  else none
                                                                else none
                                                            else none
                                                          else none
                                                        else none
                                                      else none
                                                    else none
                                                  else none
                                              else none
                                            else none
                                          else none
                                        else none
                                    else none
                                  else none
                                else none
                              else none
                            else none
                          else none
                        else none
                      else none
                    else none
                  else none
                else none
              else none
            else none
          else none
        else none
      else none
    else none
  else none
else some (v4_2, v4_0)
noncomputable def laws_markSignedS.l4 (n : Nat) : Int → Int → (List TSigned) → Option (List TSigned × Int) :=
  V.iter (fun (r4 : Int → Int → (List TSigned) → Option (List TSigned × Int)) => fun v4_0 v4_1 v4_2 => laws_markSignedS.g4 r4 v4_0 v4_1 v4_2) (fun _ _ _ => none) n
theorem laws_markSignedS.u4 (n : Nat) (v4_0 : Int) (v4_1 : Int) (v4_2 : List TSigned) : laws_markSignedS.l4 (n + 1) v4_0 v4_1 v4_2 = laws_markSignedS.g4 (laws_markSignedS.l4 n) v4_0 v4_1 v4_2 := rfl
noncomputable abbrev laws_markSignedS.b (x0 : List TSigned) (x1 : Int) (L4 : Int → Int → (List TSigned) → Option (List TSigned × Int)) : Option (List TSigned × Int) :=
  L4 x1 (0 : Int) x0
noncomputable def laws_markSignedS (x0 : List TSigned) (x1 : Int) : Option (List TSigned × Int) :=
  laws_markSignedS.b x0 x1 (laws_markSignedS.l4 V.KK)
noncomputable def laws_markZone (x0 : TZone) (x1 : Int) : Option TRZoneInt :=
  (laws_markSignedS x0.1 x1).bind fun y1 =>
  (laws_markEntryS x0.2 y1.2).bind fun y2 =>
    some (RZoneInt_mk (y1.1, y2.1) y2.2)
noncomputable abbrev laws_heldIntS.g4 (x0 : List Int) (r4 : Int → Int → Option Int) (v4_1 : Int) (v4_2 : Int) : Option Int :=
  bif decide (v4_2 < (x0.length : Int)) then
  bif decide (0 ≤ v4_2) then
    bif decide (v4_2 < (x0.length : Int)) then
      bif (x0.getD v4_2.toNat (0 : Int)) != v4_1 then
        some (-1 : Int)
      else r4 (IntKind.i64.wrap (v4_1 + (1 : Int))) (IntKind.i64.wrap (v4_2 + (1 : Int)))
    else none
  else none
else some v4_1
noncomputable def laws_heldIntS.l4 (x0 : List Int) (n : Nat) : Int → Int → Option Int :=
  V.iter (fun (r4 : Int → Int → Option Int) => fun v4_1 v4_2 => laws_heldIntS.g4 x0 r4 v4_1 v4_2) (fun _ _ => none) n
theorem laws_heldIntS.u4 (x0 : List Int) (n : Nat) (v4_1 : Int) (v4_2 : Int) : laws_heldIntS.l4 x0 (n + 1) v4_1 v4_2 = laws_heldIntS.g4 x0 (laws_heldIntS.l4 x0 n) v4_1 v4_2 := rfl
noncomputable abbrev laws_heldIntS.b (x0 : List Int) (x1 : Int) (L4 : Int → Int → Option Int) : Option Int :=
  L4 x1 (0 : Int)
noncomputable def laws_heldIntS (x0 : List Int) (x1 : Int) : Option Int :=
  laws_heldIntS.b x0 x1 (laws_heldIntS.l4 x0 V.KK)
noncomputable abbrev laws_heldSigS.g4 (x0 : List TSig) (r4 : Int → Int → Option Int) (v4_1 : Int) (v4_2 : Int) : Option Int :=
  bif decide (v4_2 < (x0.length : Int)) then
  bif decide (0 ≤ v4_2) then
    bif decide (v4_2 < (x0.length : Int)) then
      bif (x0.getD v4_2.toNat dSig).1 != v4_1 then
        some (-1 : Int)
      else
        bif decide (0 ≤ v4_2) then
          bif decide (v4_2 < (x0.length : Int)) then
            bif (x0.getD v4_2.toNat dSig).2 != (IntKind.i64.wrap (v4_1 + (1 : Int))) then
              some (-1 : Int)
            else r4 (IntKind.i64.wrap ((IntKind.i64.wrap (v4_1 + (1 : Int))) + (1 : Int))) (IntKind.i64.wrap (v4_2 + (1 : Int)))
          else none
        else none
    else none
  else none
else some v4_1
noncomputable def laws_heldSigS.l4 (x0 : List TSig) (n : Nat) : Int → Int → Option Int :=
  V.iter (fun (r4 : Int → Int → Option Int) => fun v4_1 v4_2 => laws_heldSigS.g4 x0 r4 v4_1 v4_2) (fun _ _ => none) n
theorem laws_heldSigS.u4 (x0 : List TSig) (n : Nat) (v4_1 : Int) (v4_2 : Int) : laws_heldSigS.l4 x0 (n + 1) v4_1 v4_2 = laws_heldSigS.g4 x0 (laws_heldSigS.l4 x0 n) v4_1 v4_2 := rfl
noncomputable abbrev laws_heldSigS.b (x0 : List TSig) (x1 : Int) (L4 : Int → Int → Option Int) : Option Int :=
  L4 x1 (0 : Int)
noncomputable def laws_heldSigS (x0 : List TSig) (x1 : Int) : Option Int :=
  laws_heldSigS.b x0 x1 (laws_heldSigS.l4 x0 V.KK)
noncomputable abbrev laws_heldSignedS.g4 (x0 : List TSigned) (r4 : Int → Int → Option Int) (v4_1 : Int) (v4_2 : Int) : Option Int :=
  bif decide (v4_2 < (x0.length : Int)) then
  bif decide (0 ≤ v4_2) then
    bif decide (v4_2 < (x0.length : Int)) then
      bif (Head_Zone (Signed_Head (x0.getD v4_2.toNat dSigned))) != v4_1 then
        some (-1 : Int)
      else
        bif decide (0 ≤ v4_2) then
          bif decide (v4_2 < (x0.length : Int)) then
            bif (Head_Epoch (Signed_Head (x0.getD v4_2.toNat dSigned))) != (IntKind.i64.wrap (v4_1 + (1 : Int))) then
              some (-1 : Int)
            else
              bif decide (0 ≤ v4_2) then
                bif decide (v4_2 < (x0.length : Int)) then
                  bif (Head_Kind (Signed_Head (x0.getD v4_2.toNat dSigned))) != (IntKind.i64.wrap ((IntKind.i64.wrap (v4_1 + (1 : Int))) + (1 : Int))) then
                    some (-1 : Int)
                  else
                    bif decide (0 ≤ v4_2) then
                      bif decide (v4_2 < (x0.length : Int)) then
                        bif (Head_Time (Signed_Head (x0.getD v4_2.toNat dSigned))) != (IntKind.i64.wrap ((IntKind.i64.wrap ((IntKind.i64.wrap (v4_1 + (1 : Int))) + (1 : Int))) + (1 : Int))) then
                          some (-1 : Int)
                        else
                          bif decide (0 ≤ v4_2) then
                            bif decide (v4_2 < (x0.length : Int)) then
                              bif (Head_Until (Signed_Head (x0.getD v4_2.toNat dSigned))) != (IntKind.i64.wrap ((IntKind.i64.wrap ((IntKind.i64.wrap ((IntKind.i64.wrap (v4_1 + (1 : Int))) + (1 : Int))) + (1 : Int))) + (1 : Int))) then
                                some (-1 : Int)
                              else
                                bif decide (0 ≤ v4_2) then
                                  bif decide (v4_2 < (x0.length : Int)) then
                                    bif (Head_Count (Signed_Head (x0.getD v4_2.toNat dSigned))) != (IntKind.i64.wrap ((IntKind.i64.wrap ((IntKind.i64.wrap ((IntKind.i64.wrap ((IntKind.i64.wrap (v4_1 + (1 : Int))) + (1 : Int))) + (1 : Int))) + (1 : Int))) + (1 : Int))) then
                                      some (-1 : Int)
                                    else
                                      bif decide (0 ≤ v4_2) then
                                        bif decide (v4_2 < (x0.length : Int)) then
                                          bif (Head_Root (Signed_Head (x0.getD v4_2.toNat dSigned))) != (IntKind.i64.wrap ((IntKind.i64.wrap ((IntKind.i64.wrap ((IntKind.i64.wrap ((IntKind.i64.wrap ((IntKind.i64.wrap (v4_1 + (1 : Int))) + (1 : Int))) + (1 : Int))) + (1 : Int))) + (1 : Int))) + (1 : Int))) then
                                            some (-1 : Int)
                                          else
                                            bif decide (0 ≤ v4_2) then
                                              bif decide (v4_2 < (x0.length : Int)) then
                                                bif (Head_Prev (Signed_Head (x0.getD v4_2.toNat dSigned))) != (IntKind.i64.wrap ((IntKind.i64.wrap ((IntKind.i64.wrap ((IntKind.i64.wrap ((IntKind.i64.wrap ((IntKind.i64.wrap ((IntKind.i64.wrap (v4_1 + (1 : Int))) + (1 : Int))) + (1 : Int))) + (1 : Int))) + (1 : Int))) + (1 : Int))) + (1 : Int))) then
                                                  some (-1 : Int)
                                                else
                                                  bif decide (0 ≤ v4_2) then
                                                    bif decide (v4_2 < (x0.length : Int)) then
                                                      (laws_heldIntS (Head_Keys (Signed_Head (x0.getD v4_2.toNat dSigned))).1 (IntKind.i64.wrap ((IntKind.i64.wrap ((IntKind.i64.wrap ((IntKind.i64.wrap ((IntKind.i64.wrap ((IntKind.i64.wrap ((IntKind.i64.wrap ((IntKind.i64.wrap (v4_1 + (1 : Int))) + (1 : Int))) + (1 : Int))) + (1 : Int))) + (1 : Int))) + (1 : Int))) + (1 : Int))) + (1 : Int)))).bind fun y1 =>
                                                        bif decide (y1 < (0 : Int)) then
                                                          some (-1 : Int)
                                                        else
                                                          bif decide (0 ≤ v4_2) then
                                                            bif decide (v4_2 < (x0.length : Int)) then
                                                              bif (Head_Keys (Signed_Head (x0.getD v4_2.toNat dSigned))).2 != y1 then
                                                                some (-1 : Int)
                                                              else
                                                                bif decide (0 ≤ v4_2) then
                                                                  bif decide (v4_2 < (x0.length : Int)) then
                                                                    (laws_heldIntS (Head_Heirs (Signed_Head (x0.getD v4_2.toNat dSigned))).1 (IntKind.i64.wrap (y1 + (1 : Int)))).bind fun y2 =>
                                                                      bif decide (y2 < (0 : Int)) then
                                                                        some (-1 : Int)
                                                                      else
                                                                        bif decide (0 ≤ v4_2) then
                                                                          bif decide (v4_2 < (x0.length : Int)) then
                                                                            bif (Head_Heirs (Signed_Head (x0.getD v4_2.toNat dSigned))).2 != y2 then
                                                                              some (-1 : Int)
                                                                            else
                                                                              bif decide (0 ≤ v4_2) then
                                                                                bif decide (v4_2 < (x0.length : Int)) then
                                                                                  bif (Head_Wait (Signed_Head (x0.getD v4_2.toNat dSigned))) != (IntKind.i64.wrap (y2 + (1 : Int))) then
                                                                                    some (-1 : Int)
                                                                                  else
                                                                                    bif decide (0 ≤ v4_2) then
                                                                                      bif decide (v4_2 < (x0.length : Int)) then
                                                                                        (laws_heldIntS (Head_Judge (Signed_Head (x0.getD v4_2.toNat dSigned))).1 (IntKind.i64.wrap ((IntKind.i64.wrap (y2 + (1 : Int))) + (1 : Int)))).bind fun y3 =>
                                                                                          bif decide (y3 < (0 : Int)) then
                                                                                            some (-1 : Int)
                                                                                          else
                                                                                            bif decide (0 ≤ v4_2) then
                                                                                              bif decide (v4_2 < (x0.length : Int)) then
                                                                                                bif (Head_Judge (Signed_Head (x0.getD v4_2.toNat dSigned))).2 != y3 then
                                                                                                  some (-1 : Int)
                                                                                                else
                                                                                                  bif decide (0 ≤ v4_2) then
                                                                                                    bif decide (v4_2 < (x0.length : Int)) then
                                                                                                      bif ((3 : Int) == (0 : Int)) then
                                                                                                        none
                                                                                                      else
                                                                                                        bif !((Head_Frozen (Signed_Head (x0.getD v4_2.toNat dSigned))) == ((Int.tmod (IntKind.i64.wrap (y3 + (1 : Int))) (3 : Int)) == (0 : Int))) then
                                                                                                          some (-1 : Int)
                                                                                                        else
                                                                                                          bif decide (0 ≤ v4_2) then
                                                                                                            bif decide (v4_2 < (x0.length : Int)) then
                                                                                                              (laws_heldSigS (Signed_Sigs (x0.getD v4_2.toNat dSigned)) (IntKind.i64.wrap ((IntKind.i64.wrap (y3 + (1 : Int))) + (1 : Int)))).bind fun y4 =>
                                                                                                                bif decide (y4 < (0 : Int)) then
                                                                                                                  some (-1 : Int)
                                                                                                                else r4 y4 (IntKind.i64.wrap (v4_2 + (1 : Int)))
                                                                                                            else none
                                                                                                          else none
                                                                                                    else none
                                                                                                  else none
                                                                                              else none
                                                                                            else none
                                                                                      else none
                                                                                    else none
                                                                                else none
                                                                              else none
                                                                          else none
                                                                        else none
                                                                  else none
                                                                else none
                                                            else none
                                                          else none
                                                    else none
                                                  else none
                                              else none
                                            else none
                                        else none
                                      else none
                                  else none
                                else none
                            else none
                          else none
                      else none
                    else none
                else none
              else none
          else none
        else none
    else none
  else none
else some v4_1
noncomputable def laws_heldSignedS.l4 (x0 : List TSigned) (n : Nat) : Int → Int → Option Int :=
  V.iter (fun (r4 : Int → Int → Option Int) => fun v4_1 v4_2 => laws_heldSignedS.g4 x0 r4 v4_1 v4_2) (fun _ _ => none) n
theorem laws_heldSignedS.u4 (x0 : List TSigned) (n : Nat) (v4_1 : Int) (v4_2 : Int) : laws_heldSignedS.l4 x0 (n + 1) v4_1 v4_2 = laws_heldSignedS.g4 x0 (laws_heldSignedS.l4 x0 n) v4_1 v4_2 := rfl
noncomputable abbrev laws_heldSignedS.b (x0 : List TSigned) (x1 : Int) (L4 : Int → Int → Option Int) : Option Int :=
  L4 x1 (0 : Int)
noncomputable def laws_heldSignedS (x0 : List TSigned) (x1 : Int) : Option Int :=
  laws_heldSignedS.b x0 x1 (laws_heldSignedS.l4 x0 V.KK)
noncomputable abbrev laws_heldStringS.g4 (x0 : List ByteArray) (r4 : Int → Int → Option Int) (v4_1 : Int) (v4_2 : Int) : Option Int :=
  bif decide (v4_2 < (x0.length : Int)) then
  bif decide (0 ≤ v4_2) then
    bif decide (v4_2 < (x0.length : Int)) then
      (laws_markText v4_1).bind fun y1 =>
        bif !((x0.getD v4_2.toNat (⟨#[]⟩ : ByteArray)).toList == y1.toList) then
          some (-1 : Int)
        else r4 (IntKind.i64.wrap (v4_1 + (1 : Int))) (IntKind.i64.wrap (v4_2 + (1 : Int)))
    else none
  else none
else some v4_1
noncomputable def laws_heldStringS.l4 (x0 : List ByteArray) (n : Nat) : Int → Int → Option Int :=
  V.iter (fun (r4 : Int → Int → Option Int) => fun v4_1 v4_2 => laws_heldStringS.g4 x0 r4 v4_1 v4_2) (fun _ _ => none) n
theorem laws_heldStringS.u4 (x0 : List ByteArray) (n : Nat) (v4_1 : Int) (v4_2 : Int) : laws_heldStringS.l4 x0 (n + 1) v4_1 v4_2 = laws_heldStringS.g4 x0 (laws_heldStringS.l4 x0 n) v4_1 v4_2 := rfl
noncomputable abbrev laws_heldStringS.b (x0 : List ByteArray) (x1 : Int) (L4 : Int → Int → Option Int) : Option Int :=
  L4 x1 (0 : Int)
noncomputable def laws_heldStringS (x0 : List ByteArray) (x1 : Int) : Option Int :=
  laws_heldStringS.b x0 x1 (laws_heldStringS.l4 x0 V.KK)
noncomputable abbrev laws_heldEntryS.g4 (x0 : List TEntry) (r4 : Int → Int → Option Int) (v4_1 : Int) (v4_2 : Int) : Option Int :=
  bif decide (v4_2 < (x0.length : Int)) then
  bif decide (0 ≤ v4_2) then
    bif decide (v4_2 < (x0.length : Int)) then
      (laws_markText v4_1).bind fun y1 =>
        bif !((x0.getD v4_2.toNat dEntry).1.toList == y1.toList) then
          some (-1 : Int)
        else
          bif decide (0 ≤ v4_2) then
            bif decide (v4_2 < (x0.length : Int)) then
              bif (x0.getD v4_2.toNat dEntry).2.1 != (IntKind.i64.wrap (v4_1 + (1 : Int))) then
                some (-1 : Int)
              else
                bif decide (0 ≤ v4_2) then
                  bif decide (v4_2 < (x0.length : Int)) then
                    bif (x0.getD v4_2.toNat dEntry).2.2.1 != (IntKind.i64.wrap ((IntKind.i64.wrap (v4_1 + (1 : Int))) + (1 : Int))) then
                      some (-1 : Int)
                    else
                      bif decide (0 ≤ v4_2) then
                        bif decide (v4_2 < (x0.length : Int)) then
                          (laws_heldStringS (x0.getD v4_2.toNat dEntry).2.2.2 (IntKind.i64.wrap ((IntKind.i64.wrap ((IntKind.i64.wrap (v4_1 + (1 : Int))) + (1 : Int))) + (1 : Int)))).bind fun y2 =>
                            bif decide (y2 < (0 : Int)) then
                              some (-1 : Int)
                            else r4 y2 (IntKind.i64.wrap (v4_2 + (1 : Int)))
                        else none
                      else none
                  else none
                else none
            else none
          else none
    else none
  else none
else some v4_1
noncomputable def laws_heldEntryS.l4 (x0 : List TEntry) (n : Nat) : Int → Int → Option Int :=
  V.iter (fun (r4 : Int → Int → Option Int) => fun v4_1 v4_2 => laws_heldEntryS.g4 x0 r4 v4_1 v4_2) (fun _ _ => none) n
theorem laws_heldEntryS.u4 (x0 : List TEntry) (n : Nat) (v4_1 : Int) (v4_2 : Int) : laws_heldEntryS.l4 x0 (n + 1) v4_1 v4_2 = laws_heldEntryS.g4 x0 (laws_heldEntryS.l4 x0 n) v4_1 v4_2 := rfl
noncomputable abbrev laws_heldEntryS.b (x0 : List TEntry) (x1 : Int) (L4 : Int → Int → Option Int) : Option Int :=
  L4 x1 (0 : Int)
noncomputable def laws_heldEntryS (x0 : List TEntry) (x1 : Int) : Option Int :=
  laws_heldEntryS.b x0 x1 (laws_heldEntryS.l4 x0 V.KK)
noncomputable def laws_heldZone (x0 : TZone) (x1 : Int) : Option Int :=
  (laws_heldSignedS x0.1 x1).bind fun y1 =>
  bif decide (y1 < (0 : Int)) then
    some (-1 : Int)
  else
    (laws_heldEntryS x0.2 y1).bind fun y2 =>
      bif decide (y2 < (0 : Int)) then
        some (-1 : Int)
      else some y2
noncomputable abbrev laws_FnExactNewZone.g69 (y17 : TRZoneInt) : Option Bool :=
  (laws_heldZone (RZoneInt_r0 y17) (1 : Int)).bind fun y23 =>
  bif decide (y23 < (0 : Int)) then
    some false
  else
    bif y23 != (RZoneInt_r1 y17) then
      some false
    else some true
noncomputable def laws_FnExactNewZone.l69 (y17 : TRZoneInt) : Option Bool :=
  laws_FnExactNewZone.g69 y17
noncomputable abbrev laws_FnExactNewZone.g47 (x0 : TKeys) (x1 : Int) (x2 : List TEntry) (x3 : Int) (x4 : Int) (y5 : TRZoneBool) (y8 : TRZoneBool) (L69 : TRZoneInt → Option Bool) : Option Bool :=
  (laws_markZone (RZoneBool_r0 y8) (1 : Int)).bind fun y17 =>
  (laws_heldZone (RZoneInt_r0 y17) (1 : Int)).bind fun y18 =>
    bif decide (y18 < (0 : Int)) then
      some false
    else
      bif y18 != (RZoneInt_r1 y17) then
        some false
      else
        (laws_toKeys x0).bind fun y19 =>
          (laws_toEntryS x2).bind fun y20 =>
            (impl_NewZone y19 x1 y20 x3 x4).bind fun y21 =>
              (laws_eqZone (RZoneBool_r0 y21) (RZoneBool_r0 y5)).bind fun y22 =>
                bif !y22 then
                  some false
                else
                  bif !((RZoneBool_r1 y21) == (RZoneBool_r1 y5)) then
                    some false
                  else L69 y17
noncomputable def laws_FnExactNewZone.l47 (x0 : TKeys) (x1 : Int) (x2 : List TEntry) (x3 : Int) (x4 : Int) (y5 : TRZoneBool) (y8 : TRZoneBool) : Option Bool :=
  laws_FnExactNewZone.g47 x0 x1 x2 x3 x4 y5 y8 (fun y17 => laws_FnExactNewZone.l69 y17)
noncomputable abbrev laws_FnExactNewZone.g29 (x0 : TKeys) (x1 : Int) (x2 : List TEntry) (x3 : Int) (x4 : Int) (y5 : TRZoneBool) (y6 : TKeys) (y7 : List TEntry) (y8 : TRZoneBool) (L47 : TRZoneBool → TRZoneBool → Option Bool) : Option Bool :=
  (laws_toKeys x0).bind fun y10 =>
  (laws_eqKeys y6 y10).bind fun y11 =>
    bif !y11 then
      some false
    else
      (laws_toEntryS x2).bind fun y12 =>
        (laws_eqEntryS y7 y12).bind fun y13 =>
          bif !y13 then
            some false
          else
            (laws_markKeys y6 (1 : Int)).bind fun y14 =>
              (laws_markEntryS y7 y14.2).bind fun y15 =>
                bif decide (y15.2 < (0 : Int)) then
                  some false
                else
                  (laws_eqZone (RZoneBool_r0 y8) (RZoneBool_r0 y5)).bind fun y16 =>
                    bif !y16 then
                      some false
                    else
                      bif !((RZoneBool_r1 y8) == (RZoneBool_r1 y5)) then
                        some false
                      else L47 y5 y8
noncomputable def laws_FnExactNewZone.l29 (x0 : TKeys) (x1 : Int) (x2 : List TEntry) (x3 : Int) (x4 : Int) (y5 : TRZoneBool) (y6 : TKeys) (y7 : List TEntry) (y8 : TRZoneBool) : Option Bool :=
  laws_FnExactNewZone.g29 x0 x1 x2 x3 x4 y5 y6 y7 y8 (fun y5 y8 => laws_FnExactNewZone.l47 x0 x1 x2 x3 x4 y5 y8)
noncomputable abbrev laws_FnExactNewZone.b (x0 : TKeys) (x1 : Int) (x2 : List TEntry) (x3 : Int) (x4 : Int) (L29 : TRZoneBool → TKeys → (List TEntry) → TRZoneBool → Option Bool) : Option Bool :=
  (laws_szKeys x0 (1048576 : Int)).bind fun y1 =>
  bif decide (y1 < (0 : Int)) then
    some true
  else
    (laws_szEntryS x2 y1).bind fun y2 =>
      bif decide (y2 < (0 : Int)) then
        some true
      else
        (laws_toKeys x0).bind fun y3 =>
          (laws_toEntryS x2).bind fun y4 =>
            (spec_NewZone y3 x1 y4 x3 x4).bind fun y5 =>
              (laws_toKeys x0).bind fun y6 =>
                (laws_toEntryS x2).bind fun y7 =>
                  (impl_NewZone y6 x1 y7 x3 x4).bind fun y8 =>
                    (laws_eqZone (RZoneBool_r0 y8) (RZoneBool_r0 y5)).bind fun y9 =>
                      bif !y9 then
                        some false
                      else
                        bif !((RZoneBool_r1 y8) == (RZoneBool_r1 y5)) then
                          some false
                        else L29 y5 y6 y7 y8
noncomputable def laws_FnExactNewZone (x0 : TKeys) (x1 : Int) (x2 : List TEntry) (x3 : Int) (x4 : Int) : Option Bool :=
  laws_FnExactNewZone.b x0 x1 x2 x3 x4 (fun y5 y6 y7 y8 => laws_FnExactNewZone.l29 x0 x1 x2 x3 x4 y5 y6 y7 y8)
end Go.Proofs.YtpioofmdambjoaaGreat
