/- What the functions compute: printed from their code by the evaluator. -/
import Derived.Test.YtpioofmdambjoaaGreatVE
namespace Go.Proofs.YtpioofmdambjoaaGreat
set_option linter.unusedVariables false
abbrev TKeys : Type := List Int × Int
abbrev dKeys : TKeys := ([], (0 : Int))
abbrev THead : Type := Int × Int × Int × Int × Int × Int × Int × Int × List Int × Int × List Int × Int × Int × List Int × Int × Bool
abbrev dHead : THead := ((0 : Int), (0 : Int), (0 : Int), (0 : Int), (0 : Int), (0 : Int), (0 : Int), (0 : Int), [], (0 : Int), [], (0 : Int), (0 : Int), [], (0 : Int), false)
def Head_Zone (x : THead) : Int := x.1
def Head_Epoch (x : THead) : Int := x.2.1
def Head_Kind (x : THead) : Int := x.2.2.1
def Head_Time (x : THead) : Int := x.2.2.2.1
def Head_Until (x : THead) : Int := x.2.2.2.2.1
def Head_Count (x : THead) : Int := x.2.2.2.2.2.1
def Head_Root (x : THead) : Int := x.2.2.2.2.2.2.1
def Head_Prev (x : THead) : Int := x.2.2.2.2.2.2.2.1
def Head_Keys (x : THead) : TKeys := (x.2.2.2.2.2.2.2.2.1, x.2.2.2.2.2.2.2.2.2.1)
def Head_Heirs (x : THead) : TKeys := (x.2.2.2.2.2.2.2.2.2.2.1, x.2.2.2.2.2.2.2.2.2.2.2.1)
def Head_Wait (x : THead) : Int := x.2.2.2.2.2.2.2.2.2.2.2.2.1
def Head_Judge (x : THead) : TKeys := (x.2.2.2.2.2.2.2.2.2.2.2.2.2.1, x.2.2.2.2.2.2.2.2.2.2.2.2.2.2.1)
def Head_Frozen (x : THead) : Bool := x.2.2.2.2.2.2.2.2.2.2.2.2.2.2.2
def Head_mk (a0 : Int) (a1 : Int) (a2 : Int) (a3 : Int) (a4 : Int) (a5 : Int) (a6 : Int) (a7 : Int) (a8 : TKeys) (a9 : TKeys) (a10 : Int) (a11 : TKeys) (a12 : Bool) : THead := (a0, a1, a2, a3, a4, a5, a6, a7, a8.1, a8.2, a9.1, a9.2, a10, a11.1, a11.2, a12)
theorem Head_s : ∀ (a0 : Int) (a1 : Int) (a2 : Int) (a3 : Int) (a4 : Int) (a5 : Int) (a6 : Int) (a7 : Int) (a8 : TKeys) (a9 : TKeys) (a10 : Int) (a11 : TKeys) (a12 : Bool), Head_Zone (Head_mk a0 a1 a2 a3 a4 a5 a6 a7 a8 a9 a10 a11 a12) = a0 ∧ Head_Epoch (Head_mk a0 a1 a2 a3 a4 a5 a6 a7 a8 a9 a10 a11 a12) = a1 ∧ Head_Kind (Head_mk a0 a1 a2 a3 a4 a5 a6 a7 a8 a9 a10 a11 a12) = a2 ∧ Head_Time (Head_mk a0 a1 a2 a3 a4 a5 a6 a7 a8 a9 a10 a11 a12) = a3 ∧ Head_Until (Head_mk a0 a1 a2 a3 a4 a5 a6 a7 a8 a9 a10 a11 a12) = a4 ∧ Head_Count (Head_mk a0 a1 a2 a3 a4 a5 a6 a7 a8 a9 a10 a11 a12) = a5 ∧ Head_Root (Head_mk a0 a1 a2 a3 a4 a5 a6 a7 a8 a9 a10 a11 a12) = a6 ∧ Head_Prev (Head_mk a0 a1 a2 a3 a4 a5 a6 a7 a8 a9 a10 a11 a12) = a7 ∧ Head_Keys (Head_mk a0 a1 a2 a3 a4 a5 a6 a7 a8 a9 a10 a11 a12) = a8 ∧ Head_Heirs (Head_mk a0 a1 a2 a3 a4 a5 a6 a7 a8 a9 a10 a11 a12) = a9 ∧ Head_Wait (Head_mk a0 a1 a2 a3 a4 a5 a6 a7 a8 a9 a10 a11 a12) = a10 ∧ Head_Judge (Head_mk a0 a1 a2 a3 a4 a5 a6 a7 a8 a9 a10 a11 a12) = a11 ∧ Head_Frozen (Head_mk a0 a1 a2 a3 a4 a5 a6 a7 a8 a9 a10 a11 a12) = a12 := fun a0 a1 a2 a3 a4 a5 a6 a7 a8 a9 a10 a11 a12 => ⟨rfl, rfl, rfl, rfl, rfl, rfl, rfl, rfl, rfl, rfl, rfl, rfl, rfl⟩
theorem Head_e (x : THead) : Head_mk (Head_Zone x) (Head_Epoch x) (Head_Kind x) (Head_Time x) (Head_Until x) (Head_Count x) (Head_Root x) (Head_Prev x) (Head_Keys x) (Head_Heirs x) (Head_Wait x) (Head_Judge x) (Head_Frozen x) = x := id rfl
theorem Head_d : Head_Zone dHead = (0 : Int) ∧ Head_Epoch dHead = (0 : Int) ∧ Head_Kind dHead = (0 : Int) ∧ Head_Time dHead = (0 : Int) ∧ Head_Until dHead = (0 : Int) ∧ Head_Count dHead = (0 : Int) ∧ Head_Root dHead = (0 : Int) ∧ Head_Prev dHead = (0 : Int) ∧ Head_Keys dHead = dKeys ∧ Head_Heirs dHead = dKeys ∧ Head_Wait dHead = (0 : Int) ∧ Head_Judge dHead = dKeys ∧ Head_Frozen dHead = false := ⟨rfl, rfl, rfl, rfl, rfl, rfl, rfl, rfl, rfl, rfl, rfl, rfl, rfl⟩
abbrev TSig : Type := Int × Int
abbrev dSig : TSig := ((0 : Int), (0 : Int))
abbrev TSigned : Type := Int × Int × Int × Int × Int × Int × Int × Int × List Int × Int × List Int × Int × Int × List Int × Int × Bool × List TSig
abbrev dSigned : TSigned := ((0 : Int), (0 : Int), (0 : Int), (0 : Int), (0 : Int), (0 : Int), (0 : Int), (0 : Int), [], (0 : Int), [], (0 : Int), (0 : Int), [], (0 : Int), false, [])
def Signed_Head (x : TSigned) : THead := (x.1, x.2.1, x.2.2.1, x.2.2.2.1, x.2.2.2.2.1, x.2.2.2.2.2.1, x.2.2.2.2.2.2.1, x.2.2.2.2.2.2.2.1, x.2.2.2.2.2.2.2.2.1, x.2.2.2.2.2.2.2.2.2.1, x.2.2.2.2.2.2.2.2.2.2.1, x.2.2.2.2.2.2.2.2.2.2.2.1, x.2.2.2.2.2.2.2.2.2.2.2.2.1, x.2.2.2.2.2.2.2.2.2.2.2.2.2.1, x.2.2.2.2.2.2.2.2.2.2.2.2.2.2.1, x.2.2.2.2.2.2.2.2.2.2.2.2.2.2.2.1)
def Signed_Sigs (x : TSigned) : List TSig := x.2.2.2.2.2.2.2.2.2.2.2.2.2.2.2.2
def Signed_mk (a0 : THead) (a1 : List TSig) : TSigned := (a0.1, a0.2.1, a0.2.2.1, a0.2.2.2.1, a0.2.2.2.2.1, a0.2.2.2.2.2.1, a0.2.2.2.2.2.2.1, a0.2.2.2.2.2.2.2.1, a0.2.2.2.2.2.2.2.2.1, a0.2.2.2.2.2.2.2.2.2.1, a0.2.2.2.2.2.2.2.2.2.2.1, a0.2.2.2.2.2.2.2.2.2.2.2.1, a0.2.2.2.2.2.2.2.2.2.2.2.2.1, a0.2.2.2.2.2.2.2.2.2.2.2.2.2.1, a0.2.2.2.2.2.2.2.2.2.2.2.2.2.2.1, a0.2.2.2.2.2.2.2.2.2.2.2.2.2.2.2, a1)
theorem Signed_s : ∀ (a0 : THead) (a1 : List TSig), Signed_Head (Signed_mk a0 a1) = a0 ∧ Signed_Sigs (Signed_mk a0 a1) = a1 := fun a0 a1 => ⟨rfl, rfl⟩
theorem Signed_e (x : TSigned) : Signed_mk (Signed_Head x) (Signed_Sigs x) = x := id rfl
theorem Signed_d : Signed_Head dSigned = dHead ∧ Signed_Sigs dSigned = [] := ⟨rfl, rfl⟩
abbrev TMark : Type := Int × Int × Int
abbrev dMark : TMark := ((0 : Int), (0 : Int), (0 : Int))
abbrev TWitness : Type := Int × List TMark
abbrev dWitness : TWitness := ((0 : Int), [])
abbrev TRWitnessSigBool : Type := Int × List TMark × Int × Int × Bool
abbrev dRWitnessSigBool : TRWitnessSigBool := ((0 : Int), [], (0 : Int), (0 : Int), false)
def RWitnessSigBool_r0 (x : TRWitnessSigBool) : TWitness := (x.1, x.2.1)
def RWitnessSigBool_r1 (x : TRWitnessSigBool) : TSig := (x.2.2.1, x.2.2.2.1)
def RWitnessSigBool_r2 (x : TRWitnessSigBool) : Bool := x.2.2.2.2
def RWitnessSigBool_mk (a0 : TWitness) (a1 : TSig) (a2 : Bool) : TRWitnessSigBool := (a0.1, a0.2, a1.1, a1.2, a2)
theorem RWitnessSigBool_s : ∀ (a0 : TWitness) (a1 : TSig) (a2 : Bool), RWitnessSigBool_r0 (RWitnessSigBool_mk a0 a1 a2) = a0 ∧ RWitnessSigBool_r1 (RWitnessSigBool_mk a0 a1 a2) = a1 ∧ RWitnessSigBool_r2 (RWitnessSigBool_mk a0 a1 a2) = a2 := fun a0 a1 a2 => ⟨rfl, rfl, rfl⟩
theorem RWitnessSigBool_e (x : TRWitnessSigBool) : RWitnessSigBool_mk (RWitnessSigBool_r0 x) (RWitnessSigBool_r1 x) (RWitnessSigBool_r2 x) = x := id rfl
theorem RWitnessSigBool_d : RWitnessSigBool_r0 dRWitnessSigBool = dWitness ∧ RWitnessSigBool_r1 dRWitnessSigBool = dSig ∧ RWitnessSigBool_r2 dRWitnessSigBool = false := ⟨rfl, rfl, rfl⟩
noncomputable def laws_szMarkS (x0 : List TMark) (x1 : Int) : Option Int :=
  bif decide ((IntKind.i64.wrap (x1 - (x0.length : Int))) < (0 : Int)) then
  some (-1 : Int)
else some (IntKind.i64.wrap (x1 - (x0.length : Int)))
noncomputable def laws_szWitness (x0 : TWitness) (x1 : Int) : Option Int :=
  (laws_szMarkS x0.2 x1).bind fun y1 =>
  bif decide (y1 < (0 : Int)) then
    some (-1 : Int)
  else some y1
noncomputable def laws_szIntS (x0 : List Int) (x1 : Int) : Option Int :=
  bif decide ((IntKind.i64.wrap (x1 - (x0.length : Int))) < (0 : Int)) then
  some (-1 : Int)
else some (IntKind.i64.wrap (x1 - (x0.length : Int)))
noncomputable def laws_szKeys (x0 : TKeys) (x1 : Int) : Option Int :=
  (laws_szIntS x0.1 x1).bind fun y1 =>
  bif decide (y1 < (0 : Int)) then
    some (-1 : Int)
  else some y1
noncomputable def laws_szHead (x0 : THead) (x1 : Int) : Option Int :=
  (laws_szKeys (Head_Keys x0) x1).bind fun y1 =>
  bif decide (y1 < (0 : Int)) then
    some (-1 : Int)
  else
    (laws_szKeys (Head_Heirs x0) y1).bind fun y2 =>
      bif decide (y2 < (0 : Int)) then
        some (-1 : Int)
      else
        (laws_szKeys (Head_Judge x0) y2).bind fun y3 =>
          bif decide (y3 < (0 : Int)) then
            some (-1 : Int)
          else some y3
noncomputable def laws_szSigS (x0 : List TSig) (x1 : Int) : Option Int :=
  bif decide ((IntKind.i64.wrap (x1 - (x0.length : Int))) < (0 : Int)) then
  some (-1 : Int)
else some (IntKind.i64.wrap (x1 - (x0.length : Int)))
noncomputable def laws_szSigned (x0 : TSigned) (x1 : Int) : Option Int :=
  (laws_szHead (Signed_Head x0) x1).bind fun y1 =>
  bif decide (y1 < (0 : Int)) then
    some (-1 : Int)
  else
    (laws_szSigS (Signed_Sigs x0) y1).bind fun y2 =>
      bif decide (y2 < (0 : Int)) then
        some (-1 : Int)
      else some y2
noncomputable abbrev laws_szSignedS.g10 (x0 : List TSigned) (r10 : Int → Int → Option Int) (v10_1 : Int) (v10_2 : Int) : Option Int :=
  bif decide (v10_2 < (x0.length : Int)) then
  bif decide (0 ≤ v10_2) then
    bif decide (v10_2 < (x0.length : Int)) then
      (laws_szSigned (x0.getD v10_2.toNat dSigned) v10_1).bind fun y1 =>
        bif decide (y1 < (0 : Int)) then
          some (-1 : Int)
        else r10 y1 (IntKind.i64.wrap (v10_2 + (1 : Int)))
    else none
  else none
else some v10_1
noncomputable def laws_szSignedS.l10 (x0 : List TSigned) (n : Nat) : Int → Int → Option Int :=
  V.iter (fun (r10 : Int → Int → Option Int) => fun v10_1 v10_2 => laws_szSignedS.g10 x0 r10 v10_1 v10_2) (fun _ _ => none) n
theorem laws_szSignedS.u10 (x0 : List TSigned) (n : Nat) (v10_1 : Int) (v10_2 : Int) : laws_szSignedS.l10 x0 (n + 1) v10_1 v10_2 = laws_szSignedS.g10 x0 (laws_szSignedS.l10 x0 n) v10_1 v10_2 := rfl
noncomputable abbrev laws_szSignedS.b (x0 : List TSigned) (x1 : Int) (L10 : Int → Int → Option Int) : Option Int :=
  bif decide ((IntKind.i64.wrap (x1 - (x0.length : Int))) < (0 : Int)) then
  some (-1 : Int)
else L10 (IntKind.i64.wrap (x1 - (x0.length : Int))) (0 : Int)
noncomputable def laws_szSignedS (x0 : List TSigned) (x1 : Int) : Option Int :=
  laws_szSignedS.b x0 x1 (laws_szSignedS.l10 x0 V.KK)
noncomputable def laws_toMark (x0 : TMark) : Option TMark :=
  some x0
noncomputable abbrev laws_toMarkS.g6 (x0 : List TMark) (r6 : Int → (List TMark) → Option (List TMark)) (v6_1 : Int) (v6_2 : List TMark) : Option (List TMark) :=
  bif decide (v6_1 < (x0.length : Int)) then
  bif decide (0 ≤ v6_1) then
    bif decide (v6_1 < (x0.length : Int)) then
      (laws_toMark (x0.getD v6_1.toNat dMark)).bind fun y1 =>
        bif decide (0 ≤ v6_1) then
          bif decide (v6_1 < (v6_2.length : Int)) then
            r6 (IntKind.i64.wrap (v6_1 + (1 : Int))) (v6_2.set v6_1.toNat y1)
          else none
        else none
    else none
  else none
else some v6_2
noncomputable def laws_toMarkS.l6 (x0 : List TMark) (n : Nat) : Int → (List TMark) → Option (List TMark) :=
  V.iter (fun (r6 : Int → (List TMark) → Option (List TMark)) => fun v6_1 v6_2 => laws_toMarkS.g6 x0 r6 v6_1 v6_2) (fun _ _ => none) n
theorem laws_toMarkS.u6 (x0 : List TMark) (n : Nat) (v6_1 : Int) (v6_2 : List TMark) : laws_toMarkS.l6 x0 (n + 1) v6_1 v6_2 = laws_toMarkS.g6 x0 (laws_toMarkS.l6 x0 n) v6_1 v6_2 := rfl
noncomputable abbrev laws_toMarkS.b (x0 : List TMark) (L6 : Int → (List TMark) → Option (List TMark)) : Option (List TMark) :=
  bif ((x0.length : Int) == (x0.length : Int)) then
  bif decide (0 ≤ (x0.length : Int)) then
    bif decide ((x0.length : Int) < (68719476736 : Int)) then
      L6 (0 : Int) (List.replicate ((x0.length : Int).toNat) dMark)
    else none
  else none
else none
noncomputable def laws_toMarkS (x0 : List TMark) : Option (List TMark) :=
  laws_toMarkS.b x0 (laws_toMarkS.l6 x0 V.KK)
noncomputable def laws_toWitness (x0 : TWitness) : Option TWitness :=
  (laws_toMarkS x0.2).bind fun y1 =>
  some (x0.1, y1)
noncomputable abbrev laws_toIntS.g6 (x0 : List Int) (r6 : Int → (List Int) → Option (List Int)) (v6_1 : Int) (v6_2 : List Int) : Option (List Int) :=
  bif decide (v6_1 < (x0.length : Int)) then
  bif decide (0 ≤ v6_1) then
    bif decide (v6_1 < (x0.length : Int)) then
      bif decide (0 ≤ v6_1) then
        bif decide (v6_1 < (v6_2.length : Int)) then
          r6 (IntKind.i64.wrap (v6_1 + (1 : Int))) (v6_2.set v6_1.toNat (x0.getD v6_1.toNat (0 : Int)))
        else none
      else none
    else none
  else none
else some v6_2
noncomputable def laws_toIntS.l6 (x0 : List Int) (n : Nat) : Int → (List Int) → Option (List Int) :=
  V.iter (fun (r6 : Int → (List Int) → Option (List Int)) => fun v6_1 v6_2 => laws_toIntS.g6 x0 r6 v6_1 v6_2) (fun _ _ => none) n
theorem laws_toIntS.u6 (x0 : List Int) (n : Nat) (v6_1 : Int) (v6_2 : List Int) : laws_toIntS.l6 x0 (n + 1) v6_1 v6_2 = laws_toIntS.g6 x0 (laws_toIntS.l6 x0 n) v6_1 v6_2 := rfl
noncomputable abbrev laws_toIntS.b (x0 : List Int) (L6 : Int → (List Int) → Option (List Int)) : Option (List Int) :=
  bif ((x0.length : Int) == (x0.length : Int)) then
  bif decide (0 ≤ (x0.length : Int)) then
    bif decide ((x0.length : Int) < (68719476736 : Int)) then
      L6 (0 : Int) (List.replicate ((x0.length : Int).toNat) (0 : Int))
    else none
  else none
else none
noncomputable def laws_toIntS (x0 : List Int) : Option (List Int) :=
  laws_toIntS.b x0 (laws_toIntS.l6 x0 V.KK)
noncomputable def laws_toKeys (x0 : TKeys) : Option TKeys :=
  (laws_toIntS x0.1).bind fun y1 =>
  some (y1, x0.2)
noncomputable def laws_toHead (x0 : THead) : Option THead :=
  (laws_toKeys (Head_Keys x0)).bind fun y1 =>
  (laws_toKeys (Head_Heirs x0)).bind fun y2 =>
    (laws_toKeys (Head_Judge x0)).bind fun y3 =>
      some (Head_mk (Head_Zone x0) (Head_Epoch x0) (Head_Kind x0) (Head_Time x0) (Head_Until x0) (Head_Count x0) (Head_Root x0) (Head_Prev x0) y1 y2 (Head_Wait x0) y3 (Head_Frozen x0))
noncomputable def laws_toSig (x0 : TSig) : Option TSig :=
  some x0
noncomputable abbrev laws_toSigS.g6 (x0 : List TSig) (r6 : Int → (List TSig) → Option (List TSig)) (v6_1 : Int) (v6_2 : List TSig) : Option (List TSig) :=
  bif decide (v6_1 < (x0.length : Int)) then
  bif decide (0 ≤ v6_1) then
    bif decide (v6_1 < (x0.length : Int)) then
      (laws_toSig (x0.getD v6_1.toNat dSig)).bind fun y1 =>
        bif decide (0 ≤ v6_1) then
          bif decide (v6_1 < (v6_2.length : Int)) then
            r6 (IntKind.i64.wrap (v6_1 + (1 : Int))) (v6_2.set v6_1.toNat y1)
          else none
        else none
    else none
  else none
else some v6_2
noncomputable def laws_toSigS.l6 (x0 : List TSig) (n : Nat) : Int → (List TSig) → Option (List TSig) :=
  V.iter (fun (r6 : Int → (List TSig) → Option (List TSig)) => fun v6_1 v6_2 => laws_toSigS.g6 x0 r6 v6_1 v6_2) (fun _ _ => none) n
theorem laws_toSigS.u6 (x0 : List TSig) (n : Nat) (v6_1 : Int) (v6_2 : List TSig) : laws_toSigS.l6 x0 (n + 1) v6_1 v6_2 = laws_toSigS.g6 x0 (laws_toSigS.l6 x0 n) v6_1 v6_2 := rfl
noncomputable abbrev laws_toSigS.b (x0 : List TSig) (L6 : Int → (List TSig) → Option (List TSig)) : Option (List TSig) :=
  bif ((x0.length : Int) == (x0.length : Int)) then
  bif decide (0 ≤ (x0.length : Int)) then
    bif decide ((x0.length : Int) < (68719476736 : Int)) then
      L6 (0 : Int) (List.replicate ((x0.length : Int).toNat) dSig)
    else none
  else none
else none
noncomputable def laws_toSigS (x0 : List TSig) : Option (List TSig) :=
  laws_toSigS.b x0 (laws_toSigS.l6 x0 V.KK)
noncomputable def laws_toSigned (x0 : TSigned) : Option TSigned :=
  (laws_toHead (Signed_Head x0)).bind fun y1 =>
  (laws_toSigS (Signed_Sigs x0)).bind fun y2 =>
    some (Signed_mk y1 y2)
noncomputable abbrev laws_toSignedS.g6 (x0 : List TSigned) (r6 : Int → (List TSigned) → Option (List TSigned)) (v6_1 : Int) (v6_2 : List TSigned) : Option (List TSigned) :=
  bif decide (v6_1 < (x0.length : Int)) then
  bif decide (0 ≤ v6_1) then
    bif decide (v6_1 < (x0.length : Int)) then
      (laws_toSigned (x0.getD v6_1.toNat dSigned)).bind fun y1 =>
        bif decide (0 ≤ v6_1) then
          bif decide (v6_1 < (v6_2.length : Int)) then
            r6 (IntKind.i64.wrap (v6_1 + (1 : Int))) (v6_2.set v6_1.toNat y1)
          else none
        else none
    else none
  else none
else some v6_2
noncomputable def laws_toSignedS.l6 (x0 : List TSigned) (n : Nat) : Int → (List TSigned) → Option (List TSigned) :=
  V.iter (fun (r6 : Int → (List TSigned) → Option (List TSigned)) => fun v6_1 v6_2 => laws_toSignedS.g6 x0 r6 v6_1 v6_2) (fun _ _ => none) n
theorem laws_toSignedS.u6 (x0 : List TSigned) (n : Nat) (v6_1 : Int) (v6_2 : List TSigned) : laws_toSignedS.l6 x0 (n + 1) v6_1 v6_2 = laws_toSignedS.g6 x0 (laws_toSignedS.l6 x0 n) v6_1 v6_2 := rfl
noncomputable abbrev laws_toSignedS.b (x0 : List TSigned) (L6 : Int → (List TSigned) → Option (List TSigned)) : Option (List TSigned) :=
  bif ((x0.length : Int) == (x0.length : Int)) then
  bif decide (0 ≤ (x0.length : Int)) then
    bif decide ((x0.length : Int) < (68719476736 : Int)) then
      L6 (0 : Int) (List.replicate ((x0.length : Int).toNat) dSigned)
    else none
  else none
else none
noncomputable def laws_toSignedS (x0 : List TSigned) : Option (List TSigned) :=
  laws_toSignedS.b x0 (laws_toSignedS.l6 x0 V.KK)
noncomputable def spec_l19Copy (x0 : TWitness) : Option TWitness :=
  bif decide (([] : List TMark).length + x0.2.length < 68719476736) then
  some (x0.1, [] ++ x0.2)
else none
noncomputable def spec_l1In (x0 : Int) (x1 : Int) (x2 : Int) : Option Bool :=
  bif decide (x0 ≥ x1) then
  some (decide (x0 ≤ x2))
else some false
noncomputable abbrev spec_l19Find.g4 (x0 : TWitness) (x1 : Int) (x2 : Int) (r4 : Int → Option Int) (v4_2 : Int) : Option Int :=
  bif decide (v4_2 < (x0.2.length : Int)) then
  bif decide (0 ≤ v4_2) then
    bif decide (v4_2 < (x0.2.length : Int)) then
      bif (x0.2.getD v4_2.toNat dMark).1 == x1 then
        bif decide (0 ≤ v4_2) then
          bif decide (v4_2 < (x0.2.length : Int)) then
            bif (x0.2.getD v4_2.toNat dMark).2.1 == x2 then
              some v4_2
            else r4 (IntKind.i64.wrap (v4_2 + (1 : Int)))
          else none
        else none
      else r4 (IntKind.i64.wrap (v4_2 + (1 : Int)))
    else none
  else none
else some (-1 : Int)
noncomputable def spec_l19Find.l4 (x0 : TWitness) (x1 : Int) (x2 : Int) (n : Nat) : Int → Option Int :=
  V.iter (fun (r4 : Int → Option Int) => fun v4_2 => spec_l19Find.g4 x0 x1 x2 r4 v4_2) (fun _ => none) n
theorem spec_l19Find.u4 (x0 : TWitness) (x1 : Int) (x2 : Int) (n : Nat) (v4_2 : Int) : spec_l19Find.l4 x0 x1 x2 (n + 1) v4_2 = spec_l19Find.g4 x0 x1 x2 (spec_l19Find.l4 x0 x1 x2 n) v4_2 := rfl
noncomputable abbrev spec_l19Find.b (x0 : TWitness) (x1 : Int) (x2 : Int) (L4 : Int → Option Int) : Option Int :=
  L4 (0 : Int)
noncomputable def spec_l19Find (x0 : TWitness) (x1 : Int) (x2 : Int) : Option Int :=
  spec_l19Find.b x0 x1 x2 (spec_l19Find.l4 x0 x1 x2 V.KK)
noncomputable abbrev spec_IsWitness.g4 (x0 : TWitness) (r4 : Int → Option Bool) (v4_0 : Int) : Option Bool :=
  bif decide (v4_0 < (x0.2.length : Int)) then
  bif decide (0 ≤ v4_0) then
    bif decide (v4_0 < (x0.2.length : Int)) then
      (spec_l1In (x0.2.getD v4_0.toNat dMark).1 (0 : Int) (2147483646 : Int)).bind fun y1 =>
        bif !y1 then
          some false
        else
          (spec_l1In (x0.2.getD v4_0.toNat dMark).2.2 (0 : Int) (2147483646 : Int)).bind fun y2 =>
            bif !y2 then
              some false
            else
              (spec_l1In (x0.2.getD v4_0.toNat dMark).2.1 (0 : Int) (200 : Int)).bind fun y3 =>
                bif !y3 then
                  some false
                else
                  (spec_l19Find x0 (x0.2.getD v4_0.toNat dMark).1 (x0.2.getD v4_0.toNat dMark).2.1).bind fun y4 =>
                    bif y4 != v4_0 then
                      some false
                    else r4 (IntKind.i64.wrap (v4_0 + (1 : Int)))
    else none
  else none
else
  (spec_l1In x0.1 (1 : Int) (99 : Int)).bind fun y5 =>
    bif y5 then
      some (decide ((x0.2.length : Int) ≤ (40 : Int)))
    else some false
noncomputable def spec_IsWitness.l4 (x0 : TWitness) (n : Nat) : Int → Option Bool :=
  V.iter (fun (r4 : Int → Option Bool) => fun v4_0 => spec_IsWitness.g4 x0 r4 v4_0) (fun _ => none) n
theorem spec_IsWitness.u4 (x0 : TWitness) (n : Nat) (v4_0 : Int) : spec_IsWitness.l4 x0 (n + 1) v4_0 = spec_IsWitness.g4 x0 (spec_IsWitness.l4 x0 n) v4_0 := rfl
noncomputable abbrev spec_IsWitness.b (x0 : TWitness) (L4 : Int → Option Bool) : Option Bool :=
  L4 (0 : Int)
noncomputable def spec_IsWitness (x0 : TWitness) : Option Bool :=
  spec_IsWitness.b x0 (spec_IsWitness.l4 x0 V.KK)
noncomputable abbrev spec_IsKeys.g4 (x0 : TKeys) (r4 : Int → Option Bool) (v4_0 : Int) : Option Bool :=
  bif decide (v4_0 < (x0.1.length : Int)) then
  bif decide (0 ≤ v4_0) then
    bif decide (v4_0 < (x0.1.length : Int)) then
      (spec_l1In (x0.1.getD v4_0.toNat (0 : Int)) (1 : Int) (99 : Int)).bind fun y1 =>
        bif !y1 then
          some false
        else
          bif decide (v4_0 > (0 : Int)) then
            bif decide (0 ≤ (IntKind.i64.wrap (v4_0 - (1 : Int)))) then
              bif decide ((IntKind.i64.wrap (v4_0 - (1 : Int))) < (x0.1.length : Int)) then
                bif decide (0 ≤ v4_0) then
                  bif decide (v4_0 < (x0.1.length : Int)) then
                    bif decide ((x0.1.getD ((IntKind.i64.wrap (v4_0 - (1 : Int))).toNat) (0 : Int)) ≥ (x0.1.getD v4_0.toNat (0 : Int))) then
                      some false
                    else r4 (IntKind.i64.wrap (v4_0 + (1 : Int)))
                  else none
                else none
              else none
            else none
          else r4 (IntKind.i64.wrap (v4_0 + (1 : Int)))
    else none
  else none
else
  (spec_l1In (x0.1.length : Int) (1 : Int) (4 : Int)).bind fun y2 =>
    bif y2 then
      (spec_l1In x0.2 (1 : Int) (x0.1.length : Int)).bind fun y3 =>
        some y3
    else some false
noncomputable def spec_IsKeys.l4 (x0 : TKeys) (n : Nat) : Int → Option Bool :=
  V.iter (fun (r4 : Int → Option Bool) => fun v4_0 => spec_IsKeys.g4 x0 r4 v4_0) (fun _ => none) n
theorem spec_IsKeys.u4 (x0 : TKeys) (n : Nat) (v4_0 : Int) : spec_IsKeys.l4 x0 (n + 1) v4_0 = spec_IsKeys.g4 x0 (spec_IsKeys.l4 x0 n) v4_0 := rfl
noncomputable abbrev spec_IsKeys.b (x0 : TKeys) (L4 : Int → Option Bool) : Option Bool :=
  L4 (0 : Int)
noncomputable def spec_IsKeys (x0 : TKeys) : Option Bool :=
  spec_IsKeys.b x0 (spec_IsKeys.l4 x0 V.KK)
noncomputable def spec_NoKeys (x0 : TKeys) : Option Bool :=
  bif x0.2 == (0 : Int) then
  some ((x0.1.length : Int) == (0 : Int))
else some false
noncomputable abbrev spec_IsHead.g21 (x0 : THead) : Option Bool :=
  (spec_IsKeys (Head_Judge x0)).bind fun y11 =>
  bif y11 then
    some true
  else
    (spec_NoKeys (Head_Judge x0)).bind fun y12 =>
      bif y12 then
        some (!(Head_Frozen x0))
      else some false
noncomputable def spec_IsHead.l21 (x0 : THead) : Option Bool :=
  spec_IsHead.g21 x0
noncomputable abbrev spec_IsHead.g11 (x0 : THead) (L21 : Option Bool) : Option Bool :=
  (spec_NoKeys (Head_Heirs x0)).bind fun y10 =>
  bif y10 then
    bif (Head_Wait x0) != (0 : Int) then
      some false
    else L21
  else
    (spec_IsKeys (Head_Heirs x0)).bind fun y13 =>
      bif !y13 then
        some false
      else
        (spec_l1In (Head_Wait x0) (1 : Int) (500 : Int)).bind fun y14 =>
          bif !y14 then
            some false
          else L21
noncomputable def spec_IsHead.l11 (x0 : THead) : Option Bool :=
  spec_IsHead.g11 x0 (spec_IsHead.l21 x0)
noncomputable abbrev spec_IsHead.g7 (x0 : THead) (L11 : Option Bool) : Option Bool :=
  (spec_l1In (Head_Time x0) (0 : Int) (100000 : Int)).bind fun y6 =>
  bif !y6 then
    some false
  else
    (spec_l1In (Head_Until x0) (Head_Time x0) (100000 : Int)).bind fun y7 =>
      bif !y7 then
        some false
      else
        bif decide ((IntKind.i64.wrap ((Head_Until x0) - (Head_Time x0))) > (200 : Int)) then
          some false
        else
          (spec_l1In (Head_Count x0) (0 : Int) (12 : Int)).bind fun y8 =>
            bif !y8 then
              some false
            else
              (spec_IsKeys (Head_Keys x0)).bind fun y9 =>
                bif !y9 then
                  some false
                else L11
noncomputable def spec_IsHead.l7 (x0 : THead) : Option Bool :=
  spec_IsHead.g7 x0 (spec_IsHead.l11 x0)
noncomputable abbrev spec_IsHead.b (x0 : THead) (L7 : Option Bool) : Option Bool :=
  (spec_l1In (Head_Zone x0) (0 : Int) (2147483646 : Int)).bind fun y1 =>
  bif !y1 then
    some false
  else
    (spec_l1In (Head_Root x0) (0 : Int) (2147483646 : Int)).bind fun y2 =>
      bif !y2 then
        some false
      else
        (spec_l1In (Head_Prev x0) (0 : Int) (2147483646 : Int)).bind fun y3 =>
          bif !y3 then
            some false
          else
            (spec_l1In (Head_Epoch x0) (0 : Int) (200 : Int)).bind fun y4 =>
              bif !y4 then
                some false
              else
                (spec_l1In (Head_Kind x0) (1 : Int) (3 : Int)).bind fun y5 =>
                  bif !y5 then
                    some false
                  else L7
noncomputable def spec_IsHead (x0 : THead) : Option Bool :=
  spec_IsHead.b x0 (spec_IsHead.l7 x0)
noncomputable def spec_KeysInts (x0 : TKeys) : Option (List Int) :=
  bif decide ([x0.2, (x0.1.length : Int)].length + x0.1.length < 68719476736) then
  some ([x0.2, (x0.1.length : Int)] ++ x0.1)
else none
noncomputable def spec_Mod (x0 : Int) (x1 : Int) : Option Int :=
  (spec_l1In x1 (1 : Int) (1000000000000 : Int)).bind fun y1 =>
  bif !y1 then
    some (0 : Int)
  else
    bif (x1 == (0 : Int)) then
      none
    else
      bif (x1 == (0 : Int)) then
        none
      else some (Int.tmod (IntKind.i64.wrap ((Int.tmod x0 x1) + x1)) x1)
noncomputable abbrev spec_Hash.g6 (x0 : List Int) (r6 : Int → Int → Option Int) (v6_1 : Int) (v6_2 : Int) : Option Int :=
  bif decide (v6_2 < (x0.length : Int)) then
  bif decide (0 ≤ v6_2) then
    bif decide (v6_2 < (x0.length : Int)) then
      (spec_Mod (x0.getD v6_2.toNat (0 : Int)) (2147483647 : Int)).bind fun y1 =>
        bif ((2147483647 : Int) == (0 : Int)) then
          none
        else r6 (Int.tmod (IntKind.i64.wrap ((IntKind.i64.wrap ((IntKind.i64.wrap (v6_1 * (1000003 : Int))) + y1)) + (13 : Int))) (2147483647 : Int)) (IntKind.i64.wrap (v6_2 + (1 : Int)))
    else none
  else none
else some v6_1
noncomputable def spec_Hash.l6 (x0 : List Int) (n : Nat) : Int → Int → Option Int :=
  V.iter (fun (r6 : Int → Int → Option Int) => fun v6_1 v6_2 => spec_Hash.g6 x0 r6 v6_1 v6_2) (fun _ _ => none) n
theorem spec_Hash.u6 (x0 : List Int) (n : Nat) (v6_1 : Int) (v6_2 : Int) : spec_Hash.l6 x0 (n + 1) v6_1 v6_2 = spec_Hash.g6 x0 (spec_Hash.l6 x0 n) v6_1 v6_2 := rfl
noncomputable abbrev spec_Hash.b (x0 : List Int) (L6 : Int → Int → Option Int) : Option Int :=
  L6 (11 : Int) (0 : Int)
noncomputable def spec_Hash (x0 : List Int) : Option Int :=
  spec_Hash.b x0 (spec_Hash.l6 x0 V.KK)
noncomputable def spec_ZoneOf (x0 : TKeys) (x1 : Int) : Option Int :=
  (spec_KeysInts x0).bind fun y1 =>
  bif decide ([(239 : Int), x1].length + y1.length < 68719476736) then
    (spec_Hash ([(239 : Int), x1] ++ y1)).bind fun y2 =>
      some y2
  else none
noncomputable def spec_HeadInts (x0 : THead) : Option (List Int) :=
  (spec_KeysInts (Head_Keys x0)).bind fun y1 =>
  bif decide ([(Head_Zone x0), (Head_Epoch x0), (Head_Kind x0), (Head_Time x0), (Head_Until x0), (Head_Count x0), (Head_Root x0), (Head_Prev x0)].length + y1.length < 68719476736) then
    (spec_KeysInts (Head_Heirs x0)).bind fun y2 =>
      bif decide (([(Head_Zone x0), (Head_Epoch x0), (Head_Kind x0), (Head_Time x0), (Head_Until x0), (Head_Count x0), (Head_Root x0), (Head_Prev x0)] ++ y1).length + y2.length < 68719476736) then
        bif decide ((([(Head_Zone x0), (Head_Epoch x0), (Head_Kind x0), (Head_Time x0), (Head_Until x0), (Head_Count x0), (Head_Root x0), (Head_Prev x0)] ++ y1) ++ y2).length + [(Head_Wait x0)].length < 68719476736) then
          (spec_KeysInts (Head_Judge x0)).bind fun y3 =>
            bif decide (((([(Head_Zone x0), (Head_Epoch x0), (Head_Kind x0), (Head_Time x0), (Head_Until x0), (Head_Count x0), (Head_Root x0), (Head_Prev x0)] ++ y1) ++ y2) ++ [(Head_Wait x0)]).length + y3.length < 68719476736) then
              bif (Head_Frozen x0) then
                bif decide ((((([(Head_Zone x0), (Head_Epoch x0), (Head_Kind x0), (Head_Time x0), (Head_Until x0), (Head_Count x0), (Head_Root x0), (Head_Prev x0)] ++ y1) ++ y2) ++ [(Head_Wait x0)]) ++ y3).length + [(1 : Int)].length < 68719476736) then
                  some ((((([(Head_Zone x0), (Head_Epoch x0), (Head_Kind x0), (Head_Time x0), (Head_Until x0), (Head_Count x0), (Head_Root x0), (Head_Prev x0)] ++ y1) ++ y2) ++ [(Head_Wait x0)]) ++ y3) ++ [(1 : Int)])
                else none
              else
                bif decide ((((([(Head_Zone x0), (Head_Epoch x0), (Head_Kind x0), (Head_Time x0), (Head_Until x0), (Head_Count x0), (Head_Root x0), (Head_Prev x0)] ++ y1) ++ y2) ++ [(Head_Wait x0)]) ++ y3).length + [(0 : Int)].length < 68719476736) then
                  some ((((([(Head_Zone x0), (Head_Epoch x0), (Head_Kind x0), (Head_Time x0), (Head_Until x0), (Head_Count x0), (Head_Root x0), (Head_Prev x0)] ++ y1) ++ y2) ++ [(Head_Wait x0)]) ++ y3) ++ [(0 : Int)])
                else none
            else none
        else none
      else none
  else none
noncomputable def spec_KeyedHash (x0 : Int) (x1 : List Int) : Option Int :=
  bif decide ([x0].length + x1.length < 68719476736) then
  bif decide (([x0] ++ x1).length + [x0].length < 68719476736) then
    (spec_Hash (([x0] ++ x1) ++ [x0])).bind fun y1 =>
      some y1
  else none
else none
noncomputable def spec_TagOf (x0 : Int) (x1 : List Int) : Option Int :=
  bif decide ([(223 : Int)].length + x1.length < 68719476736) then
  (spec_KeyedHash x0 ([(223 : Int)] ++ x1)).bind fun y1 =>
    some y1
else none
noncomputable def spec_IsSigBy (x0 : TSig) (x1 : List Int) : Option Bool :=
  (spec_l1In x0.1 (1 : Int) (99 : Int)).bind fun y1 =>
  bif y1 then
    (spec_TagOf x0.1 x1).bind fun y2 =>
      some (x0.2 == y2)
  else some false
noncomputable abbrev spec_CountSigs.g19 (x0 : TKeys) (x1 : List Int) (x2 : List TSig) (v6_2 : Int) (v6_3 : Int) (v12_4 : Int) (r6 : Int → Int → Option Int) (r12 : Int → Option Int) (v19_5 : Bool) : Option Int :=
  bif v19_5 then
  r6 (IntKind.i64.wrap (v6_2 + (1 : Int))) (IntKind.i64.wrap (v6_3 + (1 : Int)))
else r12 (IntKind.i64.wrap (v12_4 + (1 : Int)))
noncomputable def spec_CountSigs.l19 (x0 : TKeys) (x1 : List Int) (x2 : List TSig) (v6_2 : Int) (v6_3 : Int) (v12_4 : Int) (r6 : Int → Int → Option Int) (r12 : Int → Option Int) (v19_5 : Bool) : Option Int :=
  spec_CountSigs.g19 x0 x1 x2 v6_2 v6_3 v12_4 r6 r12 v19_5
noncomputable abbrev spec_CountSigs.g12 (x0 : TKeys) (x1 : List Int) (x2 : List TSig) (v6_2 : Int) (v6_3 : Int) (r6 : Int → Int → Option Int) (r12 : Int → Option Int) (L19 : Bool → Option Int) (v12_4 : Int) : Option Int :=
  bif decide (v12_4 < (x2.length : Int)) then
  bif decide (0 ≤ v12_4) then
    bif decide (v12_4 < (x2.length : Int)) then
      bif decide (0 ≤ v6_3) then
        bif decide (v6_3 < (x0.1.length : Int)) then
          bif (x2.getD v12_4.toNat dSig).1 == (x0.1.getD v6_3.toNat (0 : Int)) then
            bif decide (0 ≤ v12_4) then
              bif decide (v12_4 < (x2.length : Int)) then
                (spec_IsSigBy (x2.getD v12_4.toNat dSig) x1).bind fun y1 =>
                  L19 y1
              else none
            else none
          else L19 false
        else none
      else none
    else none
  else none
else r6 v6_2 (IntKind.i64.wrap (v6_3 + (1 : Int)))
noncomputable def spec_CountSigs.l12 (x0 : TKeys) (x1 : List Int) (x2 : List TSig) (v6_2 : Int) (v6_3 : Int) (r6 : Int → Int → Option Int) (n : Nat) : Int → Option Int :=
  V.iter (fun (r12 : Int → Option Int) => fun v12_4 => spec_CountSigs.g12 x0 x1 x2 v6_2 v6_3 r6 r12 (spec_CountSigs.l19 x0 x1 x2 v6_2 v6_3 v12_4 r6 r12) v12_4) (fun _ => none) n
theorem spec_CountSigs.u12 (x0 : TKeys) (x1 : List Int) (x2 : List TSig) (v6_2 : Int) (v6_3 : Int) (r6 : Int → Int → Option Int) (n : Nat) (v12_4 : Int) : spec_CountSigs.l12 x0 x1 x2 v6_2 v6_3 r6 (n + 1) v12_4 = spec_CountSigs.g12 x0 x1 x2 v6_2 v6_3 r6 (spec_CountSigs.l12 x0 x1 x2 v6_2 v6_3 r6 n) (spec_CountSigs.l19 x0 x1 x2 v6_2 v6_3 v12_4 r6 (spec_CountSigs.l12 x0 x1 x2 v6_2 v6_3 r6 n)) v12_4 := rfl
noncomputable abbrev spec_CountSigs.g6 (x0 : TKeys) (x1 : List Int) (x2 : List TSig) (r6 : Int → Int → Option Int) (L12 : Int → Option Int) (v6_2 : Int) (v6_3 : Int) : Option Int :=
  bif decide (v6_3 < (x0.1.length : Int)) then
  L12 (0 : Int)
else some v6_2
noncomputable def spec_CountSigs.l6 (x0 : TKeys) (x1 : List Int) (x2 : List TSig) (n : Nat) : Int → Int → Option Int :=
  V.iter (fun (r6 : Int → Int → Option Int) => fun v6_2 v6_3 => spec_CountSigs.g6 x0 x1 x2 r6 (spec_CountSigs.l12 x0 x1 x2 v6_2 v6_3 r6 V.KK) v6_2 v6_3) (fun _ _ => none) n
theorem spec_CountSigs.u6 (x0 : TKeys) (x1 : List Int) (x2 : List TSig) (n : Nat) (v6_2 : Int) (v6_3 : Int) : spec_CountSigs.l6 x0 x1 x2 (n + 1) v6_2 v6_3 = spec_CountSigs.g6 x0 x1 x2 (spec_CountSigs.l6 x0 x1 x2 n) (spec_CountSigs.l12 x0 x1 x2 v6_2 v6_3 (spec_CountSigs.l6 x0 x1 x2 n) V.KK) v6_2 v6_3 := rfl
noncomputable abbrev spec_CountSigs.b (x0 : TKeys) (x1 : List Int) (x2 : List TSig) (L6 : Int → Int → Option Int) : Option Int :=
  L6 (0 : Int) (0 : Int)
noncomputable def spec_CountSigs (x0 : TKeys) (x1 : List Int) (x2 : List TSig) : Option Int :=
  spec_CountSigs.b x0 x1 x2 (spec_CountSigs.l6 x0 x1 x2 V.KK)
noncomputable def spec_IsSigned (x0 : TKeys) (x1 : List Int) (x2 : List TSig) : Option Bool :=
  (spec_IsKeys x0).bind fun y1 =>
  bif y1 then
    (spec_CountSigs x0 x1 x2).bind fun y2 =>
      some (decide (y2 ≥ x0.2))
  else some false
noncomputable def spec_IsFirst (x0 : TSigned) : Option Bool :=
  (spec_IsHead (Signed_Head x0)).bind fun y1 =>
  bif y1 then
    bif (Head_Epoch (Signed_Head x0)) == (0 : Int) then
      bif (Head_Kind (Signed_Head x0)) == (1 : Int) then
        bif !(Head_Frozen (Signed_Head x0)) then
          (spec_ZoneOf (Head_Keys (Signed_Head x0)) (Head_Prev (Signed_Head x0))).bind fun y2 =>
            bif (Head_Zone (Signed_Head x0)) == y2 then
              (spec_HeadInts (Signed_Head x0)).bind fun y3 =>
                (spec_IsSigned (Head_Keys (Signed_Head x0)) y3 (Signed_Sigs x0)).bind fun y4 =>
                  some y4
            else some false
        else some false
      else some false
    else some false
  else some false
noncomputable def spec_HeadDigest (x0 : THead) : Option Int :=
  (spec_HeadInts x0).bind fun y1 =>
  bif decide ([(233 : Int)].length + y1.length < 68719476736) then
    (spec_Hash ([(233 : Int)] ++ y1)).bind fun y2 =>
      some y2
  else none
noncomputable def spec_l15Owner (x0 : THead) (x1 : THead) : Option Int :=
  bif (Head_Frozen x0) then
  some (4 : Int)
else
  bif (Head_Frozen x1) then
    some (6 : Int)
  else some (1 : Int)
noncomputable abbrev spec_EqualInts.g8 (x0 : List Int) (x1 : List Int) (r8 : Int → Option Bool) (v8_2 : Int) : Option Bool :=
  bif decide (v8_2 < (x0.length : Int)) then
  bif decide (0 ≤ v8_2) then
    bif decide (v8_2 < (x0.length : Int)) then
      bif decide (0 ≤ v8_2) then
        bif decide (v8_2 < (x1.length : Int)) then
          bif (x0.getD v8_2.toNat (0 : Int)) != (x1.getD v8_2.toNat (0 : Int)) then
            some false
          else r8 (IntKind.i64.wrap (v8_2 + (1 : Int)))
        else none
      else none
    else none
  else none
else some true
noncomputable def spec_EqualInts.l8 (x0 : List Int) (x1 : List Int) (n : Nat) : Int → Option Bool :=
  V.iter (fun (r8 : Int → Option Bool) => fun v8_2 => spec_EqualInts.g8 x0 x1 r8 v8_2) (fun _ => none) n
theorem spec_EqualInts.u8 (x0 : List Int) (x1 : List Int) (n : Nat) (v8_2 : Int) : spec_EqualInts.l8 x0 x1 (n + 1) v8_2 = spec_EqualInts.g8 x0 x1 (spec_EqualInts.l8 x0 x1 n) v8_2 := rfl
noncomputable abbrev spec_EqualInts.b (x0 : List Int) (x1 : List Int) (L8 : Int → Option Bool) : Option Bool :=
  bif (x0.length : Int) != (x1.length : Int) then
  some false
else L8 (0 : Int)
noncomputable def spec_EqualInts (x0 : List Int) (x1 : List Int) : Option Bool :=
  spec_EqualInts.b x0 x1 (spec_EqualInts.l8 x0 x1 V.KK)
noncomputable def spec_EqualKeys (x0 : TKeys) (x1 : TKeys) : Option Bool :=
  bif x0.2 == x1.2 then
  (spec_EqualInts x0.1 x1.1).bind fun y1 =>
    some y1
else some false
noncomputable def spec_SameContents (x0 : THead) (x1 : THead) : Option Bool :=
  bif (Head_Count x0) == (Head_Count x1) then
  some ((Head_Root x0) == (Head_Root x1))
else some false
noncomputable abbrev spec_l15Heir.g9 (x0 : THead) (x1 : THead) (v9_0 : Bool) : Option Int :=
  bif v9_0 then
  some (5 : Int)
else
  bif (Head_Frozen x1) then
    some (6 : Int)
  else
    (spec_EqualKeys (Head_Keys x1) (Head_Heirs x0)).bind fun y2 =>
      bif !y2 then
        some (6 : Int)
      else
        (spec_SameContents x1 x0).bind fun y3 =>
          bif !y3 then
            some (6 : Int)
          else some (1 : Int)
noncomputable def spec_l15Heir.l9 (x0 : THead) (x1 : THead) (v9_0 : Bool) : Option Int :=
  spec_l15Heir.g9 x0 x1 v9_0
noncomputable abbrev spec_l15Heir.b (x0 : THead) (x1 : THead) (L9 : Bool → Option Int) : Option Int :=
  bif (Head_Frozen x0) then
  some (4 : Int)
else
  (spec_NoKeys (Head_Heirs x0)).bind fun y1 =>
    bif y1 then
      L9 true
    else L9 (decide ((Head_Time x1) < (IntKind.i64.wrap ((Head_Until x0) + (Head_Wait x0)))))
noncomputable def spec_l15Heir (x0 : THead) (x1 : THead) : Option Int :=
  spec_l15Heir.b x0 x1 (spec_l15Heir.l9 x0 x1)
noncomputable abbrev spec_l15Judge.g9 (x0 : THead) (x1 : THead) (v9_0 : Bool) : Option Int :=
  bif v9_0 then
  some (6 : Int)
else
  bif (Head_Frozen x1) then
    (spec_EqualKeys (Head_Keys x1) (Head_Keys x0)).bind fun y2 =>
      bif !y2 then
        some (6 : Int)
      else some (1 : Int)
  else some (1 : Int)
noncomputable def spec_l15Judge.l9 (x0 : THead) (x1 : THead) (v9_0 : Bool) : Option Int :=
  spec_l15Judge.g9 x0 x1 v9_0
noncomputable abbrev spec_l15Judge.b (x0 : THead) (x1 : THead) (L9 : Bool → Option Int) : Option Int :=
  (spec_NoKeys (Head_Judge x0)).bind fun y1 =>
  bif y1 then
    some (5 : Int)
  else
    bif (Head_Frozen x1) == (Head_Frozen x0) then
      L9 true
    else
      (spec_SameContents x1 x0).bind fun y3 =>
        bif !y3 then
          L9 true
        else
          (spec_EqualKeys (Head_Judge x1) (Head_Judge x0)).bind fun y4 =>
            bif !y4 then
              L9 true
            else
              (spec_EqualKeys (Head_Heirs x1) (Head_Heirs x0)).bind fun y5 =>
                bif !y5 then
                  L9 true
                else L9 ((Head_Wait x1) != (Head_Wait x0))
noncomputable def spec_l15Judge (x0 : THead) (x1 : THead) : Option Int :=
  spec_l15Judge.b x0 x1 (spec_l15Judge.l9 x0 x1)
noncomputable abbrev spec_NextCode.g31 (x1 : TSigned) (v31_0 : Int) (v31_34 : List Int) (v31_35 : Int) : Option Int :=
  bif v31_0 == (1 : Int) then
  (spec_HeadInts (Signed_Head x1)).bind fun y6 =>
    (spec_IsSigned (v31_34, v31_35) y6 (Signed_Sigs x1)).bind fun y7 =>
      bif !y7 then
        some (7 : Int)
      else some v31_0
else some v31_0
noncomputable def spec_NextCode.l31 (x1 : TSigned) (v31_0 : Int) (v31_34 : List Int) (v31_35 : Int) : Option Int :=
  spec_NextCode.g31 x1 v31_0 v31_34 v31_35
noncomputable abbrev spec_NextCode.g13 (x0 : THead) (x1 : TSigned) (L31 : Int → (List Int) → Int → Option Int) : Option Int :=
  (spec_l15Owner x0 (Signed_Head x1)).bind fun y4 =>
  bif (Head_Kind (Signed_Head x1)) == (2 : Int) then
    (spec_l15Heir x0 (Signed_Head x1)).bind fun y5 =>
      L31 y5 (Head_Heirs x0).1 (Head_Heirs x0).2
  else
    bif (Head_Kind (Signed_Head x1)) == (3 : Int) then
      (spec_l15Judge x0 (Signed_Head x1)).bind fun y8 =>
        L31 y8 (Head_Judge x0).1 (Head_Judge x0).2
    else L31 y4 (Head_Keys x0).1 (Head_Keys x0).2
noncomputable def spec_NextCode.l13 (x0 : THead) (x1 : TSigned) : Option Int :=
  spec_NextCode.g13 x0 x1 (spec_NextCode.l31 x1)
noncomputable abbrev spec_NextCode.g9 (x0 : THead) (x1 : TSigned) (L13 : Option Int) : Option Int :=
  bif (Head_Zone (Signed_Head x1)) != (Head_Zone x0) then
  some (3 : Int)
else
  bif (Head_Epoch (Signed_Head x1)) != (IntKind.i64.wrap ((Head_Epoch x0) + (1 : Int))) then
    some (3 : Int)
  else
    (spec_HeadDigest x0).bind fun y3 =>
      bif (Head_Prev (Signed_Head x1)) != y3 then
        some (3 : Int)
      else
        bif decide ((Head_Time (Signed_Head x1)) < (Head_Time x0)) then
          some (3 : Int)
        else L13
noncomputable def spec_NextCode.l9 (x0 : THead) (x1 : TSigned) : Option Int :=
  spec_NextCode.g9 x0 x1 (spec_NextCode.l13 x0 x1)
noncomputable abbrev spec_NextCode.b (x0 : THead) (x1 : TSigned) (L9 : Option Int) : Option Int :=
  (spec_IsHead x0).bind fun y1 =>
  bif !y1 then
    some (2 : Int)
  else
    (spec_IsHead (Signed_Head x1)).bind fun y2 =>
      bif !y2 then
        some (2 : Int)
      else L9
noncomputable def spec_NextCode (x0 : THead) (x1 : TSigned) : Option Int :=
  spec_NextCode.b x0 x1 (spec_NextCode.l9 x0 x1)
noncomputable def spec_MayFollow (x0 : THead) (x1 : TSigned) : Option Bool :=
  (spec_NextCode x0 x1).bind fun y1 =>
  some (y1 == (1 : Int))
noncomputable abbrev spec_FirstWrong.g4 (x0 : List TSigned) (r4 : Int → Option Int) (v4_1 : Int) : Option Int :=
  bif decide (v4_1 < (x0.length : Int)) then
  bif v4_1 == (0 : Int) then
    bif decide (0 ≤ (0 : Int)) then
      bif decide ((0 : Int) < (x0.length : Int)) then
        (spec_IsFirst (x0.getD ((0 : Int).toNat) dSigned)).bind fun y1 =>
          bif !y1 then
            some v4_1
          else
            bif decide (v4_1 > (0 : Int)) then
              bif decide (0 ≤ (IntKind.i64.wrap (v4_1 - (1 : Int)))) then
                bif decide ((IntKind.i64.wrap (v4_1 - (1 : Int))) < (x0.length : Int)) then
                  bif decide (0 ≤ v4_1) then
                    bif decide (v4_1 < (x0.length : Int)) then
                      (spec_MayFollow (Signed_Head (x0.getD ((IntKind.i64.wrap (v4_1 - (1 : Int))).toNat) dSigned)) (x0.getD v4_1.toNat dSigned)).bind fun y2 =>
                        bif !y2 then
                          some v4_1
                        else r4 (IntKind.i64.wrap (v4_1 + (1 : Int)))
                    else none
                  else none
                else none
              else none
            else r4 (IntKind.i64.wrap (v4_1 + (1 : Int)))
      else none
    else none
  else
    bif decide (v4_1 > (0 : Int)) then
      bif decide (0 ≤ (IntKind.i64.wrap (v4_1 - (1 : Int)))) then
        bif decide ((IntKind.i64.wrap (v4_1 - (1 : Int))) < (x0.length : Int)) then
          bif decide (0 ≤ v4_1) then
            bif decide (v4_1 < (x0.length : Int)) then
              (spec_MayFollow (Signed_Head (x0.getD ((IntKind.i64.wrap (v4_1 - (1 : Int))).toNat) dSigned)) (x0.getD v4_1.toNat dSigned)).bind fun y3 =>
                bif !y3 then
                  some v4_1
                else r4 (IntKind.i64.wrap (v4_1 + (1 : Int)))
            else none
          else none
        else none
      else none
    else r4 (IntKind.i64.wrap (v4_1 + (1 : Int)))
else some (-1 : Int)
noncomputable def spec_FirstWrong.l4 (x0 : List TSigned) (n : Nat) : Int → Option Int :=
  V.iter (fun (r4 : Int → Option Int) => fun v4_1 => spec_FirstWrong.g4 x0 r4 v4_1) (fun _ => none) n
theorem spec_FirstWrong.u4 (x0 : List TSigned) (n : Nat) (v4_1 : Int) : spec_FirstWrong.l4 x0 (n + 1) v4_1 = spec_FirstWrong.g4 x0 (spec_FirstWrong.l4 x0 n) v4_1 := rfl
noncomputable abbrev spec_FirstWrong.b (x0 : List TSigned) (L4 : Int → Option Int) : Option Int :=
  L4 (0 : Int)
noncomputable def spec_FirstWrong (x0 : List TSigned) : Option Int :=
  spec_FirstWrong.b x0 (spec_FirstWrong.l4 x0 V.KK)
noncomputable def spec_IsChain (x0 : List TSigned) : Option Bool :=
  (spec_l1In (x0.length : Int) (1 : Int) (12 : Int)).bind fun y1 =>
  bif y1 then
    (spec_FirstWrong x0).bind fun y2 =>
      some (decide (y2 < (0 : Int)))
  else some false
noncomputable abbrev spec_l19Against.g6 (x0 : TWitness) (x1 : List TSigned) (r6 : Int → Int → Int → Int → Int → Int → Int → Int → Int → (List Int) → Int → (List Int) → Int → Int → (List Int) → Int → Bool → Option Bool) (v6_1 : Int) (v6_4 : Int) (v6_5 : Int) (v6_6 : Int) (v6_7 : Int) (v6_8 : Int) (v6_9 : Int) (v6_10 : Int) (v6_11 : Int) (v6_12 : List Int) (v6_13 : Int) (v6_14 : List Int) (v6_15 : Int) (v6_16 : Int) (v6_17 : List Int) (v6_18 : Int) (v6_19 : Bool) : Option Bool :=
  bif decide (v6_1 < (x0.2.length : Int)) then
  bif decide (0 ≤ v6_1) then
    bif decide (v6_1 < (x0.2.length : Int)) then
      bif (x0.2.getD v6_1.toNat dMark).1 != v6_4 then
        r6 (IntKind.i64.wrap (v6_1 + (1 : Int))) v6_4 v6_5 v6_6 v6_7 v6_8 v6_9 v6_10 v6_11 v6_12 v6_13 v6_14 v6_15 v6_16 v6_17 v6_18 v6_19
      else
        bif decide ((x0.2.getD v6_1.toNat dMark).2.1 > v6_5) then
          some true
        else
          bif decide (0 ≤ (x0.2.getD v6_1.toNat dMark).2.1) then
            bif decide ((x0.2.getD v6_1.toNat dMark).2.1 < (x1.length : Int)) then
              (spec_HeadDigest (Signed_Head (x1.getD ((x0.2.getD v6_1.toNat dMark).2.1.toNat) dSigned))).bind fun y1 =>
                bif (x0.2.getD v6_1.toNat dMark).2.2 != y1 then
                  some true
                else r6 (IntKind.i64.wrap (v6_1 + (1 : Int))) v6_4 v6_5 v6_6 v6_7 v6_8 v6_9 v6_10 v6_11 v6_12 v6_13 v6_14 v6_15 v6_16 v6_17 v6_18 v6_19
            else none
          else none
    else none
  else none
else some false
noncomputable def spec_l19Against.l6 (x0 : TWitness) (x1 : List TSigned) (n : Nat) : Int → Int → Int → Int → Int → Int → Int → Int → Int → (List Int) → Int → (List Int) → Int → Int → (List Int) → Int → Bool → Option Bool :=
  V.iter (fun (r6 : Int → Int → Int → Int → Int → Int → Int → Int → Int → (List Int) → Int → (List Int) → Int → Int → (List Int) → Int → Bool → Option Bool) => fun v6_1 v6_4 v6_5 v6_6 v6_7 v6_8 v6_9 v6_10 v6_11 v6_12 v6_13 v6_14 v6_15 v6_16 v6_17 v6_18 v6_19 => spec_l19Against.g6 x0 x1 r6 v6_1 v6_4 v6_5 v6_6 v6_7 v6_8 v6_9 v6_10 v6_11 v6_12 v6_13 v6_14 v6_15 v6_16 v6_17 v6_18 v6_19) (fun _ _ _ _ _ _ _ _ _ _ _ _ _ _ _ _ _ => none) n
theorem spec_l19Against.u6 (x0 : TWitness) (x1 : List TSigned) (n : Nat) (v6_1 : Int) (v6_4 : Int) (v6_5 : Int) (v6_6 : Int) (v6_7 : Int) (v6_8 : Int) (v6_9 : Int) (v6_10 : Int) (v6_11 : Int) (v6_12 : List Int) (v6_13 : Int) (v6_14 : List Int) (v6_15 : Int) (v6_16 : Int) (v6_17 : List Int) (v6_18 : Int) (v6_19 : Bool) : spec_l19Against.l6 x0 x1 (n + 1) v6_1 v6_4 v6_5 v6_6 v6_7 v6_8 v6_9 v6_10 v6_11 v6_12 v6_13 v6_14 v6_15 v6_16 v6_17 v6_18 v6_19 = spec_l19Against.g6 x0 x1 (spec_l19Against.l6 x0 x1 n) v6_1 v6_4 v6_5 v6_6 v6_7 v6_8 v6_9 v6_10 v6_11 v6_12 v6_13 v6_14 v6_15 v6_16 v6_17 v6_18 v6_19 := rfl
noncomputable abbrev spec_l19Against.b (x0 : TWitness) (x1 : List TSigned) (L6 : Int → Int → Int → Int → Int → Int → Int → Int → Int → (List Int) → Int → (List Int) → Int → Int → (List Int) → Int → Bool → Option Bool) : Option Bool :=
  bif decide (0 ≤ (IntKind.i64.wrap ((x1.length : Int) - (1 : Int)))) then
  bif decide ((IntKind.i64.wrap ((x1.length : Int) - (1 : Int))) < (x1.length : Int)) then
    L6 (0 : Int) (Head_Zone (Signed_Head (x1.getD ((IntKind.i64.wrap ((x1.length : Int) - (1 : Int))).toNat) dSigned))) (Head_Epoch (Signed_Head (x1.getD ((IntKind.i64.wrap ((x1.length : Int) - (1 : Int))).toNat) dSigned))) (Head_Kind (Signed_Head (x1.getD ((IntKind.i64.wrap ((x1.length : Int) - (1 : Int))).toNat) dSigned))) (Head_Time (Signed_Head (x1.getD ((IntKind.i64.wrap ((x1.length : Int) - (1 : Int))).toNat) dSigned))) (Head_Until (Signed_Head (x1.getD ((IntKind.i64.wrap ((x1.length : Int) - (1 : Int))).toNat) dSigned))) (Head_Count (Signed_Head (x1.getD ((IntKind.i64.wrap ((x1.length : Int) - (1 : Int))).toNat) dSigned))) (Head_Root (Signed_Head (x1.getD ((IntKind.i64.wrap ((x1.length : Int) - (1 : Int))).toNat) dSigned))) (Head_Prev (Signed_Head (x1.getD ((IntKind.i64.wrap ((x1.length : Int) - (1 : Int))).toNat) dSigned))) (Head_Keys (Signed_Head (x1.getD ((IntKind.i64.wrap ((x1.length : Int) - (1 : Int))).toNat) dSigned))).1 (Head_Keys (Signed_Head (x1.getD ((IntKind.i64.wrap ((x1.length : Int) - (1 : Int))).toNat) dSigned))).2 (Head_Heirs (Signed_Head (x1.getD ((IntKind.i64.wrap ((x1.length : Int) - (1 : Int))).toNat) dSigned))).1 (Head_Heirs (Signed_Head (x1.getD ((IntKind.i64.wrap ((x1.length : Int) - (1 : Int))).toNat) dSigned))).2 (Head_Wait (Signed_Head (x1.getD ((IntKind.i64.wrap ((x1.length : Int) - (1 : Int))).toNat) dSigned))) (Head_Judge (Signed_Head (x1.getD ((IntKind.i64.wrap ((x1.length : Int) - (1 : Int))).toNat) dSigned))).1 (Head_Judge (Signed_Head (x1.getD ((IntKind.i64.wrap ((x1.length : Int) - (1 : Int))).toNat) dSigned))).2 (Head_Frozen (Signed_Head (x1.getD ((IntKind.i64.wrap ((x1.length : Int) - (1 : Int))).toNat) dSigned)))
  else none
else none
noncomputable def spec_l19Against (x0 : TWitness) (x1 : List TSigned) : Option Bool :=
  spec_l19Against.b x0 x1 (spec_l19Against.l6 x0 x1 V.KK)
noncomputable def spec_MarkOf (x0 : THead) : Option TMark :=
  (spec_HeadDigest x0).bind fun y1 =>
  some ((Head_Zone x0), (Head_Epoch x0), y1)
noncomputable def spec_MarkInts (x0 : TMark) : Option (List Int) :=
  some [(241 : Int), x0.1, x0.2.1, x0.2.2]
noncomputable abbrev spec_Confirm.g10 (x0 : TWitness) (x1 : List TSigned) (y1 : TWitness) (r10 : Int → (List TMark) → Option TRWitnessSigBool) (v10_1 : Int) (v10_8 : List TMark) : Option TRWitnessSigBool :=
  bif decide (v10_1 < (x1.length : Int)) then
  bif decide (0 ≤ v10_1) then
    bif decide (v10_1 < (x1.length : Int)) then
      (spec_MarkOf (Signed_Head (x1.getD v10_1.toNat dSigned))).bind fun y3 =>
        (spec_l19Find x0 y3.1 y3.2.1).bind fun y4 =>
          bif decide (y4 < (0 : Int)) then
            bif decide (v10_8.length + [y3].length < 68719476736) then
              r10 (IntKind.i64.wrap (v10_1 + (1 : Int))) (v10_8 ++ [y3])
            else none
          else r10 (IntKind.i64.wrap (v10_1 + (1 : Int))) v10_8
    else none
  else none
else
  bif decide ((v10_8.length : Int) > (40 : Int)) then
    (spec_l19Copy x0).bind fun y5 =>
      some (RWitnessSigBool_mk y5 dSig false)
  else
    bif decide (0 ≤ (IntKind.i64.wrap ((x1.length : Int) - (1 : Int)))) then
      bif decide ((IntKind.i64.wrap ((x1.length : Int) - (1 : Int))) < (x1.length : Int)) then
        (spec_MarkOf (Signed_Head (x1.getD ((IntKind.i64.wrap ((x1.length : Int) - (1 : Int))).toNat) dSigned))).bind fun y6 =>
          (spec_MarkInts y6).bind fun y7 =>
            (spec_TagOf x0.1 y7).bind fun y8 =>
              V.both (some (RWitnessSigBool_mk (y1.1, v10_8) (x0.1, y8) true))
                (V.both (V.both (some (RWitnessSigBool_mk (y1.1, v10_8) (x0.1, y8) true))
                    (some (RWitnessSigBool_mk (y1.1, v10_8) (x0.1, y8) true)))
                  (V.both (V.both (some (RWitnessSigBool_mk (y1.1, v10_8) (x0.1, y8) true))
                      (some (RWitnessSigBool_mk (y1.1, v10_8) (x0.1, y8) true)))
                    (V.both (V.both (V.both (some (RWitnessSigBool_mk (y1.1, v10_8) (x0.1, y8) true))
                          (some (RWitnessSigBool_mk (y1.1, v10_8) (x0.1, y8) true)))
                        (some (RWitnessSigBool_mk (y1.1, v10_8) (x0.1, y8) true)))
                      (V.both (V.both (some (RWitnessSigBool_mk (y1.1, v10_8) (x0.1, y8) true))
                          (some (RWitnessSigBool_mk (y1.1, v10_8) (x0.1, y8) true)))
                        (V.both (V.both (V.both (some (RWitnessSigBool_mk (y1.1, v10_8) (x0.1, y8) true))
                              (some (RWitnessSigBool_mk (y1.1, v10_8) (x0.1, y8) true)))
                            (V.both (V.both (some (RWitnessSigBool_mk (y1.1, v10_8) (x0.1, y8) true))
                                (some (RWitnessSigBool_mk (y1.1, v10_8) (x0.1, y8) true)))
                              (V.both (some (RWitnessSigBool_mk (y1.1, v10_8) (x0.1, y8) true))
                                (some (RWitnessSigBool_mk (y1.1, v10_8) (x0.1, y8) true)))))
                          (V.both (V.both (V.both (some (RWitnessSigBool_mk (y1.1, v10_8) (x0.1, y8) true))
                                (some (RWitnessSigBool_mk (y1.1, v10_8) (x0.1, y8) true)))
                              (some (RWitnessSigBool_mk (y1.1, v10_8) (x0.1, y8) true)))
                            (V.both (V.both (V.both (some (RWitnessSigBool_mk (y1.1, v10_8) (x0.1, y8) true))
                                  (some (RWitnessSigBool_mk (y1.1, v10_8) (x0.1, y8) true)))
                                (some (RWitnessSigBool_mk (y1.1, v10_8) (x0.1, y8) true)))
                              (some (RWitnessSigBool_mk (y1.1, v10_8) (x0.1, y8) true)))))))))
      else none
    else none
noncomputable def spec_Confirm.l10 (x0 : TWitness) (x1 : List TSigned) (y1 : TWitness) (n : Nat) : Int → (List TMark) → Option TRWitnessSigBool :=
  V.iter (fun (r10 : Int → (List TMark) → Option TRWitnessSigBool) => fun v10_1 v10_8 => spec_Confirm.g10 x0 x1 y1 r10 v10_1 v10_8) (fun _ _ => none) n
theorem spec_Confirm.u10 (x0 : TWitness) (x1 : List TSigned) (y1 : TWitness) (n : Nat) (v10_1 : Int) (v10_8 : List TMark) : spec_Confirm.l10 x0 x1 y1 (n + 1) v10_1 v10_8 = spec_Confirm.g10 x0 x1 y1 (spec_Confirm.l10 x0 x1 y1 n) v10_1 v10_8 := rfl
noncomputable abbrev spec_Confirm.g7 (x0 : TWitness) (x1 : List TSigned) (y1 : TWitness) (L10 : TWitness → Int → (List TMark) → Option TRWitnessSigBool) (v7_1 : Bool) : Option TRWitnessSigBool :=
  bif v7_1 then
  some (RWitnessSigBool_mk y1 dSig false)
else L10 y1 (0 : Int) y1.2
noncomputable def spec_Confirm.l7 (x0 : TWitness) (x1 : List TSigned) (y1 : TWitness) (v7_1 : Bool) : Option TRWitnessSigBool :=
  spec_Confirm.g7 x0 x1 y1 (fun y1 => spec_Confirm.l10 x0 x1 y1 V.KK) v7_1
noncomputable abbrev spec_Confirm.b (x0 : TWitness) (x1 : List TSigned) (L7 : TWitness → Bool → Option TRWitnessSigBool) : Option TRWitnessSigBool :=
  (spec_l19Copy x0).bind fun y1 =>
  (spec_IsWitness x0).bind fun y2 =>
    bif !y2 then
      L7 y1 true
    else
      (spec_IsChain x1).bind fun y9 =>
        bif !y9 then
          L7 y1 true
        else
          (spec_l19Against x0 x1).bind fun y10 =>
            L7 y1 y10
noncomputable def spec_Confirm (x0 : TWitness) (x1 : List TSigned) : Option TRWitnessSigBool :=
  spec_Confirm.b x0 x1 (fun y1 => spec_Confirm.l7 x0 x1 y1)
noncomputable def slices_Clone_impl_Mark (x0 : List TMark) : Option (List TMark) :=
  bif x0.isEmpty then
  V.both (some [])
    (bif decide (([] : List TMark).length + x0.length < 68719476736) then
      some ([] ++ x0)
    else none)
else
  bif decide (([] : List TMark).length + x0.length < 68719476736) then
    some ([] ++ x0)
  else none
noncomputable def impl_copyWitness (x0 : TWitness) : Option TWitness :=
  (slices_Clone_impl_Mark x0.2).bind fun y1 =>
  some (x0.1, y1)
noncomputable def impl_InRange (x0 : Int) (x1 : Int) (x2 : Int) : Option Bool :=
  bif decide (x1 ≤ x0) then
  some (decide (x0 ≤ x2))
else some false
noncomputable def impl_isDigest (x0 : Int) : Option Bool :=
  (impl_InRange x0 (0 : Int) (2147483646 : Int)).bind fun y1 =>
  some y1
noncomputable def impl_Mark_isOf (x0 : TMark) (x1 : TMark) : Option Bool :=
  bif x0.1 == x1.1 then
  some (x0.2.1 == x1.2.1)
else some false
noncomputable abbrev slices_IndexFunc_impl_Mark__Mark_isOf.g4 (x0 : List TMark) (x1 : (TMark) × (Unit)) (r4 : Int → Int → Option Int) (v4_2 : Int) (v4_3 : Int) : Option Int :=
  bif decide (v4_3 < v4_2) then
  bif decide (0 ≤ v4_3) then
    bif decide (v4_3 < (x0.length : Int)) then
      (impl_Mark_isOf x1.1 (x0.getD v4_3.toNat dMark)).bind fun y1 =>
        bif y1 then
          some v4_3
        else r4 v4_2 (IntKind.i64.wrap (v4_3 + (1 : Int)))
    else none
  else none
else some (-1 : Int)
noncomputable def slices_IndexFunc_impl_Mark__Mark_isOf.l4 (x0 : List TMark) (x1 : (TMark) × (Unit)) (n : Nat) : Int → Int → Option Int :=
  V.iter (fun (r4 : Int → Int → Option Int) => fun v4_2 v4_3 => slices_IndexFunc_impl_Mark__Mark_isOf.g4 x0 x1 r4 v4_2 v4_3) (fun _ _ => none) n
theorem slices_IndexFunc_impl_Mark__Mark_isOf.u4 (x0 : List TMark) (x1 : (TMark) × (Unit)) (n : Nat) (v4_2 : Int) (v4_3 : Int) : slices_IndexFunc_impl_Mark__Mark_isOf.l4 x0 x1 (n + 1) v4_2 v4_3 = slices_IndexFunc_impl_Mark__Mark_isOf.g4 x0 x1 (slices_IndexFunc_impl_Mark__Mark_isOf.l4 x0 x1 n) v4_2 v4_3 := rfl
noncomputable abbrev slices_IndexFunc_impl_Mark__Mark_isOf.b (x0 : List TMark) (x1 : (TMark) × (Unit)) (L4 : Int → Int → Option Int) : Option Int :=
  L4 (x0.length : Int) (0 : Int)
noncomputable def slices_IndexFunc_impl_Mark__Mark_isOf (x0 : List TMark) (x1 : (TMark) × (Unit)) : Option Int :=
  slices_IndexFunc_impl_Mark__Mark_isOf.b x0 x1 (slices_IndexFunc_impl_Mark__Mark_isOf.l4 x0 x1 V.KK)
noncomputable def slices_ContainsFunc_impl_Mark__Mark_isOf (x0 : List TMark) (x1 : (TMark) × (Unit)) : Option Bool :=
  (slices_IndexFunc_impl_Mark__Mark_isOf x0 (x1.1, x1.2)).bind fun y1 =>
  some (decide (y1 ≥ (0 : Int)))
noncomputable def impl_isKey (x0 : Int) : Option Bool :=
  (impl_InRange x0 (1 : Int) (99 : Int)).bind fun y1 =>
  some y1
noncomputable abbrev impl_IsWitness.g4 (x0 : TWitness) (r4 : Int → Int → Option Bool) (v4_1 : Int) (v4_2 : Int) : Option Bool :=
  bif decide (v4_2 < v4_1) then
  bif decide (0 ≤ v4_2) then
    bif decide (v4_2 < (x0.2.length : Int)) then
      (impl_isDigest (x0.2.getD v4_2.toNat dMark).1).bind fun y1 =>
        bif !y1 then
          some false
        else
          (impl_isDigest (x0.2.getD v4_2.toNat dMark).2.2).bind fun y2 =>
            bif !y2 then
              some false
            else
              (impl_InRange (x0.2.getD v4_2.toNat dMark).2.1 (0 : Int) (200 : Int)).bind fun y3 =>
                bif !y3 then
                  some false
                else
                  bif decide (0 ≤ (0 : Int)) then
                    bif decide ((0 : Int) ≤ v4_2) then
                      bif decide (v4_2 ≤ (x0.2.length : Int)) then
                        (slices_ContainsFunc_impl_Mark__Mark_isOf (x0.2.take v4_2.toNat) (x0.2.getD v4_2.toNat dMark, ())).bind fun y4 =>
                          bif y4 then
                            some false
                          else r4 v4_1 (IntKind.i64.wrap (v4_2 + (1 : Int)))
                      else none
                    else none
                  else none
    else none
  else none
else
  (impl_isKey x0.1).bind fun y5 =>
    bif y5 then
      some (decide ((x0.2.length : Int) ≤ (40 : Int)))
    else some false
noncomputable def impl_IsWitness.l4 (x0 : TWitness) (n : Nat) : Int → Int → Option Bool :=
  V.iter (fun (r4 : Int → Int → Option Bool) => fun v4_1 v4_2 => impl_IsWitness.g4 x0 r4 v4_1 v4_2) (fun _ _ => none) n
theorem impl_IsWitness.u4 (x0 : TWitness) (n : Nat) (v4_1 : Int) (v4_2 : Int) : impl_IsWitness.l4 x0 (n + 1) v4_1 v4_2 = impl_IsWitness.g4 x0 (impl_IsWitness.l4 x0 n) v4_1 v4_2 := rfl
noncomputable abbrev impl_IsWitness.b (x0 : TWitness) (L4 : Int → Int → Option Bool) : Option Bool :=
  L4 (x0.2.length : Int) (0 : Int)
noncomputable def impl_IsWitness (x0 : TWitness) : Option Bool :=
  impl_IsWitness.b x0 (impl_IsWitness.l4 x0 V.KK)
noncomputable def impl_isSpan (x0 : THead) : Option Bool :=
  bif decide ((Head_Time x0) ≥ (0 : Int)) then
  bif decide ((Head_Time x0) ≤ (Head_Until x0)) then
    bif decide ((Head_Until x0) ≤ (100000 : Int)) then
      some (decide ((IntKind.i64.wrap ((Head_Until x0) - (Head_Time x0))) ≤ (200 : Int)))
    else some false
  else some false
else some false
noncomputable abbrev impl_ascending.g4 (x0 : List Int) (r4 : Int → Int → Option Bool) (v4_1 : Int) (v4_2 : Int) : Option Bool :=
  bif decide (v4_2 < v4_1) then
  bif decide (v4_2 > (0 : Int)) then
    bif decide (0 ≤ v4_2) then
      bif decide (v4_2 < (x0.length : Int)) then
        bif decide (0 ≤ (IntKind.i64.wrap (v4_2 - (1 : Int)))) then
          bif decide ((IntKind.i64.wrap (v4_2 - (1 : Int))) < (x0.length : Int)) then
            bif decide ((x0.getD v4_2.toNat (0 : Int)) ≤ (x0.getD ((IntKind.i64.wrap (v4_2 - (1 : Int))).toNat) (0 : Int))) then
              some false
            else r4 v4_1 (IntKind.i64.wrap (v4_2 + (1 : Int)))
          else none
        else none
      else none
    else none
  else r4 v4_1 (IntKind.i64.wrap (v4_2 + (1 : Int)))
else some true
noncomputable def impl_ascending.l4 (x0 : List Int) (n : Nat) : Int → Int → Option Bool :=
  V.iter (fun (r4 : Int → Int → Option Bool) => fun v4_1 v4_2 => impl_ascending.g4 x0 r4 v4_1 v4_2) (fun _ _ => none) n
theorem impl_ascending.u4 (x0 : List Int) (n : Nat) (v4_1 : Int) (v4_2 : Int) : impl_ascending.l4 x0 (n + 1) v4_1 v4_2 = impl_ascending.g4 x0 (impl_ascending.l4 x0 n) v4_1 v4_2 := rfl
noncomputable abbrev impl_ascending.b (x0 : List Int) (L4 : Int → Int → Option Bool) : Option Bool :=
  L4 (x0.length : Int) (0 : Int)
noncomputable def impl_ascending (x0 : List Int) : Option Bool :=
  impl_ascending.b x0 (impl_ascending.l4 x0 V.KK)
noncomputable def impl_IsKeys (x0 : TKeys) : Option Bool :=
  (impl_InRange (x0.1.length : Int) (1 : Int) (4 : Int)).bind fun y1 =>
  bif y1 then
    (impl_ascending x0.1).bind fun y2 =>
      bif y2 then
        bif decide (0 ≤ (0 : Int)) then
          bif decide ((0 : Int) < (x0.1.length : Int)) then
            (impl_isKey (x0.1.getD ((0 : Int).toNat) (0 : Int))).bind fun y3 =>
              bif y3 then
                bif decide (0 ≤ (IntKind.i64.wrap ((x0.1.length : Int) - (1 : Int)))) then
                  bif decide ((IntKind.i64.wrap ((x0.1.length : Int) - (1 : Int))) < (x0.1.length : Int)) then
                    (impl_isKey (x0.1.getD ((IntKind.i64.wrap ((x0.1.length : Int) - (1 : Int))).toNat) (0 : Int))).bind fun y4 =>
                      bif y4 then
                        (impl_InRange x0.2 (1 : Int) (x0.1.length : Int)).bind fun y5 =>
                          some y5
                      else some false
                  else none
                else none
              else some false
          else none
        else none
      else some false
  else some false
noncomputable def impl_NoKeys (x0 : TKeys) : Option Bool :=
  bif x0.2 == (0 : Int) then
  some ((x0.1.length : Int) == (0 : Int))
else some false
noncomputable def impl_isMaybe (x0 : TKeys) : Option Bool :=
  (impl_NoKeys x0).bind fun y1 =>
  bif y1 then
    some true
  else
    (impl_IsKeys x0).bind fun y2 =>
      some y2
noncomputable def impl_isWait (x0 : Int) (x1 : TKeys) : Option Bool :=
  (impl_NoKeys x1).bind fun y1 =>
  bif y1 then
    some (x0 == (0 : Int))
  else
    (impl_InRange x0 (1 : Int) (500 : Int)).bind fun y2 =>
      some y2
noncomputable def impl_IsHead (x0 : THead) : Option Bool :=
  (impl_isDigest (Head_Zone x0)).bind fun y1 =>
  bif y1 then
    (impl_isDigest (Head_Root x0)).bind fun y2 =>
      bif y2 then
        (impl_isDigest (Head_Prev x0)).bind fun y3 =>
          bif y3 then
            (impl_InRange (Head_Epoch x0) (0 : Int) (200 : Int)).bind fun y4 =>
              bif y4 then
                (impl_InRange (Head_Kind x0) (1 : Int) (3 : Int)).bind fun y5 =>
                  bif y5 then
                    (impl_isSpan x0).bind fun y6 =>
                      bif y6 then
                        (impl_InRange (Head_Count x0) (0 : Int) (12 : Int)).bind fun y7 =>
                          bif y7 then
                            (impl_IsKeys (Head_Keys x0)).bind fun y8 =>
                              bif y8 then
                                (impl_isMaybe (Head_Heirs x0)).bind fun y9 =>
                                  bif y9 then
                                    (impl_isMaybe (Head_Judge x0)).bind fun y10 =>
                                      bif y10 then
                                        (impl_isWait (Head_Wait x0) (Head_Heirs x0)).bind fun y11 =>
                                          bif y11 then
                                            bif (Head_Frozen x0) then
                                              (impl_NoKeys (Head_Judge x0)).bind fun y12 =>
                                                some (!y12)
                                            else some true
                                          else some false
                                      else some false
                                  else some false
                              else some false
                          else some false
                      else some false
                  else some false
              else some false
          else some false
      else some false
  else some false
noncomputable def impl_KeysInts (x0 : TKeys) : Option (List Int) :=
  bif decide ([x0.2, (x0.1.length : Int)].length + x0.1.length < 68719476736) then
  some ([x0.2, (x0.1.length : Int)] ++ x0.1)
else none
noncomputable def impl_Mod (x0 : Int) (x1 : Int) : Option Int :=
  (impl_InRange x1 (1 : Int) (1000000000000 : Int)).bind fun y1 =>
  bif !y1 then
    some (0 : Int)
  else
    bif (x1 == (0 : Int)) then
      none
    else
      bif (x1 == (0 : Int)) then
        none
      else some (Int.tmod (IntKind.i64.wrap ((Int.tmod x0 x1) + x1)) x1)
noncomputable abbrev impl_Hash.g6 (x0 : List Int) (r6 : Int → Int → Int → Option Int) (v6_0 : Int) (v6_2 : Int) (v6_3 : Int) : Option Int :=
  bif decide (v6_3 < v6_2) then
  bif decide (0 ≤ v6_3) then
    bif decide (v6_3 < (x0.length : Int)) then
      (impl_Mod (x0.getD v6_3.toNat (0 : Int)) (2147483647 : Int)).bind fun y1 =>
        bif ((2147483647 : Int) == (0 : Int)) then
          none
        else r6 (Int.tmod (IntKind.i64.wrap ((IntKind.i64.wrap ((IntKind.i64.wrap (v6_0 * (1000003 : Int))) + y1)) + (13 : Int))) (2147483647 : Int)) v6_2 (IntKind.i64.wrap (v6_3 + (1 : Int)))
    else none
  else none
else some v6_0
noncomputable def impl_Hash.l6 (x0 : List Int) (n : Nat) : Int → Int → Int → Option Int :=
  V.iter (fun (r6 : Int → Int → Int → Option Int) => fun v6_0 v6_2 v6_3 => impl_Hash.g6 x0 r6 v6_0 v6_2 v6_3) (fun _ _ _ => none) n
theorem impl_Hash.u6 (x0 : List Int) (n : Nat) (v6_0 : Int) (v6_2 : Int) (v6_3 : Int) : impl_Hash.l6 x0 (n + 1) v6_0 v6_2 v6_3 = impl_Hash.g6 x0 (impl_Hash.l6 x0 n) v6_0 v6_2 v6_3 := rfl
noncomputable abbrev impl_Hash.b (x0 : List Int) (L6 : Int → Int → Int → Option Int) : Option Int :=
  L6 (11 : Int) (x0.length : Int) (0 : Int)
noncomputable def impl_Hash (x0 : List Int) : Option Int :=
  impl_Hash.b x0 (impl_Hash.l6 x0 V.KK)
noncomputable def impl_ZoneOf (x0 : TKeys) (x1 : Int) : Option Int :=
  (impl_KeysInts x0).bind fun y1 =>
  bif decide ([(239 : Int), x1].length + y1.length < 68719476736) then
    (impl_Hash ([(239 : Int), x1] ++ y1)).bind fun y2 =>
      some y2
  else none
noncomputable def impl_bit (x0 : Bool) : Option Int :=
  bif x0 then
  some (1 : Int)
else some (0 : Int)
noncomputable abbrev slices_Grow_int.g7 (x1 : Int) : Option (List Int) :=
  bif decide ((IntKind.i64.wrap (x1 - (IntKind.i64.wrap ((0 : Int) - ((0 : Nat) : Int))))) > (0 : Int)) then
  bif decide (0 ≤ (IntKind.i64.wrap (x1 - (IntKind.i64.wrap ((0 : Int) - ((0 : Nat) : Int)))))) then
    bif decide ((IntKind.i64.wrap (x1 - (IntKind.i64.wrap ((0 : Int) - ((0 : Nat) : Int))))) < (68719476736 : Int)) then
      bif decide (0 ≤ (0 : Int)) then
        bif decide ((0 : Int) ≤ ((0 : Nat) : Int)) then
          bif decide (((0 : Nat) : Int) ≤ (((List.replicate ((IntKind.i64.wrap (x1 - (IntKind.i64.wrap ((0 : Int) - ((0 : Nat) : Int))))).toNat) (0 : Int)).length) : Int)) then
            some ((List.replicate ((IntKind.i64.wrap (x1 - (IntKind.i64.wrap ((0 : Int) - ((0 : Nat) : Int))))).toNat) (0 : Int)).take (((0 : Nat) : Int).toNat))
          else none
        else none
      else none
    else none
  else none
else some []
noncomputable def slices_Grow_int.l7 (x1 : Int) : Option (List Int) :=
  slices_Grow_int.g7 x1
noncomputable abbrev slices_Grow_int.b (x0 : List Int) (x1 : Int) (L7 : Option (List Int)) : Option (List Int) :=
  bif decide (x1 < (0 : Int)) then
  none
else L7
noncomputable def slices_Grow_int (x0 : List Int) (x1 : Int) : Option (List Int) :=
  slices_Grow_int.b x0 x1 (slices_Grow_int.l7 x1)
noncomputable abbrev slices_Concat_int.g22 (x0 : List (List Int)) (r22 : Int → Int → (List Int) → Option (List Int)) (v22_1 : Int) (v22_2 : Int) (v22_3 : List Int) : Option (List Int) :=
  bif decide (v22_2 < v22_1) then
  bif decide (0 ≤ v22_2) then
    bif decide (v22_2 < (x0.length : Int)) then
      bif decide (v22_3.length + (x0.getD v22_2.toNat []).length < 68719476736) then
        r22 v22_1 (IntKind.i64.wrap (v22_2 + (1 : Int))) (v22_3 ++ (x0.getD v22_2.toNat []))
      else none
    else none
  else none
else some v22_3
noncomputable def slices_Concat_int.l22 (x0 : List (List Int)) (n : Nat) : Int → Int → (List Int) → Option (List Int) :=
  V.iter (fun (r22 : Int → Int → (List Int) → Option (List Int)) => fun v22_1 v22_2 v22_3 => slices_Concat_int.g22 x0 r22 v22_1 v22_2 v22_3) (fun _ _ _ => none) n
theorem slices_Concat_int.u22 (x0 : List (List Int)) (n : Nat) (v22_1 : Int) (v22_2 : Int) (v22_3 : List Int) : slices_Concat_int.l22 x0 (n + 1) v22_1 v22_2 v22_3 = slices_Concat_int.g22 x0 (slices_Concat_int.l22 x0 n) v22_1 v22_2 v22_3 := rfl
noncomputable abbrev slices_Concat_int.g6 (x0 : List (List Int)) (r6 : Int → Int → Int → Option (List Int)) (L22 : Int → Int → (List Int) → Option (List Int)) (v6_1 : Int) (v6_3 : Int) (v6_4 : Int) : Option (List Int) :=
  bif decide (v6_4 < v6_3) then
  bif decide (0 ≤ v6_4) then
    bif decide (v6_4 < (x0.length : Int)) then
      bif decide ((IntKind.i64.wrap (v6_1 + ((x0.getD v6_4.toNat []).length : Int))) < (0 : Int)) then
        none
      else r6 (IntKind.i64.wrap (v6_1 + ((x0.getD v6_4.toNat []).length : Int))) v6_3 (IntKind.i64.wrap (v6_4 + (1 : Int)))
    else none
  else none
else
  (slices_Grow_int [] v6_1).bind fun y1 =>
    L22 (x0.length : Int) (0 : Int) y1
noncomputable def slices_Concat_int.l6 (x0 : List (List Int)) (n : Nat) : Int → Int → Int → Option (List Int) :=
  V.iter (fun (r6 : Int → Int → Int → Option (List Int)) => fun v6_1 v6_3 v6_4 => slices_Concat_int.g6 x0 r6 (slices_Concat_int.l22 x0 V.KK) v6_1 v6_3 v6_4) (fun _ _ _ => none) n
theorem slices_Concat_int.u6 (x0 : List (List Int)) (n : Nat) (v6_1 : Int) (v6_3 : Int) (v6_4 : Int) : slices_Concat_int.l6 x0 (n + 1) v6_1 v6_3 v6_4 = slices_Concat_int.g6 x0 (slices_Concat_int.l6 x0 n) (slices_Concat_int.l22 x0 V.KK) v6_1 v6_3 v6_4 := rfl
noncomputable abbrev slices_Concat_int.b (x0 : List (List Int)) (L6 : Int → Int → Int → Option (List Int)) : Option (List Int) :=
  L6 (0 : Int) (x0.length : Int) (0 : Int)
noncomputable def slices_Concat_int (x0 : List (List Int)) : Option (List Int) :=
  slices_Concat_int.b x0 (slices_Concat_int.l6 x0 V.KK)
noncomputable def impl_HeadInts (x0 : THead) : Option (List Int) :=
  (impl_KeysInts (Head_Keys x0)).bind fun y1 =>
  (impl_KeysInts (Head_Heirs x0)).bind fun y2 =>
    (impl_KeysInts (Head_Judge x0)).bind fun y3 =>
      (impl_bit (Head_Frozen x0)).bind fun y4 =>
        (slices_Concat_int [[(Head_Zone x0), (Head_Epoch x0), (Head_Kind x0), (Head_Time x0), (Head_Until x0), (Head_Count x0), (Head_Root x0), (Head_Prev x0)], y1, y2, [(Head_Wait x0)], y3, [y4]]).bind fun y5 =>
          some y5
noncomputable def impl_KeyedHash (x0 : Int) (x1 : List Int) : Option Int :=
  (slices_Concat_int [[x0], x1, [x0]]).bind fun y1 =>
  (impl_Hash y1).bind fun y2 =>
    some y2
noncomputable def impl_TagOf (x0 : Int) (x1 : List Int) : Option Int :=
  bif decide ([(223 : Int)].length + x1.length < 68719476736) then
  (impl_KeyedHash x0 ([(223 : Int)] ++ x1)).bind fun y1 =>
    some y1
else none
noncomputable def impl_IsSigBy (x0 : TSig) (x1 : List Int) : Option Bool :=
  (impl_isKey x0.1).bind fun y1 =>
  bif y1 then
    (impl_TagOf x0.1 x1).bind fun y2 =>
      some (x0.2 == y2)
  else some false
noncomputable def impl_CountSigs_1 (x0 : TSig) (x1 : Int) (x2 : List Int) : Option Bool :=
  bif x0.1 == x1 then
  (impl_IsSigBy x0 x2).bind fun y1 =>
    some y1
else some false
noncomputable abbrev slices_IndexFunc_impl_Sig__CountSigs_1.g4 (x0 : List TSig) (x1 : (Unit) × (Int × List Int)) (r4 : Int → Int → Option Int) (v4_2 : Int) (v4_3 : Int) : Option Int :=
  bif decide (v4_3 < v4_2) then
  bif decide (0 ≤ v4_3) then
    bif decide (v4_3 < (x0.length : Int)) then
      (impl_CountSigs_1 (x0.getD v4_3.toNat dSig) x1.2.1 x1.2.2).bind fun y1 =>
        bif y1 then
          some v4_3
        else r4 v4_2 (IntKind.i64.wrap (v4_3 + (1 : Int)))
    else none
  else none
else some (-1 : Int)
noncomputable def slices_IndexFunc_impl_Sig__CountSigs_1.l4 (x0 : List TSig) (x1 : (Unit) × (Int × List Int)) (n : Nat) : Int → Int → Option Int :=
  V.iter (fun (r4 : Int → Int → Option Int) => fun v4_2 v4_3 => slices_IndexFunc_impl_Sig__CountSigs_1.g4 x0 x1 r4 v4_2 v4_3) (fun _ _ => none) n
theorem slices_IndexFunc_impl_Sig__CountSigs_1.u4 (x0 : List TSig) (x1 : (Unit) × (Int × List Int)) (n : Nat) (v4_2 : Int) (v4_3 : Int) : slices_IndexFunc_impl_Sig__CountSigs_1.l4 x0 x1 (n + 1) v4_2 v4_3 = slices_IndexFunc_impl_Sig__CountSigs_1.g4 x0 x1 (slices_IndexFunc_impl_Sig__CountSigs_1.l4 x0 x1 n) v4_2 v4_3 := rfl
noncomputable abbrev slices_IndexFunc_impl_Sig__CountSigs_1.b (x0 : List TSig) (x1 : (Unit) × (Int × List Int)) (L4 : Int → Int → Option Int) : Option Int :=
  L4 (x0.length : Int) (0 : Int)
noncomputable def slices_IndexFunc_impl_Sig__CountSigs_1 (x0 : List TSig) (x1 : (Unit) × (Int × List Int)) : Option Int :=
  slices_IndexFunc_impl_Sig__CountSigs_1.b x0 x1 (slices_IndexFunc_impl_Sig__CountSigs_1.l4 x0 x1 V.KK)
noncomputable def slices_ContainsFunc_impl_Sig__CountSigs_1 (x0 : List TSig) (x1 : (Unit) × (Int × List Int)) : Option Bool :=
  (slices_IndexFunc_impl_Sig__CountSigs_1 x0 (x1.1, x1.2)).bind fun y1 =>
  some (decide (y1 ≥ (0 : Int)))
noncomputable abbrev impl_CountSigs.g6 (x0 : TKeys) (x1 : List Int) (x2 : List TSig) (r6 : Int → Int → Int → Option Int) (v6_1 : Int) (v6_3 : Int) (v6_4 : Int) : Option Int :=
  bif decide (v6_4 < v6_3) then
  bif decide (0 ≤ v6_4) then
    bif decide (v6_4 < (x0.1.length : Int)) then
      (slices_ContainsFunc_impl_Sig__CountSigs_1 x2 ((), (x0.1.getD v6_4.toNat (0 : Int), x1))).bind fun y1 =>
        bif y1 then
          r6 (IntKind.i64.wrap (v6_1 + (1 : Int))) v6_3 (IntKind.i64.wrap (v6_4 + (1 : Int)))
        else r6 v6_1 v6_3 (IntKind.i64.wrap (v6_4 + (1 : Int)))
    else none
  else none
else some v6_1
noncomputable def impl_CountSigs.l6 (x0 : TKeys) (x1 : List Int) (x2 : List TSig) (n : Nat) : Int → Int → Int → Option Int :=
  V.iter (fun (r6 : Int → Int → Int → Option Int) => fun v6_1 v6_3 v6_4 => impl_CountSigs.g6 x0 x1 x2 r6 v6_1 v6_3 v6_4) (fun _ _ _ => none) n
theorem impl_CountSigs.u6 (x0 : TKeys) (x1 : List Int) (x2 : List TSig) (n : Nat) (v6_1 : Int) (v6_3 : Int) (v6_4 : Int) : impl_CountSigs.l6 x0 x1 x2 (n + 1) v6_1 v6_3 v6_4 = impl_CountSigs.g6 x0 x1 x2 (impl_CountSigs.l6 x0 x1 x2 n) v6_1 v6_3 v6_4 := rfl
noncomputable abbrev impl_CountSigs.b (x0 : TKeys) (x1 : List Int) (x2 : List TSig) (L6 : Int → Int → Int → Option Int) : Option Int :=
  L6 (0 : Int) (x0.1.length : Int) (0 : Int)
noncomputable def impl_CountSigs (x0 : TKeys) (x1 : List Int) (x2 : List TSig) : Option Int :=
  impl_CountSigs.b x0 x1 x2 (impl_CountSigs.l6 x0 x1 x2 V.KK)
noncomputable def impl_IsSigned (x0 : TKeys) (x1 : List Int) (x2 : List TSig) : Option Bool :=
  (impl_IsKeys x0).bind fun y1 =>
  bif y1 then
    (impl_CountSigs x0 x1 x2).bind fun y2 =>
      some (decide (y2 ≥ x0.2))
  else some false
noncomputable def impl_Signed_isSignedBy (x0 : TSigned) (x1 : TKeys) : Option Bool :=
  (impl_HeadInts (Signed_Head x0)).bind fun y1 =>
  (impl_IsSigned x1 y1 (Signed_Sigs x0)).bind fun y2 =>
    some y2
noncomputable def impl_IsFirst (x0 : TSigned) : Option Bool :=
  (impl_IsHead (Signed_Head x0)).bind fun y1 =>
  bif y1 then
    bif (Head_Epoch (Signed_Head x0)) == (0 : Int) then
      bif (Head_Kind (Signed_Head x0)) == (1 : Int) then
        bif !(Head_Frozen (Signed_Head x0)) then
          (impl_ZoneOf (Head_Keys (Signed_Head x0)) (Head_Prev (Signed_Head x0))).bind fun y2 =>
            bif (Head_Zone (Signed_Head x0)) == y2 then
              (impl_Signed_isSignedBy x0 (Head_Keys (Signed_Head x0))).bind fun y3 =>
                some y3
            else some false
        else some false
      else some false
    else some false
  else some false
noncomputable def impl_HeadDigest (x0 : THead) : Option Int :=
  (impl_HeadInts x0).bind fun y1 =>
  bif decide ([(233 : Int)].length + y1.length < 68719476736) then
    (impl_Hash ([(233 : Int)] ++ y1)).bind fun y2 =>
      some y2
  else none
noncomputable def impl_isNext (x0 : THead) (x1 : THead) : Option Bool :=
  bif (Head_Zone x1) == (Head_Zone x0) then
  bif (Head_Epoch x1) == (IntKind.i64.wrap ((Head_Epoch x0) + (1 : Int))) then
    (impl_HeadDigest x0).bind fun y1 =>
      bif (Head_Prev x1) == y1 then
        some (decide ((Head_Time x1) ≥ (Head_Time x0)))
      else some false
  else some false
else some false
noncomputable def impl_ownerCode (x0 : THead) (x1 : TSigned) : Option Int :=
  bif (Head_Frozen x0) then
  some (4 : Int)
else
  bif (Head_Frozen (Signed_Head x1)) then
    some (6 : Int)
  else
    (impl_Signed_isSignedBy x1 (Head_Keys x0)).bind fun y1 =>
      bif !y1 then
        some (7 : Int)
      else some (1 : Int)
noncomputable abbrev slices_Equal_int.g8 (x0 : List Int) (x1 : List Int) (r8 : Int → Int → Option Bool) (v8_2 : Int) (v8_3 : Int) : Option Bool :=
  bif decide (v8_3 < v8_2) then
  bif decide (0 ≤ v8_3) then
    bif decide (v8_3 < (x0.length : Int)) then
      bif decide (0 ≤ v8_3) then
        bif decide (v8_3 < (x1.length : Int)) then
          bif (x0.getD v8_3.toNat (0 : Int)) != (x1.getD v8_3.toNat (0 : Int)) then
            some false
          else r8 v8_2 (IntKind.i64.wrap (v8_3 + (1 : Int)))
        else none
      else none
    else none
  else none
else some true
noncomputable def slices_Equal_int.l8 (x0 : List Int) (x1 : List Int) (n : Nat) : Int → Int → Option Bool :=
  V.iter (fun (r8 : Int → Int → Option Bool) => fun v8_2 v8_3 => slices_Equal_int.g8 x0 x1 r8 v8_2 v8_3) (fun _ _ => none) n
theorem slices_Equal_int.u8 (x0 : List Int) (x1 : List Int) (n : Nat) (v8_2 : Int) (v8_3 : Int) : slices_Equal_int.l8 x0 x1 (n + 1) v8_2 v8_3 = slices_Equal_int.g8 x0 x1 (slices_Equal_int.l8 x0 x1 n) v8_2 v8_3 := rfl
noncomputable abbrev slices_Equal_int.b (x0 : List Int) (x1 : List Int) (L8 : Int → Int → Option Bool) : Option Bool :=
  bif (x0.length : Int) != (x1.length : Int) then
  some false
else L8 (x0.length : Int) (0 : Int)
noncomputable def slices_Equal_int (x0 : List Int) (x1 : List Int) : Option Bool :=
  slices_Equal_int.b x0 x1 (slices_Equal_int.l8 x0 x1 V.KK)
noncomputable def impl_EqualKeys (x0 : TKeys) (x1 : TKeys) : Option Bool :=
  (slices_Equal_int x0.1 x1.1).bind fun y1 =>
  bif y1 then
    some (x0.2 == x1.2)
  else some false
noncomputable def impl_SameContents (x0 : THead) (x1 : THead) : Option Bool :=
  bif (Head_Count x0) == (Head_Count x1) then
  some ((Head_Root x0) == (Head_Root x1))
else some false
noncomputable abbrev impl_heirCode.g15 (x0 : THead) (x1 : TSigned) (v15_0 : Bool) : Option Int :=
  bif v15_0 then
  some (6 : Int)
else
  (impl_Signed_isSignedBy x1 (Head_Heirs x0)).bind fun y2 =>
    bif !y2 then
      some (7 : Int)
    else some (1 : Int)
noncomputable def impl_heirCode.l15 (x0 : THead) (x1 : TSigned) (v15_0 : Bool) : Option Int :=
  impl_heirCode.g15 x0 x1 v15_0
noncomputable abbrev impl_heirCode.g11 (x0 : THead) (x1 : TSigned) (L15 : Bool → Option Int) (v11_0 : Bool) : Option Int :=
  bif v11_0 then
  some (5 : Int)
else
  bif (Head_Frozen (Signed_Head x1)) then
    L15 true
  else
    (impl_EqualKeys (Head_Keys (Signed_Head x1)) (Head_Heirs x0)).bind fun y3 =>
      bif !y3 then
        L15 true
      else
        (impl_SameContents (Signed_Head x1) x0).bind fun y4 =>
          L15 (!y4)
noncomputable def impl_heirCode.l11 (x0 : THead) (x1 : TSigned) (v11_0 : Bool) : Option Int :=
  impl_heirCode.g11 x0 x1 (impl_heirCode.l15 x0 x1) v11_0
noncomputable abbrev impl_heirCode.b (x0 : THead) (x1 : TSigned) (L11 : Bool → Option Int) : Option Int :=
  bif (Head_Frozen x0) then
  some (4 : Int)
else
  (impl_NoKeys (Head_Heirs x0)).bind fun y1 =>
    bif y1 then
      L11 true
    else L11 (decide ((Head_Time (Signed_Head x1)) < (IntKind.i64.wrap ((Head_Until x0) + (Head_Wait x0)))))
noncomputable def impl_heirCode (x0 : THead) (x1 : TSigned) : Option Int :=
  impl_heirCode.b x0 x1 (impl_heirCode.l11 x0 x1)
noncomputable abbrev impl_judgeCode.g13 (x0 : THead) (x1 : TSigned) (v13_0 : Bool) : Option Int :=
  bif v13_0 then
  some (6 : Int)
else
  (impl_Signed_isSignedBy x1 (Head_Judge x0)).bind fun y5 =>
    bif !y5 then
      some (7 : Int)
    else some (1 : Int)
noncomputable def impl_judgeCode.l13 (x0 : THead) (x1 : TSigned) (v13_0 : Bool) : Option Int :=
  impl_judgeCode.g13 x0 x1 v13_0
noncomputable abbrev impl_judgeCode.g7 (x0 : THead) (x1 : TSigned) (L13 : Bool → Option Int) (v7_0 : Bool) : Option Int :=
  (impl_NoKeys (Head_Judge x0)).bind fun y4 =>
  bif y4 then
    some (5 : Int)
  else
    bif (Head_Frozen (Signed_Head x1)) == (Head_Frozen x0) then
      L13 true
    else
      bif !v7_0 then
        L13 true
      else
        bif (Head_Frozen (Signed_Head x1)) then
          (impl_EqualKeys (Head_Keys (Signed_Head x1)) (Head_Keys x0)).bind fun y6 =>
            L13 (!y6)
        else L13 false
noncomputable def impl_judgeCode.l7 (x0 : THead) (x1 : TSigned) (v7_0 : Bool) : Option Int :=
  impl_judgeCode.g7 x0 x1 (impl_judgeCode.l13 x0 x1) v7_0
noncomputable abbrev impl_judgeCode.b (x0 : THead) (x1 : TSigned) (L7 : Bool → Option Int) : Option Int :=
  (impl_SameContents (Signed_Head x1) x0).bind fun y1 =>
  bif y1 then
    (impl_EqualKeys (Head_Judge (Signed_Head x1)) (Head_Judge x0)).bind fun y2 =>
      bif y2 then
        (impl_EqualKeys (Head_Heirs (Signed_Head x1)) (Head_Heirs x0)).bind fun y3 =>
          bif y3 then
            L7 ((Head_Wait (Signed_Head x1)) == (Head_Wait x0))
          else L7 false
      else L7 false
  else L7 false
noncomputable def impl_judgeCode (x0 : THead) (x1 : TSigned) : Option Int :=
  impl_judgeCode.b x0 x1 (impl_judgeCode.l7 x0 x1)
noncomputable abbrev impl_NextCode.g5 (x0 : THead) (x1 : TSigned) (v5_0 : Bool) : Option Int :=
  bif v5_0 then
  some (2 : Int)
else
  (impl_isNext x0 (Signed_Head x1)).bind fun y2 =>
    bif !y2 then
      some (3 : Int)
    else
      bif (Head_Kind (Signed_Head x1)) == (1 : Int) then
        (impl_ownerCode x0 x1).bind fun y3 =>
          some y3
      else
        bif (Head_Kind (Signed_Head x1)) == (2 : Int) then
          (impl_heirCode x0 x1).bind fun y4 =>
            some y4
        else
          (impl_judgeCode x0 x1).bind fun y5 =>
            some y5
noncomputable def impl_NextCode.l5 (x0 : THead) (x1 : TSigned) (v5_0 : Bool) : Option Int :=
  impl_NextCode.g5 x0 x1 v5_0
noncomputable abbrev impl_NextCode.b (x0 : THead) (x1 : TSigned) (L5 : Bool → Option Int) : Option Int :=
  (impl_IsHead x0).bind fun y1 =>
  bif !y1 then
    L5 true
  else
    (impl_IsHead (Signed_Head x1)).bind fun y6 =>
      L5 (!y6)
noncomputable def impl_NextCode (x0 : THead) (x1 : TSigned) : Option Int :=
  impl_NextCode.b x0 x1 (impl_NextCode.l5 x0 x1)
noncomputable def impl_MayFollow (x0 : THead) (x1 : TSigned) : Option Bool :=
  (impl_NextCode x0 x1).bind fun y1 =>
  some (y1 == (1 : Int))
noncomputable abbrev impl_FirstWrong.g4 (x0 : List TSigned) (r4 : Int → Int → Option Int) (v4_2 : Int) (v4_3 : Int) : Option Int :=
  bif decide (v4_3 < v4_2) then
  bif decide (0 ≤ v4_3) then
    bif decide (v4_3 < (x0.length : Int)) then
      bif v4_3 == (0 : Int) then
        (impl_IsFirst (x0.getD v4_3.toNat dSigned)).bind fun y1 =>
          bif !y1 then
            some v4_3
          else
            bif decide (v4_3 > (0 : Int)) then
              bif decide (0 ≤ (IntKind.i64.wrap (v4_3 - (1 : Int)))) then
                bif decide ((IntKind.i64.wrap (v4_3 - (1 : Int))) < (x0.length : Int)) then
                  (impl_MayFollow (Signed_Head (x0.getD ((IntKind.i64.wrap (v4_3 - (1 : Int))).toNat) dSigned)) (x0.getD v4_3.toNat dSigned)).bind fun y2 =>
                    bif !y2 then
                      some v4_3
                    else r4 v4_2 (IntKind.i64.wrap (v4_3 + (1 : Int)))
                else none
              else none
            else r4 v4_2 (IntKind.i64.wrap (v4_3 + (1 : Int)))
      else
        bif decide (v4_3 > (0 : Int)) then
          bif decide (0 ≤ (IntKind.i64.wrap (v4_3 - (1 : Int)))) then
            bif decide ((IntKind.i64.wrap (v4_3 - (1 : Int))) < (x0.length : Int)) then
              (impl_MayFollow (Signed_Head (x0.getD ((IntKind.i64.wrap (v4_3 - (1 : Int))).toNat) dSigned)) (x0.getD v4_3.toNat dSigned)).bind fun y3 =>
                bif !y3 then
                  some v4_3
                else r4 v4_2 (IntKind.i64.wrap (v4_3 + (1 : Int)))
            else none
          else none
        else r4 v4_2 (IntKind.i64.wrap (v4_3 + (1 : Int)))
    else none
  else none
else some (-1 : Int)
noncomputable def impl_FirstWrong.l4 (x0 : List TSigned) (n : Nat) : Int → Int → Option Int :=
  V.iter (fun (r4 : Int → Int → Option Int) => fun v4_2 v4_3 => impl_FirstWrong.g4 x0 r4 v4_2 v4_3) (fun _ _ => none) n
theorem impl_FirstWrong.u4 (x0 : List TSigned) (n : Nat) (v4_2 : Int) (v4_3 : Int) : impl_FirstWrong.l4 x0 (n + 1) v4_2 v4_3 = impl_FirstWrong.g4 x0 (impl_FirstWrong.l4 x0 n) v4_2 v4_3 := rfl
noncomputable abbrev impl_FirstWrong.b (x0 : List TSigned) (L4 : Int → Int → Option Int) : Option Int :=
  L4 (x0.length : Int) (0 : Int)
noncomputable def impl_FirstWrong (x0 : List TSigned) : Option Int :=
  impl_FirstWrong.b x0 (impl_FirstWrong.l4 x0 V.KK)
noncomputable def impl_IsChain (x0 : List TSigned) : Option Bool :=
  (impl_InRange (x0.length : Int) (1 : Int) (12 : Int)).bind fun y1 =>
  bif y1 then
    (impl_FirstWrong x0).bind fun y2 =>
      some (decide (y2 < (0 : Int)))
  else some false
noncomputable def impl_last (x0 : List TSigned) : Option THead :=
  bif decide (0 ≤ (IntKind.i64.wrap ((x0.length : Int) - (1 : Int)))) then
  bif decide ((IntKind.i64.wrap ((x0.length : Int) - (1 : Int))) < (x0.length : Int)) then
    some (Signed_Head (x0.getD ((IntKind.i64.wrap ((x0.length : Int) - (1 : Int))).toNat) dSigned))
  else none
else none
noncomputable def impl_MarkOf (x0 : THead) : Option TMark :=
  (impl_HeadDigest x0).bind fun y1 =>
  some ((Head_Zone x0), (Head_Epoch x0), y1)
noncomputable def impl_contradicts_1 (x0 : TSigned) (x1 : (TMark)) : Option Bool :=
  (impl_MarkOf (Signed_Head x0)).bind fun y1 =>
  (impl_Mark_isOf y1 x1).bind fun y2 =>
    bif y2 then
      some (y1.2.2 != x1.2.2)
    else some false
noncomputable abbrev slices_IndexFunc_impl_Signed__contradicts_1.g4 (x0 : List TSigned) (x1 : (Unit) × ((TMark))) (r4 : Int → Int → Option Int) (v4_2 : Int) (v4_3 : Int) : Option Int :=
  bif decide (v4_3 < v4_2) then
  bif decide (0 ≤ v4_3) then
    bif decide (v4_3 < (x0.length : Int)) then
      (impl_contradicts_1 (x0.getD v4_3.toNat dSigned) x1.2).bind fun y1 =>
        bif y1 then
          some v4_3
        else r4 v4_2 (IntKind.i64.wrap (v4_3 + (1 : Int)))
    else none
  else none
else some (-1 : Int)
noncomputable def slices_IndexFunc_impl_Signed__contradicts_1.l4 (x0 : List TSigned) (x1 : (Unit) × ((TMark))) (n : Nat) : Int → Int → Option Int :=
  V.iter (fun (r4 : Int → Int → Option Int) => fun v4_2 v4_3 => slices_IndexFunc_impl_Signed__contradicts_1.g4 x0 x1 r4 v4_2 v4_3) (fun _ _ => none) n
theorem slices_IndexFunc_impl_Signed__contradicts_1.u4 (x0 : List TSigned) (x1 : (Unit) × ((TMark))) (n : Nat) (v4_2 : Int) (v4_3 : Int) : slices_IndexFunc_impl_Signed__contradicts_1.l4 x0 x1 (n + 1) v4_2 v4_3 = slices_IndexFunc_impl_Signed__contradicts_1.g4 x0 x1 (slices_IndexFunc_impl_Signed__contradicts_1.l4 x0 x1 n) v4_2 v4_3 := rfl
noncomputable abbrev slices_IndexFunc_impl_Signed__contradicts_1.b (x0 : List TSigned) (x1 : (Unit) × ((TMark))) (L4 : Int → Int → Option Int) : Option Int :=
  L4 (x0.length : Int) (0 : Int)
noncomputable def slices_IndexFunc_impl_Signed__contradicts_1 (x0 : List TSigned) (x1 : (Unit) × ((TMark))) : Option Int :=
  slices_IndexFunc_impl_Signed__contradicts_1.b x0 x1 (slices_IndexFunc_impl_Signed__contradicts_1.l4 x0 x1 V.KK)
noncomputable def slices_ContainsFunc_impl_Signed__contradicts_1 (x0 : List TSigned) (x1 : (Unit) × ((TMark))) : Option Bool :=
  (slices_IndexFunc_impl_Signed__contradicts_1 x0 (x1.1, x1.2)).bind fun y1 =>
  some (decide (y1 ≥ (0 : Int)))
noncomputable def impl_contradicts (x0 : TMark) (x1 : List TSigned) : Option Bool :=
  (impl_last x1).bind fun y1 =>
  bif x0.1 == (Head_Zone y1) then
    bif decide (x0.2.1 > (Head_Epoch y1)) then
      some true
    else
      (slices_ContainsFunc_impl_Signed__contradicts_1 x1 ((), x0)).bind fun y2 =>
        some y2
  else
    (slices_ContainsFunc_impl_Signed__contradicts_1 x1 ((), x0)).bind fun y3 =>
      some y3
noncomputable def impl_Confirm_1 (x0 : TMark) (x1 : List TSigned) : Option Bool :=
  (impl_contradicts x0 x1).bind fun y1 =>
  some y1
noncomputable abbrev slices_IndexFunc_impl_Mark__Confirm_1.g4 (x0 : List TMark) (x1 : (Unit) × (List TSigned)) (r4 : Int → Int → Option Int) (v4_2 : Int) (v4_3 : Int) : Option Int :=
  bif decide (v4_3 < v4_2) then
  bif decide (0 ≤ v4_3) then
    bif decide (v4_3 < (x0.length : Int)) then
      (impl_Confirm_1 (x0.getD v4_3.toNat dMark) x1.2).bind fun y1 =>
        bif y1 then
          some v4_3
        else r4 v4_2 (IntKind.i64.wrap (v4_3 + (1 : Int)))
    else none
  else none
else some (-1 : Int)
noncomputable def slices_IndexFunc_impl_Mark__Confirm_1.l4 (x0 : List TMark) (x1 : (Unit) × (List TSigned)) (n : Nat) : Int → Int → Option Int :=
  V.iter (fun (r4 : Int → Int → Option Int) => fun v4_2 v4_3 => slices_IndexFunc_impl_Mark__Confirm_1.g4 x0 x1 r4 v4_2 v4_3) (fun _ _ => none) n
theorem slices_IndexFunc_impl_Mark__Confirm_1.u4 (x0 : List TMark) (x1 : (Unit) × (List TSigned)) (n : Nat) (v4_2 : Int) (v4_3 : Int) : slices_IndexFunc_impl_Mark__Confirm_1.l4 x0 x1 (n + 1) v4_2 v4_3 = slices_IndexFunc_impl_Mark__Confirm_1.g4 x0 x1 (slices_IndexFunc_impl_Mark__Confirm_1.l4 x0 x1 n) v4_2 v4_3 := rfl
noncomputable abbrev slices_IndexFunc_impl_Mark__Confirm_1.b (x0 : List TMark) (x1 : (Unit) × (List TSigned)) (L4 : Int → Int → Option Int) : Option Int :=
  L4 (x0.length : Int) (0 : Int)
noncomputable def slices_IndexFunc_impl_Mark__Confirm_1 (x0 : List TMark) (x1 : (Unit) × (List TSigned)) : Option Int :=
  slices_IndexFunc_impl_Mark__Confirm_1.b x0 x1 (slices_IndexFunc_impl_Mark__Confirm_1.l4 x0 x1 V.KK)
noncomputable def slices_ContainsFunc_impl_Mark__Confirm_1 (x0 : List TMark) (x1 : (Unit) × (List TSigned)) : Option Bool :=
  (slices_IndexFunc_impl_Mark__Confirm_1 x0 (x1.1, x1.2)).bind fun y1 =>
  some (decide (y1 ≥ (0 : Int)))
noncomputable def impl_MarkInts (x0 : TMark) : Option (List Int) :=
  some [(241 : Int), x0.1, x0.2.1, x0.2.2]
noncomputable abbrev impl_Confirm.g10 (x0 : TWitness) (x1 : List TSigned) (y1 : TWitness) (r10 : Int → Int → (List TMark) → Option TRWitnessSigBool) (v10_1 : Int) (v10_2 : Int) (v10_10 : List TMark) : Option TRWitnessSigBool :=
  bif decide (v10_2 < v10_1) then
  bif decide (0 ≤ v10_2) then
    bif decide (v10_2 < (x1.length : Int)) then
      (impl_MarkOf (Signed_Head (x1.getD v10_2.toNat dSigned))).bind fun y3 =>
        (slices_ContainsFunc_impl_Mark__Mark_isOf v10_10 (y3, ())).bind fun y4 =>
          bif !y4 then
            bif decide (v10_10.length + [y3].length < 68719476736) then
              r10 v10_1 (IntKind.i64.wrap (v10_2 + (1 : Int))) (v10_10 ++ [y3])
            else none
          else r10 v10_1 (IntKind.i64.wrap (v10_2 + (1 : Int))) v10_10
    else none
  else none
else
  bif decide ((v10_10.length : Int) > (40 : Int)) then
    (impl_copyWitness x0).bind fun y5 =>
      some (RWitnessSigBool_mk y5 dSig false)
  else
    (impl_last x1).bind fun y6 =>
      (impl_MarkOf y6).bind fun y7 =>
        (impl_MarkInts y7).bind fun y8 =>
          (impl_TagOf x0.1 y8).bind fun y9 =>
            V.both (some (RWitnessSigBool_mk (y1.1, v10_10) (x0.1, y9) true))
              (V.both (V.both (some (RWitnessSigBool_mk (y1.1, v10_10) (x0.1, y9) true))
                  (some (RWitnessSigBool_mk (y1.1, v10_10) (x0.1, y9) true)))
                (V.both (V.both (some (RWitnessSigBool_mk (y1.1, v10_10) (x0.1, y9) true))
                    (some (RWitnessSigBool_mk (y1.1, v10_10) (x0.1, y9) true)))
                  (V.both (V.both (V.both (some (RWitnessSigBool_mk (y1.1, v10_10) (x0.1, y9) true))
                        (some (RWitnessSigBool_mk (y1.1, v10_10) (x0.1, y9) true)))
                      (some (RWitnessSigBool_mk (y1.1, v10_10) (x0.1, y9) true)))
                    (V.both (V.both (some (RWitnessSigBool_mk (y1.1, v10_10) (x0.1, y9) true))
                        (some (RWitnessSigBool_mk (y1.1, v10_10) (x0.1, y9) true)))
                      (V.both (V.both (V.both (some (RWitnessSigBool_mk (y1.1, v10_10) (x0.1, y9) true))
                            (some (RWitnessSigBool_mk (y1.1, v10_10) (x0.1, y9) true)))
                          (V.both (V.both (some (RWitnessSigBool_mk (y1.1, v10_10) (x0.1, y9) true))
                              (some (RWitnessSigBool_mk (y1.1, v10_10) (x0.1, y9) true)))
                            (V.both (some (RWitnessSigBool_mk (y1.1, v10_10) (x0.1, y9) true))
                              (some (RWitnessSigBool_mk (y1.1, v10_10) (x0.1, y9) true)))))
                        (V.both (V.both (V.both (some (RWitnessSigBool_mk (y1.1, v10_10) (x0.1, y9) true))
                              (some (RWitnessSigBool_mk (y1.1, v10_10) (x0.1, y9) true)))
                            (some (RWitnessSigBool_mk (y1.1, v10_10) (x0.1, y9) true)))
                          (V.both (V.both (V.both (some (RWitnessSigBool_mk (y1.1, v10_10) (x0.1, y9) true))
                                (some (RWitnessSigBool_mk (y1.1, v10_10) (x0.1, y9) true)))
                              (some (RWitnessSigBool_mk (y1.1, v10_10) (x0.1, y9) true)))
                            (some (RWitnessSigBool_mk (y1.1, v10_10) (x0.1, y9) true)))))))))
noncomputable def impl_Confirm.l10 (x0 : TWitness) (x1 : List TSigned) (y1 : TWitness) (n : Nat) : Int → Int → (List TMark) → Option TRWitnessSigBool :=
  V.iter (fun (r10 : Int → Int → (List TMark) → Option TRWitnessSigBool) => fun v10_1 v10_2 v10_10 => impl_Confirm.g10 x0 x1 y1 r10 v10_1 v10_2 v10_10) (fun _ _ _ => none) n
theorem impl_Confirm.u10 (x0 : TWitness) (x1 : List TSigned) (y1 : TWitness) (n : Nat) (v10_1 : Int) (v10_2 : Int) (v10_10 : List TMark) : impl_Confirm.l10 x0 x1 y1 (n + 1) v10_1 v10_2 v10_10 = impl_Confirm.g10 x0 x1 y1 (impl_Confirm.l10 x0 x1 y1 n) v10_1 v10_2 v10_10 := rfl
noncomputable abbrev impl_Confirm.g7 (x0 : TWitness) (x1 : List TSigned) (y1 : TWitness) (L10 : TWitness → Int → Int → (List TMark) → Option TRWitnessSigBool) (v7_0 : Bool) : Option TRWitnessSigBool :=
  bif v7_0 then
  some (RWitnessSigBool_mk y1 dSig false)
else L10 y1 (x1.length : Int) (0 : Int) y1.2
noncomputable def impl_Confirm.l7 (x0 : TWitness) (x1 : List TSigned) (y1 : TWitness) (v7_0 : Bool) : Option TRWitnessSigBool :=
  impl_Confirm.g7 x0 x1 y1 (fun y1 => impl_Confirm.l10 x0 x1 y1 V.KK) v7_0
noncomputable abbrev impl_Confirm.b (x0 : TWitness) (x1 : List TSigned) (L7 : TWitness → Bool → Option TRWitnessSigBool) : Option TRWitnessSigBool :=
  (impl_copyWitness x0).bind fun y1 =>
  (impl_IsWitness x0).bind fun y2 =>
    bif !y2 then
      L7 y1 true
    else
      (impl_IsChain x1).bind fun y10 =>
        bif !y10 then
          L7 y1 true
        else
          (slices_ContainsFunc_impl_Mark__Confirm_1 x0.2 ((), x1)).bind fun y11 =>
            L7 y1 y11
noncomputable def impl_Confirm (x0 : TWitness) (x1 : List TSigned) : Option TRWitnessSigBool :=
  impl_Confirm.b x0 x1 (fun y1 => impl_Confirm.l7 x0 x1 y1)
noncomputable def laws_eqMark (x0 : TMark) (x1 : TMark) : Option Bool :=
  bif x0.1 != x1.1 then
  some false
else
  bif x0.2.1 != x1.2.1 then
    some false
  else
    bif x0.2.2 != x1.2.2 then
      some false
    else some true
noncomputable abbrev laws_eqMarkS.g8 (x0 : List TMark) (x1 : List TMark) (r8 : Int → Option Bool) (v8_2 : Int) : Option Bool :=
  bif decide (v8_2 < (x0.length : Int)) then
  bif decide (0 ≤ v8_2) then
    bif decide (v8_2 < (x0.length : Int)) then
      bif decide (0 ≤ v8_2) then
        bif decide (v8_2 < (x1.length : Int)) then
          (laws_eqMark (x0.getD v8_2.toNat dMark) (x1.getD v8_2.toNat dMark)).bind fun y1 =>
            bif !y1 then
              some false
            else r8 (IntKind.i64.wrap (v8_2 + (1 : Int)))
        else none
      else none
    else none
  else none
else some true
noncomputable def laws_eqMarkS.l8 (x0 : List TMark) (x1 : List TMark) (n : Nat) : Int → Option Bool :=
  V.iter (fun (r8 : Int → Option Bool) => fun v8_2 => laws_eqMarkS.g8 x0 x1 r8 v8_2) (fun _ => none) n
theorem laws_eqMarkS.u8 (x0 : List TMark) (x1 : List TMark) (n : Nat) (v8_2 : Int) : laws_eqMarkS.l8 x0 x1 (n + 1) v8_2 = laws_eqMarkS.g8 x0 x1 (laws_eqMarkS.l8 x0 x1 n) v8_2 := rfl
noncomputable abbrev laws_eqMarkS.b (x0 : List TMark) (x1 : List TMark) (L8 : Int → Option Bool) : Option Bool :=
  bif (x0.length : Int) != (x1.length : Int) then
  some false
else L8 (0 : Int)
noncomputable def laws_eqMarkS (x0 : List TMark) (x1 : List TMark) : Option Bool :=
  laws_eqMarkS.b x0 x1 (laws_eqMarkS.l8 x0 x1 V.KK)
noncomputable def laws_eqWitness (x0 : TWitness) (x1 : TWitness) : Option Bool :=
  bif x0.1 != x1.1 then
  some false
else
  (laws_eqMarkS x0.2 x1.2).bind fun y1 =>
    bif !y1 then
      some false
    else some true
noncomputable def laws_eqSig (x0 : TSig) (x1 : TSig) : Option Bool :=
  bif x0.1 != x1.1 then
  some false
else
  bif x0.2 != x1.2 then
    some false
  else some true
noncomputable abbrev laws_eqIntS.g8 (x0 : List Int) (x1 : List Int) (r8 : Int → Option Bool) (v8_2 : Int) : Option Bool :=
  bif decide (v8_2 < (x0.length : Int)) then
  bif decide (0 ≤ v8_2) then
    bif decide (v8_2 < (x0.length : Int)) then
      bif decide (0 ≤ v8_2) then
        bif decide (v8_2 < (x1.length : Int)) then
          bif (x0.getD v8_2.toNat (0 : Int)) != (x1.getD v8_2.toNat (0 : Int)) then
            some false
          else r8 (IntKind.i64.wrap (v8_2 + (1 : Int)))
        else none
      else none
    else none
  else none
else some true
noncomputable def laws_eqIntS.l8 (x0 : List Int) (x1 : List Int) (n : Nat) : Int → Option Bool :=
  V.iter (fun (r8 : Int → Option Bool) => fun v8_2 => laws_eqIntS.g8 x0 x1 r8 v8_2) (fun _ => none) n
theorem laws_eqIntS.u8 (x0 : List Int) (x1 : List Int) (n : Nat) (v8_2 : Int) : laws_eqIntS.l8 x0 x1 (n + 1) v8_2 = laws_eqIntS.g8 x0 x1 (laws_eqIntS.l8 x0 x1 n) v8_2 := rfl
noncomputable abbrev laws_eqIntS.b (x0 : List Int) (x1 : List Int) (L8 : Int → Option Bool) : Option Bool :=
  bif (x0.length : Int) != (x1.length : Int) then
  some false
else L8 (0 : Int)
noncomputable def laws_eqIntS (x0 : List Int) (x1 : List Int) : Option Bool :=
  laws_eqIntS.b x0 x1 (laws_eqIntS.l8 x0 x1 V.KK)
noncomputable def laws_eqKeys (x0 : TKeys) (x1 : TKeys) : Option Bool :=
  (laws_eqIntS x0.1 x1.1).bind fun y1 =>
  bif !y1 then
    some false
  else
    bif x0.2 != x1.2 then
      some false
    else some true
noncomputable def laws_eqHead (x0 : THead) (x1 : THead) : Option Bool :=
  bif (Head_Zone x0) != (Head_Zone x1) then
  some false
else
  bif (Head_Epoch x0) != (Head_Epoch x1) then
    some false
  else
    bif (Head_Kind x0) != (Head_Kind x1) then
      some false
    else
      bif (Head_Time x0) != (Head_Time x1) then
        some false
      else
        bif (Head_Until x0) != (Head_Until x1) then
          some false
        else
          bif (Head_Count x0) != (Head_Count x1) then
            some false
          else
            bif (Head_Root x0) != (Head_Root x1) then
              some false
            else
              bif (Head_Prev x0) != (Head_Prev x1) then
                some false
              else
                (laws_eqKeys (Head_Keys x0) (Head_Keys x1)).bind fun y1 =>
                  bif !y1 then
                    some false
                  else
                    (laws_eqKeys (Head_Heirs x0) (Head_Heirs x1)).bind fun y2 =>
                      bif !y2 then
                        some false
                      else
                        bif (Head_Wait x0) != (Head_Wait x1) then
                          some false
                        else
                          (laws_eqKeys (Head_Judge x0) (Head_Judge x1)).bind fun y3 =>
                            bif !y3 then
                              some false
                            else
                              bif !((Head_Frozen x0) == (Head_Frozen x1)) then
                                some false
                              else some true
noncomputable abbrev laws_eqSigS.g8 (x0 : List TSig) (x1 : List TSig) (r8 : Int → Option Bool) (v8_2 : Int) : Option Bool :=
  bif decide (v8_2 < (x0.length : Int)) then
  bif decide (0 ≤ v8_2) then
    bif decide (v8_2 < (x0.length : Int)) then
      bif decide (0 ≤ v8_2) then
        bif decide (v8_2 < (x1.length : Int)) then
          (laws_eqSig (x0.getD v8_2.toNat dSig) (x1.getD v8_2.toNat dSig)).bind fun y1 =>
            bif !y1 then
              some false
            else r8 (IntKind.i64.wrap (v8_2 + (1 : Int)))
        else none
      else none
    else none
  else none
else some true
noncomputable def laws_eqSigS.l8 (x0 : List TSig) (x1 : List TSig) (n : Nat) : Int → Option Bool :=
  V.iter (fun (r8 : Int → Option Bool) => fun v8_2 => laws_eqSigS.g8 x0 x1 r8 v8_2) (fun _ => none) n
theorem laws_eqSigS.u8 (x0 : List TSig) (x1 : List TSig) (n : Nat) (v8_2 : Int) : laws_eqSigS.l8 x0 x1 (n + 1) v8_2 = laws_eqSigS.g8 x0 x1 (laws_eqSigS.l8 x0 x1 n) v8_2 := rfl
noncomputable abbrev laws_eqSigS.b (x0 : List TSig) (x1 : List TSig) (L8 : Int → Option Bool) : Option Bool :=
  bif (x0.length : Int) != (x1.length : Int) then
  some false
else L8 (0 : Int)
noncomputable def laws_eqSigS (x0 : List TSig) (x1 : List TSig) : Option Bool :=
  laws_eqSigS.b x0 x1 (laws_eqSigS.l8 x0 x1 V.KK)
noncomputable def laws_eqSigned (x0 : TSigned) (x1 : TSigned) : Option Bool :=
  (laws_eqHead (Signed_Head x0) (Signed_Head x1)).bind fun y1 =>
  bif !y1 then
    some false
  else
    (laws_eqSigS (Signed_Sigs x0) (Signed_Sigs x1)).bind fun y2 =>
      bif !y2 then
        some false
      else some true
noncomputable abbrev laws_eqSignedS.g8 (x0 : List TSigned) (x1 : List TSigned) (r8 : Int → Option Bool) (v8_2 : Int) : Option Bool :=
  bif decide (v8_2 < (x0.length : Int)) then
  bif decide (0 ≤ v8_2) then
    bif decide (v8_2 < (x0.length : Int)) then
      bif decide (0 ≤ v8_2) then
        bif decide (v8_2 < (x1.length : Int)) then
          (laws_eqSigned (x0.getD v8_2.toNat dSigned) (x1.getD v8_2.toNat dSigned)).bind fun y1 =>
            bif !y1 then
              some false
            else r8 (IntKind.i64.wrap (v8_2 + (1 : Int)))
        else none
      else none
    else none
  else none
else some true
noncomputable def laws_eqSignedS.l8 (x0 : List TSigned) (x1 : List TSigned) (n : Nat) : Int → Option Bool :=
  V.iter (fun (r8 : Int → Option Bool) => fun v8_2 => laws_eqSignedS.g8 x0 x1 r8 v8_2) (fun _ => none) n
theorem laws_eqSignedS.u8 (x0 : List TSigned) (x1 : List TSigned) (n : Nat) (v8_2 : Int) : laws_eqSignedS.l8 x0 x1 (n + 1) v8_2 = laws_eqSignedS.g8 x0 x1 (laws_eqSignedS.l8 x0 x1 n) v8_2 := rfl
noncomputable abbrev laws_eqSignedS.b (x0 : List TSigned) (x1 : List TSigned) (L8 : Int → Option Bool) : Option Bool :=
  bif (x0.length : Int) != (x1.length : Int) then
  some false
else L8 (0 : Int)
noncomputable def laws_eqSignedS (x0 : List TSigned) (x1 : List TSigned) : Option Bool :=
  laws_eqSignedS.b x0 x1 (laws_eqSignedS.l8 x0 x1 V.KK)
noncomputable abbrev laws_markMarkS.w1 (v4_0 : Int) (v4_1 : Int) (v4_2 : List TMark) : List TMark :=
  V.upd (V.upd v4_2 v4_1.toNat (fun z => (v4_0, z.2))) v4_1.toNat (fun z => (z.1, IntKind.i64.wrap (v4_0 + (1 : Int)), z.2.2))
noncomputable abbrev laws_markMarkS.w2 (v4_0 : Int) (v4_1 : Int) (v4_2 : List TMark) : List TMark :=
  V.upd (laws_markMarkS.w1 v4_0 v4_1 v4_2) v4_1.toNat (fun z => (z.1, z.2.1, IntKind.i64.wrap ((IntKind.i64.wrap (v4_0 + (1 : Int))) + (1 : Int))))
noncomputable abbrev laws_markMarkS.g4 (r4 : Int → Int → (List TMark) → Option (List TMark × Int)) (v4_0 : Int) (v4_1 : Int) (v4_2 : List TMark) : Option (List TMark × Int) :=
  bif decide (v4_1 < (v4_2.length : Int)) then
  bif decide (0 ≤ v4_1) then
    bif decide (v4_1 < (v4_2.length : Int)) then
      bif decide (0 ≤ v4_1) then
        bif decide (v4_1 < (((V.upd v4_2 v4_1.toNat (fun z => (v4_0, z.2))).length) : Int)) then
          bif decide (0 ≤ v4_1) then
            bif decide (v4_1 < (((laws_markMarkS.w1 v4_0 v4_1 v4_2).length) : Int)) then
              r4 (IntKind.i64.wrap ((IntKind.i64.wrap ((IntKind.i64.wrap (v4_0 + (1 : Int))) + (1 : Int))) + (1 : Int))) (IntKind.i64.wrap (v4_1 + (1 : Int))) (laws_markMarkS.w2 v4_0 v4_1 v4_2)
            else none
          else none
        else none
      else none
    else none
  else none
else some (v4_2, v4_0)
noncomputable def laws_markMarkS.l4 (n : Nat) : Int → Int → (List TMark) → Option (List TMark × Int) :=
  V.iter (fun (r4 : Int → Int → (List TMark) → Option (List TMark × Int)) => fun v4_0 v4_1 v4_2 => laws_markMarkS.g4 r4 v4_0 v4_1 v4_2) (fun _ _ _ => none) n
theorem laws_markMarkS.u4 (n : Nat) (v4_0 : Int) (v4_1 : Int) (v4_2 : List TMark) : laws_markMarkS.l4 (n + 1) v4_0 v4_1 v4_2 = laws_markMarkS.g4 (laws_markMarkS.l4 n) v4_0 v4_1 v4_2 := rfl
noncomputable abbrev laws_markMarkS.b (x0 : List TMark) (x1 : Int) (L4 : Int → Int → (List TMark) → Option (List TMark × Int)) : Option (List TMark × Int) :=
  L4 x1 (0 : Int) x0
noncomputable def laws_markMarkS (x0 : List TMark) (x1 : Int) : Option (List TMark × Int) :=
  laws_markMarkS.b x0 x1 (laws_markMarkS.l4 V.KK)
noncomputable def laws_markWitness (x0 : TWitness) (x1 : Int) : Option (List TMark × Int) :=
  (laws_markMarkS x0.2 x1).bind fun y1 =>
  some y1
noncomputable abbrev laws_markIntS.g4 (r4 : Int → Int → (List Int) → Option TKeys) (v4_0 : Int) (v4_1 : Int) (v4_2 : List Int) : Option TKeys :=
  bif decide (v4_1 < (v4_2.length : Int)) then
  bif decide (0 ≤ v4_1) then
    bif decide (v4_1 < (v4_2.length : Int)) then
      r4 (IntKind.i64.wrap (v4_0 + (1 : Int))) (IntKind.i64.wrap (v4_1 + (1 : Int))) (v4_2.set v4_1.toNat v4_0)
    else none
  else none
else some (v4_2, v4_0)
noncomputable def laws_markIntS.l4 (n : Nat) : Int → Int → (List Int) → Option TKeys :=
  V.iter (fun (r4 : Int → Int → (List Int) → Option TKeys) => fun v4_0 v4_1 v4_2 => laws_markIntS.g4 r4 v4_0 v4_1 v4_2) (fun _ _ _ => none) n
theorem laws_markIntS.u4 (n : Nat) (v4_0 : Int) (v4_1 : Int) (v4_2 : List Int) : laws_markIntS.l4 (n + 1) v4_0 v4_1 v4_2 = laws_markIntS.g4 (laws_markIntS.l4 n) v4_0 v4_1 v4_2 := rfl
noncomputable abbrev laws_markIntS.b (x0 : List Int) (x1 : Int) (L4 : Int → Int → (List Int) → Option TKeys) : Option TKeys :=
  L4 x1 (0 : Int) x0
noncomputable def laws_markIntS (x0 : List Int) (x1 : Int) : Option TKeys :=
  laws_markIntS.b x0 x1 (laws_markIntS.l4 V.KK)
noncomputable abbrev laws_markSigS.w1 (v4_0 : Int) (v4_1 : Int) (v4_2 : List TSig) : List TSig :=
  V.upd (V.upd v4_2 v4_1.toNat (fun z => (v4_0, z.2))) v4_1.toNat (fun z => (z.1, IntKind.i64.wrap (v4_0 + (1 : Int))))
noncomputable abbrev laws_markSigS.g4 (r4 : Int → Int → (List TSig) → Option (List TSig × Int)) (v4_0 : Int) (v4_1 : Int) (v4_2 : List TSig) : Option (List TSig × Int) :=
  bif decide (v4_1 < (v4_2.length : Int)) then
  bif decide (0 ≤ v4_1) then
    bif decide (v4_1 < (v4_2.length : Int)) then
      bif decide (0 ≤ v4_1) then
        bif decide (v4_1 < (((V.upd v4_2 v4_1.toNat (fun z => (v4_0, z.2))).length) : Int)) then
          r4 (IntKind.i64.wrap ((IntKind.i64.wrap (v4_0 + (1 : Int))) + (1 : Int))) (IntKind.i64.wrap (v4_1 + (1 : Int))) (laws_markSigS.w1 v4_0 v4_1 v4_2)
        else none
      else none
    else none
  else none
else some (v4_2, v4_0)
noncomputable def laws_markSigS.l4 (n : Nat) : Int → Int → (List TSig) → Option (List TSig × Int) :=
  V.iter (fun (r4 : Int → Int → (List TSig) → Option (List TSig × Int)) => fun v4_0 v4_1 v4_2 => laws_markSigS.g4 r4 v4_0 v4_1 v4_2) (fun _ _ _ => none) n
theorem laws_markSigS.u4 (n : Nat) (v4_0 : Int) (v4_1 : Int) (v4_2 : List TSig) : laws_markSigS.l4 (n + 1) v4_0 v4_1 v4_2 = laws_markSigS.g4 (laws_markSigS.l4 n) v4_0 v4_1 v4_2 := rfl
noncomputable abbrev laws_markSigS.b (x0 : List TSig) (x1 : Int) (L4 : Int → Int → (List TSig) → Option (List TSig × Int)) : Option (List TSig × Int) :=
  L4 x1 (0 : Int) x0
noncomputable def laws_markSigS (x0 : List TSig) (x1 : Int) : Option (List TSig × Int) :=
  laws_markSigS.b x0 x1 (laws_markSigS.l4 V.KK)
noncomputable abbrev laws_markSignedS.w1 (v4_0 : Int) (v4_1 : Int) (v4_2 : List TSigned) : List TSigned :=
  V.upd (V.upd v4_2 v4_1.toNat (fun z => (v4_0, z.2))) v4_1.toNat (fun z => (z.1, IntKind.i64.wrap (v4_0 + (1 : Int)), z.2.2))
noncomputable abbrev laws_markSignedS.w2 (v4_0 : Int) (v4_1 : Int) (v4_2 : List TSigned) : List TSigned :=
  V.upd (laws_markSignedS.w1 v4_0 v4_1 v4_2) v4_1.toNat (fun z => (z.1, z.2.1, IntKind.i64.wrap ((IntKind.i64.wrap (v4_0 + (1 : Int))) + (1 : Int)), z.2.2.2))
noncomputable abbrev laws_markSignedS.w3 (v4_0 : Int) (v4_1 : Int) (v4_2 : List TSigned) : List TSigned :=
  V.upd (laws_markSignedS.w2 v4_0 v4_1 v4_2) v4_1.toNat (fun z => (z.1, z.2.1, z.2.2.1, IntKind.i64.wrap ((IntKind.i64.wrap ((IntKind.i64.wrap (v4_0 + (1 : Int))) + (1 : Int))) + (1 : Int)), z.2.2.2.2))
noncomputable abbrev laws_markSignedS.w4 (v4_0 : Int) (v4_1 : Int) (v4_2 : List TSigned) : List TSigned :=
  V.upd (laws_markSignedS.w3 v4_0 v4_1 v4_2) v4_1.toNat (fun z => (z.1, z.2.1, z.2.2.1, z.2.2.2.1, IntKind.i64.wrap ((IntKind.i64.wrap ((IntKind.i64.wrap ((IntKind.i64.wrap (v4_0 + (1 : Int))) + (1 : Int))) + (1 : Int))) + (1 : Int)), z.2.2.2.2.2))
noncomputable abbrev laws_markSignedS.w5 (v4_0 : Int) (v4_1 : Int) (v4_2 : List TSigned) : List TSigned :=
  V.upd (laws_markSignedS.w4 v4_0 v4_1 v4_2) v4_1.toNat (fun z => (z.1, z.2.1, z.2.2.1, z.2.2.2.1, z.2.2.2.2.1, IntKind.i64.wrap ((IntKind.i64.wrap ((IntKind.i64.wrap ((IntKind.i64.wrap ((IntKind.i64.wrap (v4_0 + (1 : Int))) + (1 : Int))) + (1 : Int))) + (1 : Int))) + (1 : Int)), z.2.2.2.2.2.2))
noncomputable abbrev laws_markSignedS.w6 (v4_0 : Int) (v4_1 : Int) (v4_2 : List TSigned) : List TSigned :=
  V.upd (laws_markSignedS.w5 v4_0 v4_1 v4_2) v4_1.toNat (fun z => (z.1, z.2.1, z.2.2.1, z.2.2.2.1, z.2.2.2.2.1, z.2.2.2.2.2.1, IntKind.i64.wrap ((IntKind.i64.wrap ((IntKind.i64.wrap ((IntKind.i64.wrap ((IntKind.i64.wrap ((IntKind.i64.wrap (v4_0 + (1 : Int))) + (1 : Int))) + (1 : Int))) + (1 : Int))) + (1 : Int))) + (1 : Int)), z.2.2.2.2.2.2.2))
noncomputable abbrev laws_markSignedS.w7 (v4_0 : Int) (v4_1 : Int) (v4_2 : List TSigned) : List TSigned :=
  V.upd (laws_markSignedS.w6 v4_0 v4_1 v4_2) v4_1.toNat (fun z => (z.1, z.2.1, z.2.2.1, z.2.2.2.1, z.2.2.2.2.1, z.2.2.2.2.2.1, z.2.2.2.2.2.2.1, IntKind.i64.wrap ((IntKind.i64.wrap ((IntKind.i64.wrap ((IntKind.i64.wrap ((IntKind.i64.wrap ((IntKind.i64.wrap ((IntKind.i64.wrap (v4_0 + (1 : Int))) + (1 : Int))) + (1 : Int))) + (1 : Int))) + (1 : Int))) + (1 : Int))) + (1 : Int)), z.2.2.2.2.2.2.2.2))
noncomputable abbrev laws_markSignedS.w8 (v4_0 : Int) (v4_1 : Int) (v4_2 : List TSigned) (y1 : TKeys) : List TSigned :=
  V.upd (laws_markSignedS.w7 v4_0 v4_1 v4_2) v4_1.toNat (fun z => (z.1, z.2.1, z.2.2.1, z.2.2.2.1, z.2.2.2.2.1, z.2.2.2.2.2.1, z.2.2.2.2.2.2.1, z.2.2.2.2.2.2.2.1, y1.1, z.2.2.2.2.2.2.2.2.2))
noncomputable abbrev laws_markSignedS.w9 (v4_0 : Int) (v4_1 : Int) (v4_2 : List TSigned) (y1 : TKeys) : List TSigned :=
  V.upd (laws_markSignedS.w8 v4_0 v4_1 v4_2 y1) v4_1.toNat (fun z => (z.1, z.2.1, z.2.2.1, z.2.2.2.1, z.2.2.2.2.1, z.2.2.2.2.2.1, z.2.2.2.2.2.2.1, z.2.2.2.2.2.2.2.1, z.2.2.2.2.2.2.2.2.1, y1.2, z.2.2.2.2.2.2.2.2.2.2))
noncomputable abbrev laws_markSignedS.w10 (v4_0 : Int) (v4_1 : Int) (v4_2 : List TSigned) (y1 : TKeys) (y2 : TKeys) : List TSigned :=
  V.upd (laws_markSignedS.w9 v4_0 v4_1 v4_2 y1) v4_1.toNat (fun z => (z.1, z.2.1, z.2.2.1, z.2.2.2.1, z.2.2.2.2.1, z.2.2.2.2.2.1, z.2.2.2.2.2.2.1, z.2.2.2.2.2.2.2.1, z.2.2.2.2.2.2.2.2.1, z.2.2.2.2.2.2.2.2.2.1, y2.1, z.2.2.2.2.2.2.2.2.2.2.2))
noncomputable abbrev laws_markSignedS.w11 (v4_0 : Int) (v4_1 : Int) (v4_2 : List TSigned) (y1 : TKeys) (y2 : TKeys) : List TSigned :=
  V.upd (laws_markSignedS.w10 v4_0 v4_1 v4_2 y1 y2) v4_1.toNat (fun z => (z.1, z.2.1, z.2.2.1, z.2.2.2.1, z.2.2.2.2.1, z.2.2.2.2.2.1, z.2.2.2.2.2.2.1, z.2.2.2.2.2.2.2.1, z.2.2.2.2.2.2.2.2.1, z.2.2.2.2.2.2.2.2.2.1, z.2.2.2.2.2.2.2.2.2.2.1, y2.2, z.2.2.2.2.2.2.2.2.2.2.2.2))
noncomputable abbrev laws_markSignedS.w12 (v4_0 : Int) (v4_1 : Int) (v4_2 : List TSigned) (y1 : TKeys) (y2 : TKeys) : List TSigned :=
  V.upd (laws_markSignedS.w11 v4_0 v4_1 v4_2 y1 y2) v4_1.toNat (fun z => (z.1, z.2.1, z.2.2.1, z.2.2.2.1, z.2.2.2.2.1, z.2.2.2.2.2.1, z.2.2.2.2.2.2.1, z.2.2.2.2.2.2.2.1, z.2.2.2.2.2.2.2.2.1, z.2.2.2.2.2.2.2.2.2.1, z.2.2.2.2.2.2.2.2.2.2.1, z.2.2.2.2.2.2.2.2.2.2.2.1, IntKind.i64.wrap (y2.2 + (1 : Int)), z.2.2.2.2.2.2.2.2.2.2.2.2.2))
noncomputable abbrev laws_markSignedS.w13 (v4_0 : Int) (v4_1 : Int) (v4_2 : List TSigned) (y1 : TKeys) (y2 : TKeys) (y3 : TKeys) : List TSigned :=
  V.upd (laws_markSignedS.w12 v4_0 v4_1 v4_2 y1 y2) v4_1.toNat (fun z => (z.1, z.2.1, z.2.2.1, z.2.2.2.1, z.2.2.2.2.1, z.2.2.2.2.2.1, z.2.2.2.2.2.2.1, z.2.2.2.2.2.2.2.1, z.2.2.2.2.2.2.2.2.1, z.2.2.2.2.2.2.2.2.2.1, z.2.2.2.2.2.2.2.2.2.2.1, z.2.2.2.2.2.2.2.2.2.2.2.1, z.2.2.2.2.2.2.2.2.2.2.2.2.1, y3.1, z.2.2.2.2.2.2.2.2.2.2.2.2.2.2))
noncomputable abbrev laws_markSignedS.w14 (v4_0 : Int) (v4_1 : Int) (v4_2 : List TSigned) (y1 : TKeys) (y2 : TKeys) (y3 : TKeys) : List TSigned :=
  V.upd (laws_markSignedS.w13 v4_0 v4_1 v4_2 y1 y2 y3) v4_1.toNat (fun z => (z.1, z.2.1, z.2.2.1, z.2.2.2.1, z.2.2.2.2.1, z.2.2.2.2.2.1, z.2.2.2.2.2.2.1, z.2.2.2.2.2.2.2.1, z.2.2.2.2.2.2.2.2.1, z.2.2.2.2.2.2.2.2.2.1, z.2.2.2.2.2.2.2.2.2.2.1, z.2.2.2.2.2.2.2.2.2.2.2.1, z.2.2.2.2.2.2.2.2.2.2.2.2.1, z.2.2.2.2.2.2.2.2.2.2.2.2.2.1, y3.2, z.2.2.2.2.2.2.2.2.2.2.2.2.2.2.2))
noncomputable abbrev laws_markSignedS.w15 (v4_0 : Int) (v4_1 : Int) (v4_2 : List TSigned) (y1 : TKeys) (y2 : TKeys) (y3 : TKeys) : List TSigned :=
  V.upd (laws_markSignedS.w14 v4_0 v4_1 v4_2 y1 y2 y3) v4_1.toNat (fun z => (z.1, z.2.1, z.2.2.1, z.2.2.2.1, z.2.2.2.2.1, z.2.2.2.2.2.1, z.2.2.2.2.2.2.1, z.2.2.2.2.2.2.2.1, z.2.2.2.2.2.2.2.2.1, z.2.2.2.2.2.2.2.2.2.1, z.2.2.2.2.2.2.2.2.2.2.1, z.2.2.2.2.2.2.2.2.2.2.2.1, z.2.2.2.2.2.2.2.2.2.2.2.2.1, z.2.2.2.2.2.2.2.2.2.2.2.2.2.1, z.2.2.2.2.2.2.2.2.2.2.2.2.2.2.1, (Int.tmod (IntKind.i64.wrap (y3.2 + (1 : Int))) (3 : Int)) == (0 : Int), z.2.2.2.2.2.2.2.2.2.2.2.2.2.2.2.2))
noncomputable abbrev laws_markSignedS.w16 (v4_0 : Int) (v4_1 : Int) (v4_2 : List TSigned) (y1 : TKeys) (y2 : TKeys) (y3 : TKeys) (y4 : List TSig × Int) : List TSigned :=
  V.upd (laws_markSignedS.w15 v4_0 v4_1 v4_2 y1 y2 y3) v4_1.toNat (fun z => (z.1, z.2.1, z.2.2.1, z.2.2.2.1, z.2.2.2.2.1, z.2.2.2.2.2.1, z.2.2.2.2.2.2.1, z.2.2.2.2.2.2.2.1, z.2.2.2.2.2.2.2.2.1, z.2.2.2.2.2.2.2.2.2.1, z.2.2.2.2.2.2.2.2.2.2.1, z.2.2.2.2.2.2.2.2.2.2.2.1, z.2.2.2.2.2.2.2.2.2.2.2.2.1, z.2.2.2.2.2.2.2.2.2.2.2.2.2.1, z.2.2.2.2.2.2.2.2.2.2.2.2.2.2.1, z.2.2.2.2.2.2.2.2.2.2.2.2.2.2.2.1, y4.1))
noncomputable abbrev laws_markSignedS.g4 (r4 : Int → Int → (List TSigned) → Option (List TSigned × Int)) (v4_0 : Int) (v4_1 : Int) (v4_2 : List TSigned) : Option (List TSigned × Int) :=
  bif decide (v4_1 < (v4_2.length : Int)) then
  bif decide (0 ≤ v4_1) then
    bif decide (v4_1 < (v4_2.length : Int)) then
      bif decide (0 ≤ v4_1) then
        bif decide (v4_1 < (((V.upd v4_2 v4_1.toNat (fun z => (v4_0, z.2))).length) : Int)) then
          bif decide (0 ≤ v4_1) then
            bif decide (v4_1 < (((laws_markSignedS.w1 v4_0 v4_1 v4_2).length) : Int)) then
              bif decide (0 ≤ v4_1) then
                bif decide (v4_1 < (((laws_markSignedS.w2 v4_0 v4_1 v4_2).length) : Int)) then
                  bif decide (0 ≤ v4_1) then
                    bif decide (v4_1 < (((laws_markSignedS.w3 v4_0 v4_1 v4_2).length) : Int)) then
                      bif decide (0 ≤ v4_1) then
                        bif decide (v4_1 < (((laws_markSignedS.w4 v4_0 v4_1 v4_2).length) : Int)) then
                          bif decide (0 ≤ v4_1) then
                            bif decide (v4_1 < (((laws_markSignedS.w5 v4_0 v4_1 v4_2).length) : Int)) then
                              bif decide (0 ≤ v4_1) then
                                bif decide (v4_1 < (((laws_markSignedS.w6 v4_0 v4_1 v4_2).length) : Int)) then
                                  bif decide (0 ≤ v4_1) then
                                    bif decide (v4_1 < (((laws_markSignedS.w7 v4_0 v4_1 v4_2).length) : Int)) then
                                      (laws_markIntS (Head_Keys (Signed_Head ((laws_markSignedS.w7 v4_0 v4_1 v4_2).getD v4_1.toNat dSigned))).1 (IntKind.i64.wrap ((IntKind.i64.wrap ((IntKind.i64.wrap ((IntKind.i64.wrap ((IntKind.i64.wrap ((IntKind.i64.wrap ((IntKind.i64.wrap ((IntKind.i64.wrap (v4_0 + (1 : Int))) + (1 : Int))) + (1 : Int))) + (1 : Int))) + (1 : Int))) + (1 : Int))) + (1 : Int))) + (1 : Int)))).bind fun y1 =>
                                        bif decide (0 ≤ v4_1) then
                                          bif decide (v4_1 < (((laws_markSignedS.w8 v4_0 v4_1 v4_2 y1).length) : Int)) then
                                            bif decide (0 ≤ v4_1) then
                                              bif decide (v4_1 < (((laws_markSignedS.w9 v4_0 v4_1 v4_2 y1).length) : Int)) then
                                                (laws_markIntS (Head_Heirs (Signed_Head ((laws_markSignedS.w9 v4_0 v4_1 v4_2 y1).getD v4_1.toNat dSigned))).1 (IntKind.i64.wrap (y1.2 + (1 : Int)))).bind fun y2 =>
                                                  bif decide (0 ≤ v4_1) then
                                                    bif decide (v4_1 < (((laws_markSignedS.w10 v4_0 v4_1 v4_2 y1 y2).length) : Int)) then
                                                      bif decide (0 ≤ v4_1) then
                                                        bif decide (v4_1 < (((laws_markSignedS.w11 v4_0 v4_1 v4_2 y1 y2).length) : Int)) then
                                                          bif decide (0 ≤ v4_1) then
                                                            bif decide (v4_1 < (((laws_markSignedS.w12 v4_0 v4_1 v4_2 y1 y2).length) : Int)) then
                                                              (laws_markIntS (Head_Judge (Signed_Head ((laws_markSignedS.w12 v4_0 v4_1 v4_2 y1 y2).getD v4_1.toNat dSigned))).1 (IntKind.i64.wrap ((IntKind.i64.wrap (y2.2 + (1 : Int))) + (1 : Int)))).bind fun y3 =>
                                                                bif decide (0 ≤ v4_1) then
                                                                  bif decide (v4_1 < (((laws_markSignedS.w13 v4_0 v4_1 v4_2 y1 y2 y3).length) : Int)) then
                                                                    bif ((3 : Int) == (0 : Int)) then
                                                                      none
                                                                    else
                                                                      bif decide (0 ≤ v4_1) then
                                                                        bif decide (v4_1 < (((laws_markSignedS.w14 v4_0 v4_1 v4_2 y1 y2 y3).length) : Int)) then
                                                                          bif decide (0 ≤ v4_1) then
                                                                            bif decide (v4_1 < (((laws_markSignedS.w15 v4_0 v4_1 v4_2 y1 y2 y3).length) : Int)) then
                                                                              (laws_markSigS (Signed_Sigs ((laws_markSignedS.w15 v4_0 v4_1 v4_2 y1 y2 y3).getD v4_1.toNat dSigned)) (IntKind.i64.wrap ((IntKind.i64.wrap (y3.2 + (1 : Int))) + (1 : Int)))).bind fun y4 =>
                                                                                r4 y4.2 (IntKind.i64.wrap (v4_1 + (1 : Int))) (laws_markSignedS.w16 v4_0 v4_1 v4_2 y1 y2 y3 y4)
                                                                            else none
                                                                          else none
                                                                        else none
                                                                      else none
                                                                  else none
                                                                else none
                                                            else none
                                                          else none
                                                        else none
                                                      else none
                                                    else none
                                                  else none
                                              else none
                                            else none
                                          else none
                                        else none
                                    else none
                                  else none
                                else none
                              else none
                            else none
                          else none
                        else none
                      else none
                    else none
                  else none
                else none
              else none
            else none
          else none
        else none
      else none
    else none
  else none
else some (v4_2, v4_0)
noncomputable def laws_markSignedS.l4 (n : Nat) : Int → Int → (List TSigned) → Option (List TSigned × Int) :=
  V.iter (fun (r4 : Int → Int → (List TSigned) → Option (List TSigned × Int)) => fun v4_0 v4_1 v4_2 => laws_markSignedS.g4 r4 v4_0 v4_1 v4_2) (fun _ _ _ => none) n
theorem laws_markSignedS.u4 (n : Nat) (v4_0 : Int) (v4_1 : Int) (v4_2 : List TSigned) : laws_markSignedS.l4 (n + 1) v4_0 v4_1 v4_2 = laws_markSignedS.g4 (laws_markSignedS.l4 n) v4_0 v4_1 v4_2 := rfl
noncomputable abbrev laws_markSignedS.b (x0 : List TSigned) (x1 : Int) (L4 : Int → Int → (List TSigned) → Option (List TSigned × Int)) : Option (List TSigned × Int) :=
  L4 x1 (0 : Int) x0
noncomputable def laws_markSignedS (x0 : List TSigned) (x1 : Int) : Option (List TSigned × Int) :=
  laws_markSignedS.b x0 x1 (laws_markSignedS.l4 V.KK)
noncomputable abbrev laws_heldMarkS.g4 (x0 : List TMark) (r4 : Int → Int → Option Int) (v4_1 : Int) (v4_2 : Int) : Option Int :=
  bif decide (v4_2 < (x0.length : Int)) then
  bif decide (0 ≤ v4_2) then
    bif decide (v4_2 < (x0.length : Int)) then
      bif (x0.getD v4_2.toNat dMark).1 != v4_1 then
        some (-1 : Int)
      else
        bif decide (0 ≤ v4_2) then
          bif decide (v4_2 < (x0.length : Int)) then
            bif (x0.getD v4_2.toNat dMark).2.1 != (IntKind.i64.wrap (v4_1 + (1 : Int))) then
              some (-1 : Int)
            else
              bif decide (0 ≤ v4_2) then
                bif decide (v4_2 < (x0.length : Int)) then
                  bif (x0.getD v4_2.toNat dMark).2.2 != (IntKind.i64.wrap ((IntKind.i64.wrap (v4_1 + (1 : Int))) + (1 : Int))) then
                    some (-1 : Int)
                  else r4 (IntKind.i64.wrap ((IntKind.i64.wrap ((IntKind.i64.wrap (v4_1 + (1 : Int))) + (1 : Int))) + (1 : Int))) (IntKind.i64.wrap (v4_2 + (1 : Int)))
                else none
              else none
          else none
        else none
    else none
  else none
else some v4_1
noncomputable def laws_heldMarkS.l4 (x0 : List TMark) (n : Nat) : Int → Int → Option Int :=
  V.iter (fun (r4 : Int → Int → Option Int) => fun v4_1 v4_2 => laws_heldMarkS.g4 x0 r4 v4_1 v4_2) (fun _ _ => none) n
theorem laws_heldMarkS.u4 (x0 : List TMark) (n : Nat) (v4_1 : Int) (v4_2 : Int) : laws_heldMarkS.l4 x0 (n + 1) v4_1 v4_2 = laws_heldMarkS.g4 x0 (laws_heldMarkS.l4 x0 n) v4_1 v4_2 := rfl
noncomputable abbrev laws_heldMarkS.b (x0 : List TMark) (x1 : Int) (L4 : Int → Int → Option Int) : Option Int :=
  L4 x1 (0 : Int)
noncomputable def laws_heldMarkS (x0 : List TMark) (x1 : Int) : Option Int :=
  laws_heldMarkS.b x0 x1 (laws_heldMarkS.l4 x0 V.KK)
noncomputable def laws_heldWitness (x0 : TWitness) (x1 : Int) : Option Int :=
  (laws_heldMarkS x0.2 x1).bind fun y1 =>
  bif decide (y1 < (0 : Int)) then
    some (-1 : Int)
  else some y1
noncomputable abbrev laws_FnExactConfirm.g69 (y8 : TRWitnessSigBool) (y19 : List TMark × Int) : Option Bool :=
  (laws_heldWitness ((RWitnessSigBool_r0 y8).1, y19.1) (1 : Int)).bind fun y26 =>
  bif decide (y26 < (0 : Int)) then
    some false
  else
    bif y26 != y19.2 then
      some false
    else some true
noncomputable def laws_FnExactConfirm.l69 (y8 : TRWitnessSigBool) (y19 : List TMark × Int) : Option Bool :=
  laws_FnExactConfirm.g69 y8 y19
noncomputable abbrev laws_FnExactConfirm.g47 (x0 : TWitness) (x1 : List TSigned) (y5 : TRWitnessSigBool) (y8 : TRWitnessSigBool) (L69 : TRWitnessSigBool → (List TMark × Int) → Option Bool) : Option Bool :=
  (laws_markWitness (RWitnessSigBool_r0 y8) (1 : Int)).bind fun y19 =>
  (laws_heldWitness ((RWitnessSigBool_r0 y8).1, y19.1) (1 : Int)).bind fun y20 =>
    bif decide (y20 < (0 : Int)) then
      some false
    else
      bif y20 != y19.2 then
        some false
      else
        (laws_toWitness x0).bind fun y21 =>
          (laws_toSignedS x1).bind fun y22 =>
            (impl_Confirm y21 y22).bind fun y23 =>
              (laws_eqWitness (RWitnessSigBool_r0 y23) (RWitnessSigBool_r0 y5)).bind fun y24 =>
                bif !y24 then
                  some false
                else
                  (laws_eqSig (RWitnessSigBool_r1 y23) (RWitnessSigBool_r1 y5)).bind fun y25 =>
                    bif !y25 then
                      some false
                    else
                      bif !((RWitnessSigBool_r2 y23) == (RWitnessSigBool_r2 y5)) then
                        some false
                      else L69 y8 y19
noncomputable def laws_FnExactConfirm.l47 (x0 : TWitness) (x1 : List TSigned) (y5 : TRWitnessSigBool) (y8 : TRWitnessSigBool) : Option Bool :=
  laws_FnExactConfirm.g47 x0 x1 y5 y8 (fun y8 y19 => laws_FnExactConfirm.l69 y8 y19)
noncomputable abbrev laws_FnExactConfirm.g29 (x0 : TWitness) (x1 : List TSigned) (y5 : TRWitnessSigBool) (y6 : TWitness) (y7 : List TSigned) (y8 : TRWitnessSigBool) (L47 : TRWitnessSigBool → TRWitnessSigBool → Option Bool) : Option Bool :=
  (laws_toWitness x0).bind fun y11 =>
  (laws_eqWitness y6 y11).bind fun y12 =>
    bif !y12 then
      some false
    else
      (laws_toSignedS x1).bind fun y13 =>
        (laws_eqSignedS y7 y13).bind fun y14 =>
          bif !y14 then
            some false
          else
            (laws_markWitness y6 (1 : Int)).bind fun y15 =>
              (laws_markSignedS y7 y15.2).bind fun y16 =>
                bif decide (y16.2 < (0 : Int)) then
                  some false
                else
                  (laws_eqWitness (RWitnessSigBool_r0 y8) (RWitnessSigBool_r0 y5)).bind fun y17 =>
                    bif !y17 then
                      some false
                    else
                      (laws_eqSig (RWitnessSigBool_r1 y8) (RWitnessSigBool_r1 y5)).bind fun y18 =>
                        bif !y18 then
                          some false
                        else
                          bif !((RWitnessSigBool_r2 y8) == (RWitnessSigBool_r2 y5)) then
                            some false
                          else L47 y5 y8
noncomputable def laws_FnExactConfirm.l29 (x0 : TWitness) (x1 : List TSigned) (y5 : TRWitnessSigBool) (y6 : TWitness) (y7 : List TSigned) (y8 : TRWitnessSigBool) : Option Bool :=
  laws_FnExactConfirm.g29 x0 x1 y5 y6 y7 y8 (fun y5 y8 => laws_FnExactConfirm.l47 x0 x1 y5 y8)
noncomputable abbrev laws_FnExactConfirm.b (x0 : TWitness) (x1 : List TSigned) (L29 : TRWitnessSigBool → TWitness → (List TSigned) → TRWitnessSigBool → Option Bool) : Option Bool :=
  (laws_szWitness x0 (1048576 : Int)).bind fun y1 =>
  bif decide (y1 < (0 : Int)) then
    some true
  else
    (laws_szSignedS x1 y1).bind fun y2 =>
      bif decide (y2 < (0 : Int)) then
        some true
      else
        (laws_toWitness x0).bind fun y3 =>
          (laws_toSignedS x1).bind fun y4 =>
            (spec_Confirm y3 y4).bind fun y5 =>
              (laws_toWitness x0).bind fun y6 =>
                (laws_toSignedS x1).bind fun y7 =>
                  (impl_Confirm y6 y7).bind fun y8 =>
                    (laws_eqWitness (RWitnessSigBool_r0 y8) (RWitnessSigBool_r0 y5)).bind fun y9 =>
                      bif !y9 then
                        some false
                      else
                        (laws_eqSig (RWitnessSigBool_r1 y8) (RWitnessSigBool_r1 y5)).bind fun y10 =>
                          bif !y10 then
                            some false
                          else
                            bif !((RWitnessSigBool_r2 y8) == (RWitnessSigBool_r2 y5)) then
                              some false
                            else L29 y5 y6 y7 y8
noncomputable def laws_FnExactConfirm (x0 : TWitness) (x1 : List TSigned) : Option Bool :=
  laws_FnExactConfirm.b x0 x1 (fun y5 y6 y7 y8 => laws_FnExactConfirm.l29 x0 x1 y5 y6 y7 y8)
end Go.Proofs.YtpioofmdambjoaaGreat
