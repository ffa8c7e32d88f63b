/- What the functions compute: printed from their code by the evaluator. -/
import Derived.Test.YtpioofmdambjoaaGreatVE
namespace Go.Proofs.YtpioofmdambjoaaGreat
set_option linter.unusedVariables false
abbrev TKeys : Type := List Int × Int
abbrev dKeys : TKeys := ([], (0 : Int))
abbrev THead : Type := Int × Int × Int × Int × Int × Int × Int × Int × List Int × Int × List Int × Int × Int × List Int × Int × Bool
abbrev dHead : THead := ((0 : Int), (0 : Int), (0 : Int), (0 : Int), (0 : Int), (0 : Int), (0 : Int), (0 : Int), [], (0 : Int), [], (0 : Int), (0 : Int), [], (0 : Int), false)
def Head_Zone (x : THead) : Int := x.1
def Head_Epoch (x : THead) : Int := x.2.1
def Head_Kind (x : THead) : Int := x.2.2.1
def Head_Time (x : THead) : Int := x.2.2.2.1
def Head_Until (x : THead) : Int := x.2.2.2.2.1
def Head_Count (x : THead) : Int := x.2.2.2.2.2.1
def Head_Root (x : THead) : Int := x.2.2.2.2.2.2.1
def Head_Prev (x : THead) : Int := x.2.2.2.2.2.2.2.1
def Head_Keys (x : THead) : TKeys := (x.2.2.2.2.2.2.2.2.1, x.2.2.2.2.2.2.2.2.2.1)
def Head_Heirs (x : THead) : TKeys := (x.2.2.2.2.2.2.2.2.2.2.1, x.2.2.2.2.2.2.2.2.2.2.2.1)
def Head_Wait (x : THead) : Int := x.2.2.2.2.2.2.2.2.2.2.2.2.1
def Head_Judge (x : THead) : TKeys := (x.2.2.2.2.2.2.2.2.2.2.2.2.2.1, x.2.2.2.2.2.2.2.2.2.2.2.2.2.2.1)
def Head_Frozen (x : THead) : Bool := x.2.2.2.2.2.2.2.2.2.2.2.2.2.2.2
def Head_mk (a0 : Int) (a1 : Int) (a2 : Int) (a3 : Int) (a4 : Int) (a5 : Int) (a6 : Int) (a7 : Int) (a8 : TKeys) (a9 : TKeys) (a10 : Int) (a11 : TKeys) (a12 : Bool) : THead := (a0, a1, a2, a3, a4, a5, a6, a7, a8.1, a8.2, a9.1, a9.2, a10, a11.1, a11.2, a12)
theorem Head_s : ∀ (a0 : Int) (a1 : Int) (a2 : Int) (a3 : Int) (a4 : Int) (a5 : Int) (a6 : Int) (a7 : Int) (a8 : TKeys) (a9 : TKeys) (a10 : Int) (a11 : TKeys) (a12 : Bool), Head_Zone (Head_mk a0 a1 a2 a3 a4 a5 a6 a7 a8 a9 a10 a11 a12) = a0 ∧ Head_Epoch (Head_mk a0 a1 a2 a3 a4 a5 a6 a7 a8 a9 a10 a11 a12) = a1 ∧ Head_Kind (Head_mk a0 a1 a2 a3 a4 a5 a6 a7 a8 a9 a10 a11 a12) = a2 ∧ Head_Time (Head_mk a0 a1 a2 a3 a4 a5 a6 a7 a8 a9 a10 a11 a12) = a3 ∧ Head_Until (Head_mk a0 a1 a2 a3 a4 a5 a6 a7 a8 a9 a10 a11 a12) = a4 ∧ Head_Count (Head_mk a0 a1 a2 a3 a4 a5 a6 a7 a8 a9 a10 a11 a12) = a5 ∧ Head_Root (Head_mk a0 a1 a2 a3 a4 a5 a6 a7 a8 a9 a10 a11 a12) = a6 ∧ Head_Prev (Head_mk a0 a1 a2 a3 a4 a5 a6 a7 a8 a9 a10 a11 a12) = a7 ∧ Head_Keys (Head_mk a0 a1 a2 a3 a4 a5 a6 a7 a8 a9 a10 a11 a12) = a8 ∧ Head_Heirs (Head_mk a0 a1 a2 a3 a4 a5 a6 a7 a8 a9 a10 a11 a12) = a9 ∧ Head_Wait (Head_mk a0 a1 a2 a3 a4 a5 a6 a7 a8 a9 a10 a11 a12) = a10 ∧ Head_Judge (Head_mk a0 a1 a2 a3 a4 a5 a6 a7 a8 a9 a10 a11 a12) = a11 ∧ Head_Frozen (Head_mk a0 a1 a2 a3 a4 a5 a6 a7 a8 a9 a10 a11 a12) = a12 := fun a0 a1 a2 a3 a4 a5 a6 a7 a8 a9 a10 a11 a12 => ⟨rfl, rfl, rfl, rfl, rfl, rfl, rfl, rfl, rfl, rfl, rfl, rfl, rfl⟩
theorem Head_e (x : THead) : Head_mk (Head_Zone x) (Head_Epoch x) (Head_Kind x) (Head_Time x) (Head_Until x) (Head_Count x) (Head_Root x) (Head_Prev x) (Head_Keys x) (Head_Heirs x) (Head_Wait x) (Head_Judge x) (Head_Frozen x) = x := id rfl
theorem Head_d : Head_Zone dHead = (0 : Int) ∧ Head_Epoch dHead = (0 : Int) ∧ Head_Kind dHead = (0 : Int) ∧ Head_Time dHead = (0 : Int) ∧ Head_Until dHead = (0 : Int) ∧ Head_Count dHead = (0 : Int) ∧ Head_Root dHead = (0 : Int) ∧ Head_Prev dHead = (0 : Int) ∧ Head_Keys dHead = dKeys ∧ Head_Heirs dHead = dKeys ∧ Head_Wait dHead = (0 : Int) ∧ Head_Judge dHead = dKeys ∧ Head_Frozen dHead = false := ⟨rfl, rfl, rfl, rfl, rfl, rfl, rfl, rfl, rfl, rfl, rfl, rfl, rfl⟩
abbrev TSig : Type := Int × Int
abbrev dSig : TSig := ((0 : Int), (0 : Int))
abbrev TSigned : Type := Int × Int × Int × Int × Int × Int × Int × Int × List Int × Int × List Int × Int × Int × List Int × Int × Bool × List TSig
abbrev dSigned : TSigned := ((0 : Int), (0 : Int), (0 : Int), (0 : Int), (0 : Int), (0 : Int), (0 : Int), (0 : Int), [], (0 : Int), [], (0 : Int), (0 : Int), [], (0 : Int), false, [])
def Signed_Head (x : TSigned) : THead := (x.1, x.2.1, x.2.2.1, x.2.2.2.1, x.2.2.2.2.1, x.2.2.2.2.2.1, x.2.2.2.2.2.2.1, x.2.2.2.2.2.2.2.1, x.2.2.2.2.2.2.2.2.1, x.2.2.2.2.2.2.2.2.2.1, x.2.2.2.2.2.2.2.2.2.2.1, x.2.2.2.2.2.2.2.2.2.2.2.1, x.2.2.2.2.2.2.2.2.2.2.2.2.1, x.2.2.2.2.2.2.2.2.2.2.2.2.2.1, x.2.2.2.2.2.2.2.2.2.2.2.2.2.2.1, x.2.2.2.2.2.2.2.2.2.2.2.2.2.2.2.1)
def Signed_Sigs (x : TSigned) : List TSig := x.2.2.2.2.2.2.2.2.2.2.2.2.2.2.2.2
def Signed_mk (a0 : THead) (a1 : List TSig) : TSigned := (a0.1, a0.2.1, a0.2.2.1, a0.2.2.2.1, a0.2.2.2.2.1, a0.2.2.2.2.2.1, a0.2.2.2.2.2.2.1, a0.2.2.2.2.2.2.2.1, a0.2.2.2.2.2.2.2.2.1, a0.2.2.2.2.2.2.2.2.2.1, a0.2.2.2.2.2.2.2.2.2.2.1, a0.2.2.2.2.2.2.2.2.2.2.2.1, a0.2.2.2.2.2.2.2.2.2.2.2.2.1, a0.2.2.2.2.2.2.2.2.2.2.2.2.2.1, a0.2.2.2.2.2.2.2.2.2.2.2.2.2.2.1, a0.2.2.2.2.2.2.2.2.2.2.2.2.2.2.2, a1)
theorem Signed_s : ∀ (a0 : THead) (a1 : List TSig), Signed_Head (Signed_mk a0 a1) = a0 ∧ Signed_Sigs (Signed_mk a0 a1) = a1 := fun a0 a1 => ⟨rfl, rfl⟩
theorem Signed_e (x : TSigned) : Signed_mk (Signed_Head x) (Signed_Sigs x) = x := id rfl
theorem Signed_d : Signed_Head dSigned = dHead ∧ Signed_Sigs dSigned = [] := ⟨rfl, rfl⟩
abbrev TEntry : Type := ByteArray × Int × Int × List ByteArray
abbrev dEntry : TEntry := ((⟨#[]⟩ : ByteArray), (0 : Int), (0 : Int), [])
abbrev TProof : Type := Int × List Int
abbrev dProof : TProof := ((0 : Int), [])
abbrev TGap : Type := Int × ByteArray × Int × Int × List ByteArray × ByteArray × Int × Int × List ByteArray × Int × List Int × Int × List Int
abbrev dGap : TGap := ((0 : Int), (⟨#[]⟩ : ByteArray), (0 : Int), (0 : Int), [], (⟨#[]⟩ : ByteArray), (0 : Int), (0 : Int), [], (0 : Int), [], (0 : Int), [])
def Gap_At (x : TGap) : Int := x.1
def Gap_Before (x : TGap) : TEntry := (x.2.1, x.2.2.1, x.2.2.2.1, x.2.2.2.2.1)
def Gap_After (x : TGap) : TEntry := (x.2.2.2.2.2.1, x.2.2.2.2.2.2.1, x.2.2.2.2.2.2.2.1, x.2.2.2.2.2.2.2.2.1)
def Gap_Left (x : TGap) : TProof := (x.2.2.2.2.2.2.2.2.2.1, x.2.2.2.2.2.2.2.2.2.2.1)
def Gap_Right (x : TGap) : TProof := (x.2.2.2.2.2.2.2.2.2.2.2.1, x.2.2.2.2.2.2.2.2.2.2.2.2)
def Gap_mk (a0 : Int) (a1 : TEntry) (a2 : TEntry) (a3 : TProof) (a4 : TProof) : TGap := (a0, a1.1, a1.2.1, a1.2.2.1, a1.2.2.2, a2.1, a2.2.1, a2.2.2.1, a2.2.2.2, a3.1, a3.2, a4.1, a4.2)
theorem Gap_s : ∀ (a0 : Int) (a1 : TEntry) (a2 : TEntry) (a3 : TProof) (a4 : TProof), Gap_At (Gap_mk a0 a1 a2 a3 a4) = a0 ∧ Gap_Before (Gap_mk a0 a1 a2 a3 a4) = a1 ∧ Gap_After (Gap_mk a0 a1 a2 a3 a4) = a2 ∧ Gap_Left (Gap_mk a0 a1 a2 a3 a4) = a3 ∧ Gap_Right (Gap_mk a0 a1 a2 a3 a4) = a4 := fun a0 a1 a2 a3 a4 => ⟨rfl, rfl, rfl, rfl, rfl⟩
theorem Gap_e (x : TGap) : Gap_mk (Gap_At x) (Gap_Before x) (Gap_After x) (Gap_Left x) (Gap_Right x) = x := id rfl
theorem Gap_d : Gap_At dGap = (0 : Int) ∧ Gap_Before dGap = dEntry ∧ Gap_After dGap = dEntry ∧ Gap_Left dGap = dProof ∧ Gap_Right dGap = dProof := ⟨rfl, rfl, rfl, rfl, rfl⟩
abbrev TAnswer : Type := List TSigned × Bool × ByteArray × Int × Int × List ByteArray × Int × List Int × Int × ByteArray × Int × Int × List ByteArray × ByteArray × Int × Int × List ByteArray × Int × List Int × Int × List Int
abbrev dAnswer : TAnswer := ([], false, (⟨#[]⟩ : ByteArray), (0 : Int), (0 : Int), [], (0 : Int), [], (0 : Int), (⟨#[]⟩ : ByteArray), (0 : Int), (0 : Int), [], (⟨#[]⟩ : ByteArray), (0 : Int), (0 : Int), [], (0 : Int), [], (0 : Int), [])
def Answer_Chain (x : TAnswer) : List TSigned := x.1
def Answer_Found (x : TAnswer) : Bool := x.2.1
def Answer_Entry (x : TAnswer) : TEntry := (x.2.2.1, x.2.2.2.1, x.2.2.2.2.1, x.2.2.2.2.2.1)
def Answer_Proof (x : TAnswer) : TProof := (x.2.2.2.2.2.2.1, x.2.2.2.2.2.2.2.1)
def Answer_Gap (x : TAnswer) : TGap := (x.2.2.2.2.2.2.2.2.1, x.2.2.2.2.2.2.2.2.2.1, x.2.2.2.2.2.2.2.2.2.2.1, x.2.2.2.2.2.2.2.2.2.2.2.1, x.2.2.2.2.2.2.2.2.2.2.2.2.1, x.2.2.2.2.2.2.2.2.2.2.2.2.2.1, x.2.2.2.2.2.2.2.2.2.2.2.2.2.2.1, x.2.2.2.2.2.2.2.2.2.2.2.2.2.2.2.1, x.2.2.2.2.2.2.2.2.2.2.2.2.2.2.2.2.1, x.2.2.2.2.2.2.2.2.2.2.2.2.2.2.2.2.2.1, x.2.2.2.2.2.2.2.2.2.2.2.2.2.2.2.2.2.2.1, x.2.2.2.2.2.2.2.2.2.2.2.2.2.2.2.2.2.2.2.1, x.2.2.2.2.2.2.2.2.2.2.2.2.2.2.2.2.2.2.2.2)
def Answer_mk (a0 : List TSigned) (a1 : Bool) (a2 : TEntry) (a3 : TProof) (a4 : TGap) : TAnswer := (a0, a1, a2.1, a2.2.1, a2.2.2.1, a2.2.2.2, a3.1, a3.2, a4.1, a4.2.1, a4.2.2.1, a4.2.2.2.1, a4.2.2.2.2.1, a4.2.2.2.2.2.1, a4.2.2.2.2.2.2.1, a4.2.2.2.2.2.2.2.1, a4.2.2.2.2.2.2.2.2.1, a4.2.2.2.2.2.2.2.2.2.1, a4.2.2.2.2.2.2.2.2.2.2.1, a4.2.2.2.2.2.2.2.2.2.2.2.1, a4.2.2.2.2.2.2.2.2.2.2.2.2)
theorem Answer_s : ∀ (a0 : List TSigned) (a1 : Bool) (a2 : TEntry) (a3 : TProof) (a4 : TGap), Answer_Chain (Answer_mk a0 a1 a2 a3 a4) = a0 ∧ Answer_Found (Answer_mk a0 a1 a2 a3 a4) = a1 ∧ Answer_Entry (Answer_mk a0 a1 a2 a3 a4) = a2 ∧ Answer_Proof (Answer_mk a0 a1 a2 a3 a4) = a3 ∧ Answer_Gap (Answer_mk a0 a1 a2 a3 a4) = a4 := fun a0 a1 a2 a3 a4 => ⟨rfl, rfl, rfl, rfl, rfl⟩
theorem Answer_e (x : TAnswer) : Answer_mk (Answer_Chain x) (Answer_Found x) (Answer_Entry x) (Answer_Proof x) (Answer_Gap x) = x := id rfl
theorem Answer_d : Answer_Chain dAnswer = [] ∧ Answer_Found dAnswer = false ∧ Answer_Entry dAnswer = dEntry ∧ Answer_Proof dAnswer = dProof ∧ Answer_Gap dAnswer = dGap := ⟨rfl, rfl, rfl, rfl, rfl⟩
abbrev TRHeadBool : Type := Int × Int × Int × Int × Int × Int × Int × Int × List Int × Int × List Int × Int × Int × List Int × Int × Bool × Bool
abbrev dRHeadBool : TRHeadBool := ((0 : Int), (0 : Int), (0 : Int), (0 : Int), (0 : Int), (0 : Int), (0 : Int), (0 : Int), [], (0 : Int), [], (0 : Int), (0 : Int), [], (0 : Int), false, false)
def RHeadBool_r0 (x : TRHeadBool) : THead := (x.1, x.2.1, x.2.2.1, x.2.2.2.1, x.2.2.2.2.1, x.2.2.2.2.2.1, x.2.2.2.2.2.2.1, x.2.2.2.2.2.2.2.1, x.2.2.2.2.2.2.2.2.1, x.2.2.2.2.2.2.2.2.2.1, x.2.2.2.2.2.2.2.2.2.2.1, x.2.2.2.2.2.2.2.2.2.2.2.1, x.2.2.2.2.2.2.2.2.2.2.2.2.1, x.2.2.2.2.2.2.2.2.2.2.2.2.2.1, x.2.2.2.2.2.2.2.2.2.2.2.2.2.2.1, x.2.2.2.2.2.2.2.2.2.2.2.2.2.2.2.1)
def RHeadBool_r1 (x : TRHeadBool) : Bool := x.2.2.2.2.2.2.2.2.2.2.2.2.2.2.2.2
def RHeadBool_mk (a0 : THead) (a1 : Bool) : TRHeadBool := (a0.1, a0.2.1, a0.2.2.1, a0.2.2.2.1, a0.2.2.2.2.1, a0.2.2.2.2.2.1, a0.2.2.2.2.2.2.1, a0.2.2.2.2.2.2.2.1, a0.2.2.2.2.2.2.2.2.1, a0.2.2.2.2.2.2.2.2.2.1, a0.2.2.2.2.2.2.2.2.2.2.1, a0.2.2.2.2.2.2.2.2.2.2.2.1, a0.2.2.2.2.2.2.2.2.2.2.2.2.1, a0.2.2.2.2.2.2.2.2.2.2.2.2.2.1, a0.2.2.2.2.2.2.2.2.2.2.2.2.2.2.1, a0.2.2.2.2.2.2.2.2.2.2.2.2.2.2.2, a1)
theorem RHeadBool_s : ∀ (a0 : THead) (a1 : Bool), RHeadBool_r0 (RHeadBool_mk a0 a1) = a0 ∧ RHeadBool_r1 (RHeadBool_mk a0 a1) = a1 := fun a0 a1 => ⟨rfl, rfl⟩
theorem RHeadBool_e (x : TRHeadBool) : RHeadBool_mk (RHeadBool_r0 x) (RHeadBool_r1 x) = x := id rfl
theorem RHeadBool_d : RHeadBool_r0 dRHeadBool = dHead ∧ RHeadBool_r1 dRHeadBool = false := ⟨rfl, rfl⟩
noncomputable def laws_szIntS (x0 : List Int) (x1 : Int) : Option Int :=
  bif decide ((IntKind.i64.wrap (x1 - (x0.length : Int))) < (0 : Int)) then
  some (-1 : Int)
else some (IntKind.i64.wrap (x1 - (x0.length : Int)))
noncomputable def laws_szKeys (x0 : TKeys) (x1 : Int) : Option Int :=
  (laws_szIntS x0.1 x1).bind fun y1 =>
  bif decide (y1 < (0 : Int)) then
    some (-1 : Int)
  else some y1
noncomputable def laws_szHead (x0 : THead) (x1 : Int) : Option Int :=
  (laws_szKeys (Head_Keys x0) x1).bind fun y1 =>
  bif decide (y1 < (0 : Int)) then
    some (-1 : Int)
  else
    (laws_szKeys (Head_Heirs x0) y1).bind fun y2 =>
      bif decide (y2 < (0 : Int)) then
        some (-1 : Int)
      else
        (laws_szKeys (Head_Judge x0) y2).bind fun y3 =>
          bif decide (y3 < (0 : Int)) then
            some (-1 : Int)
          else some y3
noncomputable def laws_szSigS (x0 : List TSig) (x1 : Int) : Option Int :=
  bif decide ((IntKind.i64.wrap (x1 - (x0.length : Int))) < (0 : Int)) then
  some (-1 : Int)
else some (IntKind.i64.wrap (x1 - (x0.length : Int)))
noncomputable def laws_szSigned (x0 : TSigned) (x1 : Int) : Option Int :=
  (laws_szHead (Signed_Head x0) x1).bind fun y1 =>
  bif decide (y1 < (0 : Int)) then
    some (-1 : Int)
  else
    (laws_szSigS (Signed_Sigs x0) y1).bind fun y2 =>
      bif decide (y2 < (0 : Int)) then
        some (-1 : Int)
      else some y2
noncomputable abbrev laws_szSignedS.g10 (x0 : List TSigned) (r10 : Int → Int → Option Int) (v10_1 : Int) (v10_2 : Int) : Option Int :=
  bif decide (v10_2 < (x0.length : Int)) then
  bif decide (0 ≤ v10_2) then
    bif decide (v10_2 < (x0.length : Int)) then
      (laws_szSigned (x0.getD v10_2.toNat dSigned) v10_1).bind fun y1 =>
        bif decide (y1 < (0 : Int)) then
          some (-1 : Int)
        else r10 y1 (IntKind.i64.wrap (v10_2 + (1 : Int)))
    else none
  else none
else some v10_1
noncomputable def laws_szSignedS.l10 (x0 : List TSigned) (n : Nat) : Int → Int → Option Int :=
  V.iter (fun (r10 : Int → Int → Option Int) => fun v10_1 v10_2 => laws_szSignedS.g10 x0 r10 v10_1 v10_2) (fun _ _ => none) n
theorem laws_szSignedS.u10 (x0 : List TSigned) (n : Nat) (v10_1 : Int) (v10_2 : Int) : laws_szSignedS.l10 x0 (n + 1) v10_1 v10_2 = laws_szSignedS.g10 x0 (laws_szSignedS.l10 x0 n) v10_1 v10_2 := rfl
noncomputable abbrev laws_szSignedS.b (x0 : List TSigned) (x1 : Int) (L10 : Int → Int → Option Int) : Option Int :=
  bif decide ((IntKind.i64.wrap (x1 - (x0.length : Int))) < (0 : Int)) then
  some (-1 : Int)
else L10 (IntKind.i64.wrap (x1 - (x0.length : Int))) (0 : Int)
noncomputable def laws_szSignedS (x0 : List TSigned) (x1 : Int) : Option Int :=
  laws_szSignedS.b x0 x1 (laws_szSignedS.l10 x0 V.KK)
noncomputable abbrev laws_szStringS.g10 (x0 : List ByteArray) (r10 : Int → Int → Option Int) (v10_1 : Int) (v10_2 : Int) : Option Int :=
  bif decide (v10_2 < (x0.length : Int)) then
  bif decide (0 ≤ v10_2) then
    bif decide (v10_2 < (x0.length : Int)) then
      bif decide ((IntKind.i64.wrap (v10_1 - ((x0.getD v10_2.toNat (⟨#[]⟩ : ByteArray)).size : Int))) < (0 : Int)) then
        some (-1 : Int)
      else r10 (IntKind.i64.wrap (v10_1 - ((x0.getD v10_2.toNat (⟨#[]⟩ : ByteArray)).size : Int))) (IntKind.i64.wrap (v10_2 + (1 : Int)))
    else none
  else none
else some v10_1
noncomputable def laws_szStringS.l10 (x0 : List ByteArray) (n : Nat) : Int → Int → Option Int :=
  V.iter (fun (r10 : Int → Int → Option Int) => fun v10_1 v10_2 => laws_szStringS.g10 x0 r10 v10_1 v10_2) (fun _ _ => none) n
theorem laws_szStringS.u10 (x0 : List ByteArray) (n : Nat) (v10_1 : Int) (v10_2 : Int) : laws_szStringS.l10 x0 (n + 1) v10_1 v10_2 = laws_szStringS.g10 x0 (laws_szStringS.l10 x0 n) v10_1 v10_2 := rfl
noncomputable abbrev laws_szStringS.b (x0 : List ByteArray) (x1 : Int) (L10 : Int → Int → Option Int) : Option Int :=
  bif decide ((IntKind.i64.wrap (x1 - (x0.length : Int))) < (0 : Int)) then
  some (-1 : Int)
else L10 (IntKind.i64.wrap (x1 - (x0.length : Int))) (0 : Int)
noncomputable def laws_szStringS (x0 : List ByteArray) (x1 : Int) : Option Int :=
  laws_szStringS.b x0 x1 (laws_szStringS.l10 x0 V.KK)
noncomputable def laws_szEntry (x0 : TEntry) (x1 : Int) : Option Int :=
  bif decide ((IntKind.i64.wrap (x1 - (x0.1.size : Int))) < (0 : Int)) then
  some (-1 : Int)
else
  (laws_szStringS x0.2.2.2 (IntKind.i64.wrap (x1 - (x0.1.size : Int)))).bind fun y1 =>
    bif decide (y1 < (0 : Int)) then
      some (-1 : Int)
    else some y1
noncomputable def laws_szProof (x0 : TProof) (x1 : Int) : Option Int :=
  (laws_szIntS x0.2 x1).bind fun y1 =>
  bif decide (y1 < (0 : Int)) then
    some (-1 : Int)
  else some y1
noncomputable def laws_szGap (x0 : TGap) (x1 : Int) : Option Int :=
  (laws_szEntry (Gap_Before x0) x1).bind fun y1 =>
  bif decide (y1 < (0 : Int)) then
    some (-1 : Int)
  else
    (laws_szEntry (Gap_After x0) y1).bind fun y2 =>
      bif decide (y2 < (0 : Int)) then
        some (-1 : Int)
      else
        (laws_szProof (Gap_Left x0) y2).bind fun y3 =>
          bif decide (y3 < (0 : Int)) then
            some (-1 : Int)
          else
            (laws_szProof (Gap_Right x0) y3).bind fun y4 =>
              bif decide (y4 < (0 : Int)) then
                some (-1 : Int)
              else some y4
noncomputable def laws_szAnswer (x0 : TAnswer) (x1 : Int) : Option Int :=
  (laws_szSignedS (Answer_Chain x0) x1).bind fun y1 =>
  bif decide (y1 < (0 : Int)) then
    some (-1 : Int)
  else
    (laws_szEntry (Answer_Entry x0) y1).bind fun y2 =>
      bif decide (y2 < (0 : Int)) then
        some (-1 : Int)
      else
        (laws_szProof (Answer_Proof x0) y2).bind fun y3 =>
          bif decide (y3 < (0 : Int)) then
            some (-1 : Int)
          else
            (laws_szGap (Answer_Gap x0) y3).bind fun y4 =>
              bif decide (y4 < (0 : Int)) then
                some (-1 : Int)
              else some y4
noncomputable abbrev laws_toIntS.g6 (x0 : List Int) (r6 : Int → (List Int) → Option (List Int)) (v6_1 : Int) (v6_2 : List Int) : Option (List Int) :=
  bif decide (v6_1 < (x0.length : Int)) then
  bif decide (0 ≤ v6_1) then
    bif decide (v6_1 < (x0.length : Int)) then
      bif decide (0 ≤ v6_1) then
        bif decide (v6_1 < (v6_2.length : Int)) then
          r6 (IntKind.i64.wrap (v6_1 + (1 : Int))) (v6_2.set v6_1.toNat (x0.getD v6_1.toNat (0 : Int)))
        else none
      else none
    else none
  else none
else some v6_2
noncomputable def laws_toIntS.l6 (x0 : List Int) (n : Nat) : Int → (List Int) → Option (List Int) :=
  V.iter (fun (r6 : Int → (List Int) → Option (List Int)) => fun v6_1 v6_2 => laws_toIntS.g6 x0 r6 v6_1 v6_2) (fun _ _ => none) n
theorem laws_toIntS.u6 (x0 : List Int) (n : Nat) (v6_1 : Int) (v6_2 : List Int) : laws_toIntS.l6 x0 (n + 1) v6_1 v6_2 = laws_toIntS.g6 x0 (laws_toIntS.l6 x0 n) v6_1 v6_2 := rfl
noncomputable abbrev laws_toIntS.b (x0 : List Int) (L6 : Int → (List Int) → Option (List Int)) : Option (List Int) :=
  bif ((x0.length : Int) == (x0.length : Int)) then
  bif decide (0 ≤ (x0.length : Int)) then
    bif decide ((x0.length : Int) < (68719476736 : Int)) then
      L6 (0 : Int) (List.replicate ((x0.length : Int).toNat) (0 : Int))
    else none
  else none
else none
noncomputable def laws_toIntS (x0 : List Int) : Option (List Int) :=
  laws_toIntS.b x0 (laws_toIntS.l6 x0 V.KK)
noncomputable def laws_toKeys (x0 : TKeys) : Option TKeys :=
  (laws_toIntS x0.1).bind fun y1 =>
  some (y1, x0.2)
noncomputable def laws_toHead (x0 : THead) : Option THead :=
  (laws_toKeys (Head_Keys x0)).bind fun y1 =>
  (laws_toKeys (Head_Heirs x0)).bind fun y2 =>
    (laws_toKeys (Head_Judge x0)).bind fun y3 =>
      some (Head_mk (Head_Zone x0) (Head_Epoch x0) (Head_Kind x0) (Head_Time x0) (Head_Until x0) (Head_Count x0) (Head_Root x0) (Head_Prev x0) y1 y2 (Head_Wait x0) y3 (Head_Frozen x0))
noncomputable def laws_toSig (x0 : TSig) : Option TSig :=
  some x0
noncomputable abbrev laws_toSigS.g6 (x0 : List TSig) (r6 : Int → (List TSig) → Option (List TSig)) (v6_1 : Int) (v6_2 : List TSig) : Option (List TSig) :=
  bif decide (v6_1 < (x0.length : Int)) then
  bif decide (0 ≤ v6_1) then
    bif decide (v6_1 < (x0.length : Int)) then
      (laws_toSig (x0.getD v6_1.toNat dSig)).bind fun y1 =>
        bif decide (0 ≤ v6_1) then
          bif decide (v6_1 < (v6_2.length : Int)) then
            r6 (IntKind.i64.wrap (v6_1 + (1 : Int))) (v6_2.set v6_1.toNat y1)
          else none
        else none
    else none
  else none
else some v6_2
noncomputable def laws_toSigS.l6 (x0 : List TSig) (n : Nat) : Int → (List TSig) → Option (List TSig) :=
  V.iter (fun (r6 : Int → (List TSig) → Option (List TSig)) => fun v6_1 v6_2 => laws_toSigS.g6 x0 r6 v6_1 v6_2) (fun _ _ => none) n
theorem laws_toSigS.u6 (x0 : List TSig) (n : Nat) (v6_1 : Int) (v6_2 : List TSig) : laws_toSigS.l6 x0 (n + 1) v6_1 v6_2 = laws_toSigS.g6 x0 (laws_toSigS.l6 x0 n) v6_1 v6_2 := rfl
noncomputable abbrev laws_toSigS.b (x0 : List TSig) (L6 : Int → (List TSig) → Option (List TSig)) : Option (List TSig) :=
  bif ((x0.length : Int) == (x0.length : Int)) then
  bif decide (0 ≤ (x0.length : Int)) then
    bif decide ((x0.length : Int) < (68719476736 : Int)) then
      L6 (0 : Int) (List.replicate ((x0.length : Int).toNat) dSig)
    else none
  else none
else none
noncomputable def laws_toSigS (x0 : List TSig) : Option (List TSig) :=
  laws_toSigS.b x0 (laws_toSigS.l6 x0 V.KK)
noncomputable def laws_toSigned (x0 : TSigned) : Option TSigned :=
  (laws_toHead (Signed_Head x0)).bind fun y1 =>
  (laws_toSigS (Signed_Sigs x0)).bind fun y2 =>
    some (Signed_mk y1 y2)
noncomputable abbrev laws_toSignedS.g6 (x0 : List TSigned) (r6 : Int → (List TSigned) → Option (List TSigned)) (v6_1 : Int) (v6_2 : List TSigned) : Option (List TSigned) :=
  bif decide (v6_1 < (x0.length : Int)) then
  bif decide (0 ≤ v6_1) then
    bif decide (v6_1 < (x0.length : Int)) then
      (laws_toSigned (x0.getD v6_1.toNat dSigned)).bind fun y1 =>
        bif decide (0 ≤ v6_1) then
          bif decide (v6_1 < (v6_2.length : Int)) then
            r6 (IntKind.i64.wrap (v6_1 + (1 : Int))) (v6_2.set v6_1.toNat y1)
          else none
        else none
    else none
  else none
else some v6_2
noncomputable def laws_toSignedS.l6 (x0 : List TSigned) (n : Nat) : Int → (List TSigned) → Option (List TSigned) :=
  V.iter (fun (r6 : Int → (List TSigned) → Option (List TSigned)) => fun v6_1 v6_2 => laws_toSignedS.g6 x0 r6 v6_1 v6_2) (fun _ _ => none) n
theorem laws_toSignedS.u6 (x0 : List TSigned) (n : Nat) (v6_1 : Int) (v6_2 : List TSigned) : laws_toSignedS.l6 x0 (n + 1) v6_1 v6_2 = laws_toSignedS.g6 x0 (laws_toSignedS.l6 x0 n) v6_1 v6_2 := rfl
noncomputable abbrev laws_toSignedS.b (x0 : List TSigned) (L6 : Int → (List TSigned) → Option (List TSigned)) : Option (List TSigned) :=
  bif ((x0.length : Int) == (x0.length : Int)) then
  bif decide (0 ≤ (x0.length : Int)) then
    bif decide ((x0.length : Int) < (68719476736 : Int)) then
      L6 (0 : Int) (List.replicate ((x0.length : Int).toNat) dSigned)
    else none
  else none
else none
noncomputable def laws_toSignedS (x0 : List TSigned) : Option (List TSigned) :=
  laws_toSignedS.b x0 (laws_toSignedS.l6 x0 V.KK)
noncomputable abbrev laws_toStringS.g6 (x0 : List ByteArray) (r6 : Int → (List ByteArray) → Option (List ByteArray)) (v6_1 : Int) (v6_2 : List ByteArray) : Option (List ByteArray) :=
  bif decide (v6_1 < (x0.length : Int)) then
  bif decide (0 ≤ v6_1) then
    bif decide (v6_1 < (x0.length : Int)) then
      bif decide (0 ≤ v6_1) then
        bif decide (v6_1 < (v6_2.length : Int)) then
          r6 (IntKind.i64.wrap (v6_1 + (1 : Int))) (v6_2.set v6_1.toNat (x0.getD v6_1.toNat (⟨#[]⟩ : ByteArray)))
        else none
      else none
    else none
  else none
else some v6_2
noncomputable def laws_toStringS.l6 (x0 : List ByteArray) (n : Nat) : Int → (List ByteArray) → Option (List ByteArray) :=
  V.iter (fun (r6 : Int → (List ByteArray) → Option (List ByteArray)) => fun v6_1 v6_2 => laws_toStringS.g6 x0 r6 v6_1 v6_2) (fun _ _ => none) n
theorem laws_toStringS.u6 (x0 : List ByteArray) (n : Nat) (v6_1 : Int) (v6_2 : List ByteArray) : laws_toStringS.l6 x0 (n + 1) v6_1 v6_2 = laws_toStringS.g6 x0 (laws_toStringS.l6 x0 n) v6_1 v6_2 := rfl
noncomputable abbrev laws_toStringS.b (x0 : List ByteArray) (L6 : Int → (List ByteArray) → Option (List ByteArray)) : Option (List ByteArray) :=
  bif ((x0.length : Int) == (x0.length : Int)) then
  bif decide (0 ≤ (x0.length : Int)) then
    bif decide ((x0.length : Int) < (68719476736 : Int)) then
      L6 (0 : Int) (List.replicate ((x0.length : Int).toNat) (⟨#[]⟩ : ByteArray))
    else none
  else none
else none
noncomputable def laws_toStringS (x0 : List ByteArray) : Option (List ByteArray) :=
  laws_toStringS.b x0 (laws_toStringS.l6 x0 V.KK)
noncomputable def laws_toEntry (x0 : TEntry) : Option TEntry :=
  (laws_toStringS x0.2.2.2).bind fun y1 =>
  some (x0.1, x0.2.1, x0.2.2.1, y1)
noncomputable def laws_toProof (x0 : TProof) : Option TProof :=
  (laws_toIntS x0.2).bind fun y1 =>
  some (x0.1, y1)
noncomputable def laws_toGap (x0 : TGap) : Option TGap :=
  (laws_toEntry (Gap_Before x0)).bind fun y1 =>
  (laws_toEntry (Gap_After x0)).bind fun y2 =>
    (laws_toProof (Gap_Left x0)).bind fun y3 =>
      (laws_toProof (Gap_Right x0)).bind fun y4 =>
        some (Gap_mk (Gap_At x0) y1 y2 y3 y4)
noncomputable def laws_toAnswer (x0 : TAnswer) : Option TAnswer :=
  (laws_toSignedS (Answer_Chain x0)).bind fun y1 =>
  (laws_toEntry (Answer_Entry x0)).bind fun y2 =>
    (laws_toProof (Answer_Proof x0)).bind fun y3 =>
      (laws_toGap (Answer_Gap x0)).bind fun y4 =>
        some (Answer_mk y1 (Answer_Found x0) y2 y3 y4)
noncomputable def spec_l1In (x0 : Int) (x1 : Int) (x2 : Int) : Option Bool :=
  bif decide (x0 ≥ x1) then
  some (decide (x0 ≤ x2))
else some false
noncomputable abbrev spec_IsKeys.g4 (x0 : TKeys) (r4 : Int → Option Bool) (v4_0 : Int) : Option Bool :=
  bif decide (v4_0 < (x0.1.length : Int)) then
  bif decide (0 ≤ v4_0) then
    bif decide (v4_0 < (x0.1.length : Int)) then
      (spec_l1In (x0.1.getD v4_0.toNat (0 : Int)) (1 : Int) (99 : Int)).bind fun y1 =>
        bif !y1 then
          some false
        else
          bif decide (v4_0 > (0 : Int)) then
            bif decide (0 ≤ (IntKind.i64.wrap (v4_0 - (1 : Int)))) then
              bif decide ((IntKind.i64.wrap (v4_0 - (1 : Int))) < (x0.1.length : Int)) then
                bif decide (0 ≤ v4_0) then
                  bif decide (v4_0 < (x0.1.length : Int)) then
                    bif decide ((x0.1.getD ((IntKind.i64.wrap (v4_0 - (1 : Int))).toNat) (0 : Int)) ≥ (x0.1.getD v4_0.toNat (0 : Int))) then
                      some false
                    else r4 (IntKind.i64.wrap (v4_0 + (1 : Int)))
                  else none
                else none
              else none
            else none
          else r4 (IntKind.i64.wrap (v4_0 + (1 : Int)))
    else none
  else none
else
  (spec_l1In (x0.1.length : Int) (1 : Int) (4 : Int)).bind fun y2 =>
    bif y2 then
      (spec_l1In x0.2 (1 : Int) (x0.1.length : Int)).bind fun y3 =>
        some y3
    else some false
noncomputable def spec_IsKeys.l4 (x0 : TKeys) (n : Nat) : Int → Option Bool :=
  V.iter (fun (r4 : Int → Option Bool) => fun v4_0 => spec_IsKeys.g4 x0 r4 v4_0) (fun _ => none) n
theorem spec_IsKeys.u4 (x0 : TKeys) (n : Nat) (v4_0 : Int) : spec_IsKeys.l4 x0 (n + 1) v4_0 = spec_IsKeys.g4 x0 (spec_IsKeys.l4 x0 n) v4_0 := rfl
noncomputable abbrev spec_IsKeys.b (x0 : TKeys) (L4 : Int → Option Bool) : Option Bool :=
  L4 (0 : Int)
noncomputable def spec_IsKeys (x0 : TKeys) : Option Bool :=
  spec_IsKeys.b x0 (spec_IsKeys.l4 x0 V.KK)
noncomputable def spec_NoKeys (x0 : TKeys) : Option Bool :=
  bif x0.2 == (0 : Int) then
  some ((x0.1.length : Int) == (0 : Int))
else some false
noncomputable abbrev spec_IsHead.g21 (x0 : THead) : Option Bool :=
  (spec_IsKeys (Head_Judge x0)).bind fun y11 =>
  bif y11 then
    some true
  else
    (spec_NoKeys (Head_Judge x0)).bind fun y12 =>
      bif y12 then
        some (!(Head_Frozen x0))
      else some false
noncomputable def spec_IsHead.l21 (x0 : THead) : Option Bool :=
  spec_IsHead.g21 x0
noncomputable abbrev spec_IsHead.g11 (x0 : THead) (L21 : Option Bool) : Option Bool :=
  (spec_NoKeys (Head_Heirs x0)).bind fun y10 =>
  bif y10 then
    bif (Head_Wait x0) != (0 : Int) then
      some false
    else L21
  else
    (spec_IsKeys (Head_Heirs x0)).bind fun y13 =>
      bif !y13 then
        some false
      else
        (spec_l1In (Head_Wait x0) (1 : Int) (500 : Int)).bind fun y14 =>
          bif !y14 then
            some false
          else L21
noncomputable def spec_IsHead.l11 (x0 : THead) : Option Bool :=
  spec_IsHead.g11 x0 (spec_IsHead.l21 x0)
noncomputable abbrev spec_IsHead.g7 (x0 : THead) (L11 : Option Bool) : Option Bool :=
  (spec_l1In (Head_Time x0) (0 : Int) (100000 : Int)).bind fun y6 =>
  bif !y6 then
    some false
  else
    (spec_l1In (Head_Until x0) (Head_Time x0) (100000 : Int)).bind fun y7 =>
      bif !y7 then
        some false
      else
        bif decide ((IntKind.i64.wrap ((Head_Until x0) - (Head_Time x0))) > (200 : Int)) then
          some false
        else
          (spec_l1In (Head_Count x0) (0 : Int) (12 : Int)).bind fun y8 =>
            bif !y8 then
              some false
            else
              (spec_IsKeys (Head_Keys x0)).bind fun y9 =>
                bif !y9 then
                  some false
                else L11
noncomputable def spec_IsHead.l7 (x0 : THead) : Option Bool :=
  spec_IsHead.g7 x0 (spec_IsHead.l11 x0)
noncomputable abbrev spec_IsHead.b (x0 : THead) (L7 : Option Bool) : Option Bool :=
  (spec_l1In (Head_Zone x0) (0 : Int) (2147483646 : Int)).bind fun y1 =>
  bif !y1 then
    some false
  else
    (spec_l1In (Head_Root x0) (0 : Int) (2147483646 : Int)).bind fun y2 =>
      bif !y2 then
        some false
      else
        (spec_l1In (Head_Prev x0) (0 : Int) (2147483646 : Int)).bind fun y3 =>
          bif !y3 then
            some false
          else
            (spec_l1In (Head_Epoch x0) (0 : Int) (200 : Int)).bind fun y4 =>
              bif !y4 then
                some false
              else
                (spec_l1In (Head_Kind x0) (1 : Int) (3 : Int)).bind fun y5 =>
                  bif !y5 then
                    some false
                  else L7
noncomputable def spec_IsHead (x0 : THead) : Option Bool :=
  spec_IsHead.b x0 (spec_IsHead.l7 x0)
noncomputable def spec_KeysInts (x0 : TKeys) : Option (List Int) :=
  bif decide ([x0.2, (x0.1.length : Int)].length + x0.1.length < 68719476736) then
  some ([x0.2, (x0.1.length : Int)] ++ x0.1)
else none
noncomputable def spec_Mod (x0 : Int) (x1 : Int) : Option Int :=
  (spec_l1In x1 (1 : Int) (1000000000000 : Int)).bind fun y1 =>
  bif !y1 then
    some (0 : Int)
  else
    bif (x1 == (0 : Int)) then
      none
    else
      bif (x1 == (0 : Int)) then
        none
      else some (Int.tmod (IntKind.i64.wrap ((Int.tmod x0 x1) + x1)) x1)
noncomputable abbrev spec_Hash.g6 (x0 : List Int) (r6 : Int → Int → Option Int) (v6_1 : Int) (v6_2 : Int) : Option Int :=
  bif decide (v6_2 < (x0.length : Int)) then
  bif decide (0 ≤ v6_2) then
    bif decide (v6_2 < (x0.length : Int)) then
      (spec_Mod (x0.getD v6_2.toNat (0 : Int)) (2147483647 : Int)).bind fun y1 =>
        bif ((2147483647 : Int) == (0 : Int)) then
          none
        else r6 (Int.tmod (IntKind.i64.wrap ((IntKind.i64.wrap ((IntKind.i64.wrap (v6_1 * (1000003 : Int))) + y1)) + (13 : Int))) (2147483647 : Int)) (IntKind.i64.wrap (v6_2 + (1 : Int)))
    else none
  else none
else some v6_1
noncomputable def spec_Hash.l6 (x0 : List Int) (n : Nat) : Int → Int → Option Int :=
  V.iter (fun (r6 : Int → Int → Option Int) => fun v6_1 v6_2 => spec_Hash.g6 x0 r6 v6_1 v6_2) (fun _ _ => none) n
theorem spec_Hash.u6 (x0 : List Int) (n : Nat) (v6_1 : Int) (v6_2 : Int) : spec_Hash.l6 x0 (n + 1) v6_1 v6_2 = spec_Hash.g6 x0 (spec_Hash.l6 x0 n) v6_1 v6_2 := rfl
noncomputable abbrev spec_Hash.b (x0 : List Int) (L6 : Int → Int → Option Int) : Option Int :=
  L6 (11 : Int) (0 : Int)
noncomputable def spec_Hash (x0 : List Int) : Option Int :=
  spec_Hash.b x0 (spec_Hash.l6 x0 V.KK)
noncomputable def spec_ZoneOf (x0 : TKeys) (x1 : Int) : Option Int :=
  (spec_KeysInts x0).bind fun y1 =>
  bif decide ([(239 : Int), x1].length + y1.length < 68719476736) then
    (spec_Hash ([(239 : Int), x1] ++ y1)).bind fun y2 =>
      some y2
  else none
noncomputable def spec_HeadInts (x0 : THead) : Option (List Int) :=
  (spec_KeysInts (Head_Keys x0)).bind fun y1 =>
  bif decide ([(Head_Zone x0), (Head_Epoch x0), (Head_Kind x0), (Head_Time x0), (Head_Until x0), (Head_Count x0), (Head_Root x0), (Head_Prev x0)].length + y1.length < 68719476736) then
    (spec_KeysInts (Head_Heirs x0)).bind fun y2 =>
      bif decide (([(Head_Zone x0), (Head_Epoch x0), (Head_Kind x0), (Head_Time x0), (Head_Until x0), (Head_Count x0), (Head_Root x0), (Head_Prev x0)] ++ y1).length + y2.length < 68719476736) then
        bif decide ((([(Head_Zone x0), (Head_Epoch x0), (Head_Kind x0), (Head_Time x0), (Head_Until x0), (Head_Count x0), (Head_Root x0), (Head_Prev x0)] ++ y1) ++ y2).length + [(Head_Wait x0)].length < 68719476736) then
          (spec_KeysInts (Head_Judge x0)).bind fun y3 =>
            bif decide (((([(Head_Zone x0), (Head_Epoch x0), (Head_Kind x0), (Head_Time x0), (Head_Until x0), (Head_Count x0), (Head_Root x0), (Head_Prev x0)] ++ y1) ++ y2) ++ [(Head_Wait x0)]).length + y3.length < 68719476736) then
              bif (Head_Frozen x0) then
                bif decide ((((([(Head_Zone x0), (Head_Epoch x0), (Head_Kind x0), (Head_Time x0), (Head_Until x0), (Head_Count x0), (Head_Root x0), (Head_Prev x0)] ++ y1) ++ y2) ++ [(Head_Wait x0)]) ++ y3).length + [(1 : Int)].length < 68719476736) then
                  some ((((([(Head_Zone x0), (Head_Epoch x0), (Head_Kind x0), (Head_Time x0), (Head_Until x0), (Head_Count x0), (Head_Root x0), (Head_Prev x0)] ++ y1) ++ y2) ++ [(Head_Wait x0)]) ++ y3) ++ [(1 : Int)])
                else none
              else
                bif decide ((((([(Head_Zone x0), (Head_Epoch x0), (Head_Kind x0), (Head_Time x0), (Head_Until x0), (Head_Count x0), (Head_Root x0), (Head_Prev x0)] ++ y1) ++ y2) ++ [(Head_Wait x0)]) ++ y3).length + [(0 : Int)].length < 68719476736) then
                  some ((((([(Head_Zone x0), (Head_Epoch x0), (Head_Kind x0), (Head_Time x0), (Head_Until x0), (Head_Count x0), (Head_Root x0), (Head_Prev x0)] ++ y1) ++ y2) ++ [(Head_Wait x0)]) ++ y3) ++ [(0 : Int)])
                else none
            else none
        else none
      else none
  else none
noncomputable def spec_KeyedHash (x0 : Int) (x1 : List Int) : Option Int :=
  bif decide ([x0].length + x1.length < 68719476736) then
  bif decide (([x0] ++ x1).length + [x0].length < 68719476736) then
    (spec_Hash (([x0] ++ x1) ++ [x0])).bind fun y1 =>
      some y1
  else none
else none
noncomputable def spec_TagOf (x0 : Int) (x1 : List Int) : Option Int :=
  bif decide ([(223 : Int)].length + x1.length < 68719476736) then
  (spec_KeyedHash x0 ([(223 : Int)] ++ x1)).bind fun y1 =>
    some y1
else none
noncomputable def spec_IsSigBy (x0 : TSig) (x1 : List Int) : Option Bool :=
  (spec_l1In x0.1 (1 : Int) (99 : Int)).bind fun y1 =>
  bif y1 then
    (spec_TagOf x0.1 x1).bind fun y2 =>
      some (x0.2 == y2)
  else some false
noncomputable abbrev spec_CountSigs.g19 (x0 : TKeys) (x1 : List Int) (x2 : List TSig) (v6_2 : Int) (v6_3 : Int) (v12_4 : Int) (r6 : Int → Int → Option Int) (r12 : Int → Option Int) (v19_5 : Bool) : Option Int :=
  bif v19_5 then
  r6 (IntKind.i64.wrap (v6_2 + (1 : Int))) (IntKind.i64.wrap (v6_3 + (1 : Int)))
else r12 (IntKind.i64.wrap (v12_4 + (1 : Int)))
noncomputable def spec_CountSigs.l19 (x0 : TKeys) (x1 : List Int) (x2 : List TSig) (v6_2 : Int) (v6_3 : Int) (v12_4 : Int) (r6 : Int → Int → Option Int) (r12 : Int → Option Int) (v19_5 : Bool) : Option Int :=
  spec_CountSigs.g19 x0 x1 x2 v6_2 v6_3 v12_4 r6 r12 v19_5
noncomputable abbrev spec_CountSigs.g12 (x0 : TKeys) (x1 : List Int) (x2 : List TSig) (v6_2 : Int) (v6_3 : Int) (r6 : Int → Int → Option Int) (r12 : Int → Option Int) (L19 : Bool → Option Int) (v12_4 : Int) : Option Int :=
  bif decide (v12_4 < (x2.length : Int)) then
  bif decide (0 ≤ v12_4) then
    bif decide (v12_4 < (x2.length : Int)) then
      bif decide (0 ≤ v6_3) then
        bif decide (v6_3 < (x0.1.length : Int)) then
          bif (x2.getD v12_4.toNat dSig).1 == (x0.1.getD v6_3.toNat (0 : Int)) then
            bif decide (0 ≤ v12_4) then
              bif decide (v12_4 < (x2.length : Int)) then
                (spec_IsSigBy (x2.getD v12_4.toNat dSig) x1).bind fun y1 =>
                  L19 y1
              else none
            else none
          else L19 false
        else none
      else none
    else none
  else none
else r6 v6_2 (IntKind.i64.wrap (v6_3 + (1 : Int)))
noncomputable def spec_CountSigs.l12 (x0 : TKeys) (x1 : List Int) (x2 : List TSig) (v6_2 : Int) (v6_3 : Int) (r6 : Int → Int → Option Int) (n : Nat) : Int → Option Int :=
  V.iter (fun (r12 : Int → Option Int) => fun v12_4 => spec_CountSigs.g12 x0 x1 x2 v6_2 v6_3 r6 r12 (spec_CountSigs.l19 x0 x1 x2 v6_2 v6_3 v12_4 r6 r12) v12_4) (fun _ => none) n
theorem spec_CountSigs.u12 (x0 : TKeys) (x1 : List Int) (x2 : List TSig) (v6_2 : Int) (v6_3 : Int) (r6 : Int → Int → Option Int) (n : Nat) (v12_4 : Int) : spec_CountSigs.l12 x0 x1 x2 v6_2 v6_3 r6 (n + 1) v12_4 = spec_CountSigs.g12 x0 x1 x2 v6_2 v6_3 r6 (spec_CountSigs.l12 x0 x1 x2 v6_2 v6_3 r6 n) (spec_CountSigs.l19 x0 x1 x2 v6_2 v6_3 v12_4 r6 (spec_CountSigs.l12 x0 x1 x2 v6_2 v6_3 r6 n)) v12_4 := rfl
noncomputable abbrev spec_CountSigs.g6 (x0 : TKeys) (x1 : List Int) (x2 : List TSig) (r6 : Int → Int → Option Int) (L12 : Int → Option Int) (v6_2 : Int) (v6_3 : Int) : Option Int :=
  bif decide (v6_3 < (x0.1.length : Int)) then
  L12 (0 : Int)
else some v6_2
noncomputable def spec_CountSigs.l6 (x0 : TKeys) (x1 : List Int) (x2 : List TSig) (n : Nat) : Int → Int → Option Int :=
  V.iter (fun (r6 : Int → Int → Option Int) => fun v6_2 v6_3 => spec_CountSigs.g6 x0 x1 x2 r6 (spec_CountSigs.l12 x0 x1 x2 v6_2 v6_3 r6 V.KK) v6_2 v6_3) (fun _ _ => none) n
theorem spec_CountSigs.u6 (x0 : TKeys) (x1 : List Int) (x2 : List TSig) (n : Nat) (v6_2 : Int) (v6_3 : Int) : spec_CountSigs.l6 x0 x1 x2 (n + 1) v6_2 v6_3 = spec_CountSigs.g6 x0 x1 x2 (spec_CountSigs.l6 x0 x1 x2 n) (spec_CountSigs.l12 x0 x1 x2 v6_2 v6_3 (spec_CountSigs.l6 x0 x1 x2 n) V.KK) v6_2 v6_3 := rfl
noncomputable abbrev spec_CountSigs.b (x0 : TKeys) (x1 : List Int) (x2 : List TSig) (L6 : Int → Int → Option Int) : Option Int :=
  L6 (0 : Int) (0 : Int)
noncomputable def spec_CountSigs (x0 : TKeys) (x1 : List Int) (x2 : List TSig) : Option Int :=
  spec_CountSigs.b x0 x1 x2 (spec_CountSigs.l6 x0 x1 x2 V.KK)
noncomputable def spec_IsSigned (x0 : TKeys) (x1 : List Int) (x2 : List TSig) : Option Bool :=
  (spec_IsKeys x0).bind fun y1 =>
  bif y1 then
    (spec_CountSigs x0 x1 x2).bind fun y2 =>
      some (decide (y2 ≥ x0.2))
  else some false
noncomputable def spec_IsFirst (x0 : TSigned) : Option Bool :=
  (spec_IsHead (Signed_Head x0)).bind fun y1 =>
  bif y1 then
    bif (Head_Epoch (Signed_Head x0)) == (0 : Int) then
      bif (Head_Kind (Signed_Head x0)) == (1 : Int) then
        bif !(Head_Frozen (Signed_Head x0)) then
          (spec_ZoneOf (Head_Keys (Signed_Head x0)) (Head_Prev (Signed_Head x0))).bind fun y2 =>
            bif (Head_Zone (Signed_Head x0)) == y2 then
              (spec_HeadInts (Signed_Head x0)).bind fun y3 =>
                (spec_IsSigned (Head_Keys (Signed_Head x0)) y3 (Signed_Sigs x0)).bind fun y4 =>
                  some y4
            else some false
        else some false
      else some false
    else some false
  else some false
noncomputable def spec_HeadDigest (x0 : THead) : Option Int :=
  (spec_HeadInts x0).bind fun y1 =>
  bif decide ([(233 : Int)].length + y1.length < 68719476736) then
    (spec_Hash ([(233 : Int)] ++ y1)).bind fun y2 =>
      some y2
  else none
noncomputable def spec_l15Owner (x0 : THead) (x1 : THead) : Option Int :=
  bif (Head_Frozen x0) then
  some (4 : Int)
else
  bif (Head_Frozen x1) then
    some (6 : Int)
  else some (1 : Int)
noncomputable abbrev spec_EqualInts.g8 (x0 : List Int) (x1 : List Int) (r8 : Int → Option Bool) (v8_2 : Int) : Option Bool :=
  bif decide (v8_2 < (x0.length : Int)) then
  bif decide (0 ≤ v8_2) then
    bif decide (v8_2 < (x0.length : Int)) then
      bif decide (0 ≤ v8_2) then
        bif decide (v8_2 < (x1.length : Int)) then
          bif (x0.getD v8_2.toNat (0 : Int)) != (x1.getD v8_2.toNat (0 : Int)) then
            some false
          else r8 (IntKind.i64.wrap (v8_2 + (1 : Int)))
        else none
      else none
    else none
  else none
else some true
noncomputable def spec_EqualInts.l8 (x0 : List Int) (x1 : List Int) (n : Nat) : Int → Option Bool :=
  V.iter (fun (r8 : Int → Option Bool) => fun v8_2 => spec_EqualInts.g8 x0 x1 r8 v8_2) (fun _ => none) n
theorem spec_EqualInts.u8 (x0 : List Int) (x1 : List Int) (n : Nat) (v8_2 : Int) : spec_EqualInts.l8 x0 x1 (n + 1) v8_2 = spec_EqualInts.g8 x0 x1 (spec_EqualInts.l8 x0 x1 n) v8_2 := rfl
noncomputable abbrev spec_EqualInts.b (x0 : List Int) (x1 : List Int) (L8 : Int → Option Bool) : Option Bool :=
  bif (x0.length : Int) != (x1.length : Int) then
  some false
else L8 (0 : Int)
noncomputable def spec_EqualInts (x0 : List Int) (x1 : List Int) : Option Bool :=
  spec_EqualInts.b x0 x1 (spec_EqualInts.l8 x0 x1 V.KK)
noncomputable def spec_EqualKeys (x0 : TKeys) (x1 : TKeys) : Option Bool :=
  bif x0.2 == x1.2 then
  (spec_EqualInts x0.1 x1.1).bind fun y1 =>
    some y1
else some false
noncomputable def spec_SameContents (x0 : THead) (x1 : THead) : Option Bool :=
  bif (Head_Count x0) == (Head_Count x1) then
  some ((Head_Root x0) == (Head_Root x1))
else some false
noncomputable abbrev spec_l15Heir.g9 (x0 : THead) (x1 : THead) (v9_0 : Bool) : Option Int :=
  bif v9_0 then
  some (5 : Int)
else
  bif (Head_Frozen x1) then
    some (6 : Int)
  else
    (spec_EqualKeys (Head_Keys x1) (Head_Heirs x0)).bind fun y2 =>
      bif !y2 then
        some (6 : Int)
      else
        (spec_SameContents x1 x0).bind fun y3 =>
          bif !y3 then
            some (6 : Int)
          else some (1 : Int)
noncomputable def spec_l15Heir.l9 (x0 : THead) (x1 : THead) (v9_0 : Bool) : Option Int :=
  spec_l15Heir.g9 x0 x1 v9_0
noncomputable abbrev spec_l15Heir.b (x0 : THead) (x1 : THead) (L9 : Bool → Option Int) : Option Int :=
  bif (Head_Frozen x0) then
  some (4 : Int)
else
  (spec_NoKeys (Head_Heirs x0)).bind fun y1 =>
    bif y1 then
      L9 true
    else L9 (decide ((Head_Time x1) < (IntKind.i64.wrap ((Head_Until x0) + (Head_Wait x0)))))
noncomputable def spec_l15Heir (x0 : THead) (x1 : THead) : Option Int :=
  spec_l15Heir.b x0 x1 (spec_l15Heir.l9 x0 x1)
noncomputable abbrev spec_l15Judge.g9 (x0 : THead) (x1 : THead) (v9_0 : Bool) : Option Int :=
  bif v9_0 then
  some (6 : Int)
else
  bif (Head_Frozen x1) then
    (spec_EqualKeys (Head_Keys x1) (Head_Keys x0)).bind fun y2 =>
      bif !y2 then
        some (6 : Int)
      else some (1 : Int)
  else some (1 : Int)
noncomputable def spec_l15Judge.l9 (x0 : THead) (x1 : THead) (v9_0 : Bool) : Option Int :=
  spec_l15Judge.g9 x0 x1 v9_0
noncomputable abbrev spec_l15Judge.b (x0 : THead) (x1 : THead) (L9 : Bool → Option Int) : Option Int :=
  (spec_NoKeys (Head_Judge x0)).bind fun y1 =>
  bif y1 then
    some (5 : Int)
  else
    bif (Head_Frozen x1) == (Head_Frozen x0) then
      L9 true
    else
      (spec_SameContents x1 x0).bind fun y3 =>
        bif !y3 then
          L9 true
        else
          (spec_EqualKeys (Head_Judge x1) (Head_Judge x0)).bind fun y4 =>
            bif !y4 then
              L9 true
            else
              (spec_EqualKeys (Head_Heirs x1) (Head_Heirs x0)).bind fun y5 =>
                bif !y5 then
                  L9 true
                else L9 ((Head_Wait x1) != (Head_Wait x0))
noncomputable def spec_l15Judge (x0 : THead) (x1 : THead) : Option Int :=
  spec_l15Judge.b x0 x1 (spec_l15Judge.l9 x0 x1)
noncomputable abbrev spec_NextCode.g31 (x1 : TSigned) (v31_0 : Int) (v31_34 : List Int) (v31_35 : Int) : Option Int :=
  bif v31_0 == (1 : Int) then
  (spec_HeadInts (Signed_Head x1)).bind fun y6 =>
    (spec_IsSigned (v31_34, v31_35) y6 (Signed_Sigs x1)).bind fun y7 =>
      bif !y7 then
        some (7 : Int)
      else some v31_0
else some v31_0
noncomputable def spec_NextCode.l31 (x1 : TSigned) (v31_0 : Int) (v31_34 : List Int) (v31_35 : Int) : Option Int :=
  spec_NextCode.g31 x1 v31_0 v31_34 v31_35
noncomputable abbrev spec_NextCode.g13 (x0 : THead) (x1 : TSigned) (L31 : Int → (List Int) → Int → Option Int) : Option Int :=
  (spec_l15Owner x0 (Signed_Head x1)).bind fun y4 =>
  bif (Head_Kind (Signed_Head x1)) == (2 : Int) then
    (spec_l15Heir x0 (Signed_Head x1)).bind fun y5 =>
      L31 y5 (Head_Heirs x0).1 (Head_Heirs x0).2
  else
    bif (Head_Kind (Signed_Head x1)) == (3 : Int) then
      (spec_l15Judge x0 (Signed_Head x1)).bind fun y8 =>
        L31 y8 (Head_Judge x0).1 (Head_Judge x0).2
    else L31 y4 (Head_Keys x0).1 (Head_Keys x0).2
noncomputable def spec_NextCode.l13 (x0 : THead) (x1 : TSigned) : Option Int :=
  spec_NextCode.g13 x0 x1 (spec_NextCode.l31 x1)
noncomputable abbrev spec_NextCode.g9 (x0 : THead) (x1 : TSigned) (L13 : Option Int) : Option Int :=
  bif (Head_Zone (Signed_Head x1)) != (Head_Zone x0) then
  some (3 : Int)
else
  bif (Head_Epoch (Signed_Head x1)) != (IntKind.i64.wrap ((Head_Epoch x0) + (1 : Int))) then
    some (3 : Int)
  else
    (spec_HeadDigest x0).bind fun y3 =>
      bif (Head_Prev (Signed_Head x1)) != y3 then
        some (3 : Int)
      else
        bif decide ((Head_Time (Signed_Head x1)) < (Head_Time x0)) then
          some (3 : Int)
        else L13
noncomputable def spec_NextCode.l9 (x0 : THead) (x1 : TSigned) : Option Int :=
  spec_NextCode.g9 x0 x1 (spec_NextCode.l13 x0 x1)
noncomputable abbrev spec_NextCode.b (x0 : THead) (x1 : TSigned) (L9 : Option Int) : Option Int :=
  (spec_IsHead x0).bind fun y1 =>
  bif !y1 then
    some (2 : Int)
  else
    (spec_IsHead (Signed_Head x1)).bind fun y2 =>
      bif !y2 then
        some (2 : Int)
      else L9
noncomputable def spec_NextCode (x0 : THead) (x1 : TSigned) : Option Int :=
  spec_NextCode.b x0 x1 (spec_NextCode.l9 x0 x1)
noncomputable def spec_MayFollow (x0 : THead) (x1 : TSigned) : Option Bool :=
  (spec_NextCode x0 x1).bind fun y1 =>
  some (y1 == (1 : Int))
noncomputable abbrev spec_FirstWrong.g4 (x0 : List TSigned) (r4 : Int → Option Int) (v4_1 : Int) : Option Int :=
  bif decide (v4_1 < (x0.length : Int)) then
  bif v4_1 == (0 : Int) then
    bif decide (0 ≤ (0 : Int)) then
      bif decide ((0 : Int) < (x0.length : Int)) then
        (spec_IsFirst (x0.getD ((0 : Int).toNat) dSigned)).bind fun y1 =>
          bif !y1 then
            some v4_1
          else
            bif decide (v4_1 > (0 : Int)) then
              bif decide (0 ≤ (IntKind.i64.wrap (v4_1 - (1 : Int)))) then
                bif decide ((IntKind.i64.wrap (v4_1 - (1 : Int))) < (x0.length : Int)) then
                  bif decide (0 ≤ v4_1) then
                    bif decide (v4_1 < (x0.length : Int)) then
                      (spec_MayFollow (Signed_Head (x0.getD ((IntKind.i64.wrap (v4_1 - (1 : Int))).toNat) dSigned)) (x0.getD v4_1.toNat dSigned)).bind fun y2 =>
                        bif !y2 then
                          some v4_1
                        else r4 (IntKind.i64.wrap (v4_1 + (1 : Int)))
                    else none
                  else none
                else none
              else none
            else r4 (IntKind.i64.wrap (v4_1 + (1 : Int)))
      else none
    else none
  else
    bif decide (v4_1 > (0 : Int)) then
      bif decide (0 ≤ (IntKind.i64.wrap (v4_1 - (1 : Int)))) then
        bif decide ((IntKind.i64.wrap (v4_1 - (1 : Int))) < (x0.length : Int)) then
          bif decide (0 ≤ v4_1) then
            bif decide (v4_1 < (x0.length : Int)) then
              (spec_MayFollow (Signed_Head (x0.getD ((IntKind.i64.wrap (v4_1 - (1 : Int))).toNat) dSigned)) (x0.getD v4_1.toNat dSigned)).bind fun y3 =>
                bif !y3 then
                  some v4_1
                else r4 (IntKind.i64.wrap (v4_1 + (1 : Int)))
            else none
          else none
        else none
      else none
    else r4 (IntKind.i64.wrap (v4_1 + (1 : Int)))
else some (-1 : Int)
noncomputable def spec_FirstWrong.l4 (x0 : List TSigned) (n : Nat) : Int → Option Int :=
  V.iter (fun (r4 : Int → Option Int) => fun v4_1 => spec_FirstWrong.g4 x0 r4 v4_1) (fun _ => none) n
theorem spec_FirstWrong.u4 (x0 : List TSigned) (n : Nat) (v4_1 : Int) : spec_FirstWrong.l4 x0 (n + 1) v4_1 = spec_FirstWrong.g4 x0 (spec_FirstWrong.l4 x0 n) v4_1 := rfl
noncomputable abbrev spec_FirstWrong.b (x0 : List TSigned) (L4 : Int → Option Int) : Option Int :=
  L4 (0 : Int)
noncomputable def spec_FirstWrong (x0 : List TSigned) : Option Int :=
  spec_FirstWrong.b x0 (spec_FirstWrong.l4 x0 V.KK)
noncomputable def spec_IsChain (x0 : List TSigned) : Option Bool :=
  (spec_l1In (x0.length : Int) (1 : Int) (12 : Int)).bind fun y1 =>
  bif y1 then
    (spec_FirstWrong x0).bind fun y2 =>
      some (decide (y2 < (0 : Int)))
  else some false
noncomputable def spec_l6Copy (x0 : TKeys) : Option TKeys :=
  bif decide (([] : List Int).length + x0.1.length < 68719476736) then
  some ([] ++ x0.1, x0.2)
else none
noncomputable def spec_l13Copy (x0 : THead) : Option THead :=
  (spec_l6Copy (Head_Keys x0)).bind fun y1 =>
  (spec_l6Copy (Head_Heirs x0)).bind fun y2 =>
    (spec_l6Copy (Head_Judge x0)).bind fun y3 =>
      some (Head_mk (Head_Zone x0) (Head_Epoch x0) (Head_Kind x0) (Head_Time x0) (Head_Until x0) (Head_Count x0) (Head_Root x0) (Head_Prev x0) y1 y2 (Head_Wait x0) y3 (Head_Frozen x0))
noncomputable def spec_LastHead (x0 : List TSigned) : Option TRHeadBool :=
  (spec_IsChain x0).bind fun y1 =>
  bif !y1 then
    some dRHeadBool
  else
    bif decide (0 ≤ (IntKind.i64.wrap ((x0.length : Int) - (1 : Int)))) then
      bif decide ((IntKind.i64.wrap ((x0.length : Int) - (1 : Int))) < (x0.length : Int)) then
        (spec_l13Copy (Signed_Head (x0.getD ((IntKind.i64.wrap ((x0.length : Int) - (1 : Int))).toNat) dSigned))).bind fun y2 =>
          some (RHeadBool_mk y2 true)
      else none
    else none
noncomputable def spec_IsFresh (x0 : THead) (x1 : Int) : Option Bool :=
  (spec_l1In x1 (Head_Time x0) (Head_Until x0)).bind fun y1 =>
  some y1
noncomputable abbrev spec_BytesToInts.g6 (x0 : List Int) (r6 : Int → (List Int) → Option (List Int)) (v6_1 : Int) (v6_2 : List Int) : Option (List Int) :=
  bif decide (v6_1 < (x0.length : Int)) then
  bif decide (0 ≤ v6_1) then
    bif decide (v6_1 < (x0.length : Int)) then
      bif decide (v6_2.length + [IntKind.i64.wrap (x0.getD v6_1.toNat (0 : Int))].length < 68719476736) then
        r6 (IntKind.i64.wrap (v6_1 + (1 : Int))) (v6_2 ++ [IntKind.i64.wrap (x0.getD v6_1.toNat (0 : Int))])
      else none
    else none
  else none
else some v6_2
noncomputable def spec_BytesToInts.l6 (x0 : List Int) (n : Nat) : Int → (List Int) → Option (List Int) :=
  V.iter (fun (r6 : Int → (List Int) → Option (List Int)) => fun v6_1 v6_2 => spec_BytesToInts.g6 x0 r6 v6_1 v6_2) (fun _ _ => none) n
theorem spec_BytesToInts.u6 (x0 : List Int) (n : Nat) (v6_1 : Int) (v6_2 : List Int) : spec_BytesToInts.l6 x0 (n + 1) v6_1 v6_2 = spec_BytesToInts.g6 x0 (spec_BytesToInts.l6 x0 n) v6_1 v6_2 := rfl
noncomputable abbrev spec_BytesToInts.b (x0 : List Int) (L6 : Int → (List Int) → Option (List Int)) : Option (List Int) :=
  L6 (0 : Int) [(x0.length : Int)]
noncomputable def spec_BytesToInts (x0 : List Int) : Option (List Int) :=
  spec_BytesToInts.b x0 (spec_BytesToInts.l6 x0 V.KK)
noncomputable def spec_LabelInts (x0 : ByteArray) : Option (List Int) :=
  bif V.smallS x0 then
  (spec_BytesToInts (V.bytesOf x0)).bind fun y1 =>
    some y1
else none
noncomputable abbrev spec_EntryInts.g6 (x0 : TEntry) (r6 : Int → (List Int) → Option (List Int)) (v6_0 : Int) (v6_5 : List Int) : Option (List Int) :=
  bif decide (v6_0 < (x0.2.2.2.length : Int)) then
  bif decide (0 ≤ v6_0) then
    bif decide (v6_0 < (x0.2.2.2.length : Int)) then
      (spec_LabelInts (x0.2.2.2.getD v6_0.toNat (⟨#[]⟩ : ByteArray))).bind fun y2 =>
        bif decide (v6_5.length + y2.length < 68719476736) then
          r6 (IntKind.i64.wrap (v6_0 + (1 : Int))) (v6_5 ++ y2)
        else none
    else none
  else none
else some v6_5
noncomputable def spec_EntryInts.l6 (x0 : TEntry) (n : Nat) : Int → (List Int) → Option (List Int) :=
  V.iter (fun (r6 : Int → (List Int) → Option (List Int)) => fun v6_0 v6_5 => spec_EntryInts.g6 x0 r6 v6_0 v6_5) (fun _ _ => none) n
theorem spec_EntryInts.u6 (x0 : TEntry) (n : Nat) (v6_0 : Int) (v6_5 : List Int) : spec_EntryInts.l6 x0 (n + 1) v6_0 v6_5 = spec_EntryInts.g6 x0 (spec_EntryInts.l6 x0 n) v6_0 v6_5 := rfl
noncomputable abbrev spec_EntryInts.b (x0 : TEntry) (L6 : Int → (List Int) → Option (List Int)) : Option (List Int) :=
  (spec_LabelInts x0.1).bind fun y1 =>
  bif decide (y1.length + [x0.2.1, x0.2.2.1, (x0.2.2.2.length : Int)].length < 68719476736) then
    L6 (0 : Int) (y1 ++ [x0.2.1, x0.2.2.1, (x0.2.2.2.length : Int)])
  else none
noncomputable def spec_EntryInts (x0 : TEntry) : Option (List Int) :=
  spec_EntryInts.b x0 (spec_EntryInts.l6 x0 V.KK)
noncomputable def spec_LeafOf (x0 : TEntry) : Option Int :=
  (spec_EntryInts x0).bind fun y1 =>
  bif decide ([(227 : Int)].length + y1.length < 68719476736) then
    (spec_Hash ([(227 : Int)] ++ y1)).bind fun y2 =>
      some y2
  else none
noncomputable def spec_NodeOf (x0 : Int) (x1 : Int) : Option Int :=
  (spec_Hash [(229 : Int), x0, x1]).bind fun y1 =>
  some y1
noncomputable abbrev spec_TopFrom.g25 (x3 : List Int) (v8_1 : Int) (v8_2 : Int) (r8 : Int → Int → Int → Int → Option (Int × Bool)) (v25_0 : Int) (v25_4 : Int) : Option (Int × Bool) :=
  bif ((2 : Int) == (0 : Int)) then
  none
else
  bif ((2 : Int) == (0 : Int)) then
    none
  else r8 v25_0 (IntKind.i64.wrap (Int.tdiv v8_1 (2 : Int))) (IntKind.i64.wrap (Int.tdiv (IntKind.i64.wrap (v8_2 + (1 : Int))) (2 : Int))) v25_4
noncomputable def spec_TopFrom.l25 (x3 : List Int) (v8_1 : Int) (v8_2 : Int) (r8 : Int → Int → Int → Int → Option (Int × Bool)) (v25_0 : Int) (v25_4 : Int) : Option (Int × Bool) :=
  spec_TopFrom.g25 x3 v8_1 v8_2 r8 v25_0 v25_4
noncomputable abbrev spec_TopFrom.g13 (x3 : List Int) (v8_0 : Int) (v8_1 : Int) (v8_2 : Int) (v8_4 : Int) (r8 : Int → Int → Int → Int → Option (Int × Bool)) (L25 : Int → Int → Option (Int × Bool)) (v13_5 : Bool) : Option (Int × Bool) :=
  bif v13_5 then
  bif decide (v8_4 ≥ (x3.length : Int)) then
    some ((0 : Int), false)
  else
    bif ((2 : Int) == (0 : Int)) then
      none
    else
      bif (Int.tmod v8_1 (2 : Int)) == (1 : Int) then
        bif decide (0 ≤ v8_4) then
          bif decide (v8_4 < (x3.length : Int)) then
            (spec_NodeOf (x3.getD v8_4.toNat (0 : Int)) v8_0).bind fun y3 =>
              L25 y3 (IntKind.i64.wrap (v8_4 + (1 : Int)))
          else none
        else none
      else
        bif decide (0 ≤ v8_4) then
          bif decide (v8_4 < (x3.length : Int)) then
            (spec_NodeOf v8_0 (x3.getD v8_4.toNat (0 : Int))).bind fun y4 =>
              L25 y4 (IntKind.i64.wrap (v8_4 + (1 : Int)))
          else none
        else none
else L25 v8_0 v8_4
noncomputable def spec_TopFrom.l13 (x3 : List Int) (v8_0 : Int) (v8_1 : Int) (v8_2 : Int) (v8_4 : Int) (r8 : Int → Int → Int → Int → Option (Int × Bool)) (v13_5 : Bool) : Option (Int × Bool) :=
  spec_TopFrom.g13 x3 v8_0 v8_1 v8_2 v8_4 r8 (spec_TopFrom.l25 x3 v8_1 v8_2 r8) v13_5
noncomputable abbrev spec_TopFrom.g8 (x3 : List Int) (r8 : Int → Int → Int → Int → Option (Int × Bool)) (L13 : Bool → Option (Int × Bool)) (v8_0 : Int) (v8_1 : Int) (v8_2 : Int) (v8_4 : Int) : Option (Int × Bool) :=
  bif decide (v8_2 > (1 : Int)) then
  bif ((2 : Int) == (0 : Int)) then
    none
  else
    bif (Int.tmod v8_1 (2 : Int)) == (1 : Int) then
      L13 true
    else L13 (decide ((IntKind.i64.wrap (v8_1 + (1 : Int))) < v8_2))
else
  bif v8_4 != (x3.length : Int) then
    some ((0 : Int), false)
  else some (v8_0, true)
noncomputable def spec_TopFrom.l8 (x3 : List Int) (n : Nat) : Int → Int → Int → Int → Option (Int × Bool) :=
  V.iter (fun (r8 : Int → Int → Int → Int → Option (Int × Bool)) => fun v8_0 v8_1 v8_2 v8_4 => spec_TopFrom.g8 x3 r8 (spec_TopFrom.l13 x3 v8_0 v8_1 v8_2 v8_4 r8) v8_0 v8_1 v8_2 v8_4) (fun _ _ _ _ => none) n
theorem spec_TopFrom.u8 (x3 : List Int) (n : Nat) (v8_0 : Int) (v8_1 : Int) (v8_2 : Int) (v8_4 : Int) : spec_TopFrom.l8 x3 (n + 1) v8_0 v8_1 v8_2 v8_4 = spec_TopFrom.g8 x3 (spec_TopFrom.l8 x3 n) (spec_TopFrom.l13 x3 v8_0 v8_1 v8_2 v8_4 (spec_TopFrom.l8 x3 n)) v8_0 v8_1 v8_2 v8_4 := rfl
noncomputable abbrev spec_TopFrom.g7 (x0 : Int) (x1 : Int) (x2 : Int) (x3 : List Int) (L8 : Int → Int → Int → Int → Option (Int × Bool)) : Option (Int × Bool) :=
  L8 x0 x1 x2 (0 : Int)
noncomputable def spec_TopFrom.l7 (x0 : Int) (x1 : Int) (x2 : Int) (x3 : List Int) : Option (Int × Bool) :=
  spec_TopFrom.g7 x0 x1 x2 x3 (spec_TopFrom.l8 x3 V.KK)
noncomputable abbrev spec_TopFrom.b (x0 : Int) (x1 : Int) (x2 : Int) (x3 : List Int) (L7 : Option (Int × Bool)) : Option (Int × Bool) :=
  (spec_l1In x2 (1 : Int) (12 : Int)).bind fun y1 =>
  bif !y1 then
    some ((0 : Int), false)
  else
    (spec_l1In x1 (0 : Int) (IntKind.i64.wrap (x2 - (1 : Int)))).bind fun y2 =>
      bif !y2 then
        some ((0 : Int), false)
      else L7
noncomputable def spec_TopFrom (x0 : Int) (x1 : Int) (x2 : Int) (x3 : List Int) : Option (Int × Bool) :=
  spec_TopFrom.b x0 x1 x2 x3 (spec_TopFrom.l7 x0 x1 x2 x3)
noncomputable abbrev spec_IsLabel.g8 (x0 : ByteArray) (r8 : Int → Option Bool) (v8_1 : Int) : Option Bool :=
  bif decide (v8_1 < (x0.size : Int)) then
  bif decide (0 ≤ v8_1) then
    bif decide (v8_1 < (x0.size : Int)) then
      bif decide ((V.bt x0 v8_1) < (97 : Int)) then
        bif decide (0 ≤ v8_1) then
          bif decide (v8_1 < (x0.size : Int)) then
            bif decide ((V.bt x0 v8_1) < (48 : Int)) then
              bif decide (0 ≤ v8_1) then
                bif decide (v8_1 < (x0.size : Int)) then
                  bif (V.bt x0 v8_1) != (45 : Int) then
                    some false
                  else r8 (IntKind.i64.wrap (v8_1 + (1 : Int)))
                else none
              else none
            else
              bif decide (0 ≤ v8_1) then
                bif decide (v8_1 < (x0.size : Int)) then
                  bif decide ((V.bt x0 v8_1) > (57 : Int)) then
                    bif decide (0 ≤ v8_1) then
                      bif decide (v8_1 < (x0.size : Int)) then
                        bif (V.bt x0 v8_1) != (45 : Int) then
                          some false
                        else r8 (IntKind.i64.wrap (v8_1 + (1 : Int)))
                      else none
                    else none
                  else r8 (IntKind.i64.wrap (v8_1 + (1 : Int)))
                else none
              else none
          else none
        else none
      else
        bif decide (0 ≤ v8_1) then
          bif decide (v8_1 < (x0.size : Int)) then
            bif decide ((V.bt x0 v8_1) > (122 : Int)) then
              bif decide (0 ≤ v8_1) then
                bif decide (v8_1 < (x0.size : Int)) then
                  bif decide ((V.bt x0 v8_1) < (48 : Int)) then
                    bif decide (0 ≤ v8_1) then
                      bif decide (v8_1 < (x0.size : Int)) then
                        bif (V.bt x0 v8_1) != (45 : Int) then
                          some false
                        else r8 (IntKind.i64.wrap (v8_1 + (1 : Int)))
                      else none
                    else none
                  else
                    bif decide (0 ≤ v8_1) then
                      bif decide (v8_1 < (x0.size : Int)) then
                        bif decide ((V.bt x0 v8_1) > (57 : Int)) then
                          bif decide (0 ≤ v8_1) then
                            bif decide (v8_1 < (x0.size : Int)) then
                              bif (V.bt x0 v8_1) != (45 : Int) then
                                some false
                              else r8 (IntKind.i64.wrap (v8_1 + (1 : Int)))
                            else none
                          else none
                        else r8 (IntKind.i64.wrap (v8_1 + (1 : Int)))
                      else none
                    else none
                else none
              else none
            else r8 (IntKind.i64.wrap (v8_1 + (1 : Int)))
          else none
        else none
    else none
  else none
else some true
noncomputable def spec_IsLabel.l8 (x0 : ByteArray) (n : Nat) : Int → Option Bool :=
  V.iter (fun (r8 : Int → Option Bool) => fun v8_1 => spec_IsLabel.g8 x0 r8 v8_1) (fun _ => none) n
theorem spec_IsLabel.u8 (x0 : ByteArray) (n : Nat) (v8_1 : Int) : spec_IsLabel.l8 x0 (n + 1) v8_1 = spec_IsLabel.g8 x0 (spec_IsLabel.l8 x0 n) v8_1 := rfl
noncomputable abbrev spec_IsLabel.g7 (x0 : ByteArray) (L8 : Int → Option Bool) : Option Bool :=
  L8 (0 : Int)
noncomputable def spec_IsLabel.l7 (x0 : ByteArray) : Option Bool :=
  spec_IsLabel.g7 x0 (spec_IsLabel.l8 x0 V.KK)
noncomputable abbrev spec_IsLabel.b (x0 : ByteArray) (L7 : Option Bool) : Option Bool :=
  (spec_l1In (x0.size : Int) (1 : Int) (8 : Int)).bind fun y1 =>
  bif !y1 then
    some false
  else
    bif decide (0 ≤ (0 : Int)) then
      bif decide ((0 : Int) < (x0.size : Int)) then
        bif (V.bt x0 (0 : Int)) == (45 : Int) then
          some false
        else
          bif decide (0 ≤ (IntKind.i64.wrap ((x0.size : Int) - (1 : Int)))) then
            bif decide ((IntKind.i64.wrap ((x0.size : Int) - (1 : Int))) < (x0.size : Int)) then
              bif (V.bt x0 (IntKind.i64.wrap ((x0.size : Int) - (1 : Int)))) == (45 : Int) then
                some false
              else L7
            else none
          else none
      else none
    else none
noncomputable def spec_IsLabel (x0 : ByteArray) : Option Bool :=
  spec_IsLabel.b x0 (spec_IsLabel.l7 x0)
noncomputable abbrev spec_IsPath.g4 (x0 : List ByteArray) (r4 : Int → Option Bool) (v4_1 : Int) : Option Bool :=
  bif decide (v4_1 < (x0.length : Int)) then
  bif decide (0 ≤ v4_1) then
    bif decide (v4_1 < (x0.length : Int)) then
      (spec_IsLabel (x0.getD v4_1.toNat (⟨#[]⟩ : ByteArray))).bind fun y1 =>
        bif !y1 then
          some false
        else r4 (IntKind.i64.wrap (v4_1 + (1 : Int)))
    else none
  else none
else
  (spec_l1In (x0.length : Int) (1 : Int) (4 : Int)).bind fun y2 =>
    some y2
noncomputable def spec_IsPath.l4 (x0 : List ByteArray) (n : Nat) : Int → Option Bool :=
  V.iter (fun (r4 : Int → Option Bool) => fun v4_1 => spec_IsPath.g4 x0 r4 v4_1) (fun _ => none) n
theorem spec_IsPath.u4 (x0 : List ByteArray) (n : Nat) (v4_1 : Int) : spec_IsPath.l4 x0 (n + 1) v4_1 = spec_IsPath.g4 x0 (spec_IsPath.l4 x0 n) v4_1 := rfl
noncomputable abbrev spec_IsPath.b (x0 : List ByteArray) (L4 : Int → Option Bool) : Option Bool :=
  L4 (0 : Int)
noncomputable def spec_IsPath (x0 : List ByteArray) : Option Bool :=
  spec_IsPath.b x0 (spec_IsPath.l4 x0 V.KK)
noncomputable def spec_IsEntry (x0 : TEntry) : Option Bool :=
  bif x0.2.1 == (1 : Int) then
  (spec_IsLabel x0.1).bind fun y1 =>
    bif y1 then
      (spec_l1In x0.2.2.1 (0 : Int) (999999 : Int)).bind fun y2 =>
        bif y2 then
          some ((x0.2.2.2.length : Int) == (0 : Int))
        else some false
    else some false
else
  bif x0.2.1 == (2 : Int) then
    (spec_IsLabel x0.1).bind fun y3 =>
      bif y3 then
        (spec_l1In x0.2.2.1 (0 : Int) (2147483646 : Int)).bind fun y4 =>
          bif y4 then
            some ((x0.2.2.2.length : Int) == (0 : Int))
          else some false
      else some false
  else
    bif x0.2.1 == (3 : Int) then
      (spec_IsLabel x0.1).bind fun y5 =>
        bif y5 then
          (spec_l1In x0.2.2.1 (0 : Int) (2147483646 : Int)).bind fun y6 =>
            bif y6 then
              (spec_IsPath x0.2.2.2).bind fun y7 =>
                some y7
            else some false
        else some false
    else some false
noncomputable def spec_l10Root (x0 : Int) (x1 : Int) : Option Int :=
  (spec_Hash [(231 : Int), x0, x1]).bind fun y1 =>
  some y1
noncomputable def spec_CheckEntry (x0 : Int) (x1 : Int) (x2 : TEntry) (x3 : TProof) : Option Bool :=
  (spec_LeafOf x2).bind fun y1 =>
  (spec_TopFrom y1 x3.1 x1 x3.2).bind fun y2 =>
    (spec_IsEntry x2).bind fun y3 =>
      bif y3 then
        bif y2.2 then
          (spec_l10Root x1 y2.1).bind fun y4 =>
            some (y4 == x0)
        else some false
      else some false
noncomputable abbrev spec_SamePath.g8 (x0 : List ByteArray) (x1 : List ByteArray) (r8 : Int → Option Bool) (v8_2 : Int) : Option Bool :=
  bif decide (v8_2 < (x0.length : Int)) then
  bif decide (0 ≤ v8_2) then
    bif decide (v8_2 < (x0.length : Int)) then
      bif decide (0 ≤ v8_2) then
        bif decide (v8_2 < (x1.length : Int)) then
          bif !((x0.getD v8_2.toNat (⟨#[]⟩ : ByteArray)).toList == (x1.getD v8_2.toNat (⟨#[]⟩ : ByteArray)).toList) then
            some false
          else r8 (IntKind.i64.wrap (v8_2 + (1 : Int)))
        else none
      else none
    else none
  else none
else some true
noncomputable def spec_SamePath.l8 (x0 : List ByteArray) (x1 : List ByteArray) (n : Nat) : Int → Option Bool :=
  V.iter (fun (r8 : Int → Option Bool) => fun v8_2 => spec_SamePath.g8 x0 x1 r8 v8_2) (fun _ => none) n
theorem spec_SamePath.u8 (x0 : List ByteArray) (x1 : List ByteArray) (n : Nat) (v8_2 : Int) : spec_SamePath.l8 x0 x1 (n + 1) v8_2 = spec_SamePath.g8 x0 x1 (spec_SamePath.l8 x0 x1 n) v8_2 := rfl
noncomputable abbrev spec_SamePath.b (x0 : List ByteArray) (x1 : List ByteArray) (L8 : Int → Option Bool) : Option Bool :=
  bif (x0.length : Int) != (x1.length : Int) then
  some false
else L8 (0 : Int)
noncomputable def spec_SamePath (x0 : List ByteArray) (x1 : List ByteArray) : Option Bool :=
  spec_SamePath.b x0 x1 (spec_SamePath.l8 x0 x1 V.KK)
noncomputable def spec_EqualEntries (x0 : TEntry) (x1 : TEntry) : Option Bool :=
  bif x0.1.toList == x1.1.toList then
  bif x0.2.1 == x1.2.1 then
    bif x0.2.2.1 == x1.2.2.1 then
      (spec_SamePath x0.2.2.2 x1.2.2.2).bind fun y1 =>
        some y1
    else some false
  else some false
else some false
noncomputable def spec_EqualProofs (x0 : TProof) (x1 : TProof) : Option Bool :=
  bif x0.1 == x1.1 then
  (spec_EqualInts x0.2 x1.2).bind fun y1 =>
    some y1
else some false
noncomputable def spec_EqualGaps (x0 : TGap) (x1 : TGap) : Option Bool :=
  bif (Gap_At x0) == (Gap_At x1) then
  (spec_EqualEntries (Gap_Before x0) (Gap_Before x1)).bind fun y1 =>
    bif y1 then
      (spec_EqualEntries (Gap_After x0) (Gap_After x1)).bind fun y2 =>
        bif y2 then
          (spec_EqualProofs (Gap_Left x0) (Gap_Left x1)).bind fun y3 =>
            bif y3 then
              (spec_EqualProofs (Gap_Right x0) (Gap_Right x1)).bind fun y4 =>
                some y4
            else some false
        else some false
    else some false
else some false
noncomputable abbrev spec_LeavesOf.g6 (x0 : List TEntry) (r6 : Int → (List Int) → Option (List Int)) (v6_1 : Int) (v6_2 : List Int) : Option (List Int) :=
  bif decide (v6_1 < (x0.length : Int)) then
  bif decide (0 ≤ v6_1) then
    bif decide (v6_1 < (x0.length : Int)) then
      (spec_LeafOf (x0.getD v6_1.toNat dEntry)).bind fun y1 =>
        bif decide (v6_2.length + [y1].length < 68719476736) then
          r6 (IntKind.i64.wrap (v6_1 + (1 : Int))) (v6_2 ++ [y1])
        else none
    else none
  else none
else some v6_2
noncomputable def spec_LeavesOf.l6 (x0 : List TEntry) (n : Nat) : Int → (List Int) → Option (List Int) :=
  V.iter (fun (r6 : Int → (List Int) → Option (List Int)) => fun v6_1 v6_2 => spec_LeavesOf.g6 x0 r6 v6_1 v6_2) (fun _ _ => none) n
theorem spec_LeavesOf.u6 (x0 : List TEntry) (n : Nat) (v6_1 : Int) (v6_2 : List Int) : spec_LeavesOf.l6 x0 (n + 1) v6_1 v6_2 = spec_LeavesOf.g6 x0 (spec_LeavesOf.l6 x0 n) v6_1 v6_2 := rfl
noncomputable abbrev spec_LeavesOf.b (x0 : List TEntry) (L6 : Int → (List Int) → Option (List Int)) : Option (List Int) :=
  L6 (0 : Int) []
noncomputable def spec_LeavesOf (x0 : List TEntry) : Option (List Int) :=
  spec_LeavesOf.b x0 (spec_LeavesOf.l6 x0 V.KK)
noncomputable abbrev spec_l10Up.g6 (x0 : List Int) (r6 : Int → (List Int) → Option (List Int)) (v6_1 : Int) (v6_2 : List Int) : Option (List Int) :=
  bif decide (v6_1 < (x0.length : Int)) then
  bif decide ((IntKind.i64.wrap (v6_1 + (1 : Int))) < (x0.length : Int)) then
    bif decide (0 ≤ v6_1) then
      bif decide (v6_1 < (x0.length : Int)) then
        bif decide (0 ≤ (IntKind.i64.wrap (v6_1 + (1 : Int)))) then
          bif decide ((IntKind.i64.wrap (v6_1 + (1 : Int))) < (x0.length : Int)) then
            (spec_NodeOf (x0.getD v6_1.toNat (0 : Int)) (x0.getD ((IntKind.i64.wrap (v6_1 + (1 : Int))).toNat) (0 : Int))).bind fun y1 =>
              bif decide (v6_2.length + [y1].length < 68719476736) then
                r6 (IntKind.i64.wrap (v6_1 + (2 : Int))) (v6_2 ++ [y1])
              else none
          else none
        else none
      else none
    else none
  else
    bif decide (0 ≤ v6_1) then
      bif decide (v6_1 < (x0.length : Int)) then
        bif decide (v6_2.length + [x0.getD v6_1.toNat (0 : Int)].length < 68719476736) then
          r6 (IntKind.i64.wrap (v6_1 + (2 : Int))) (v6_2 ++ [x0.getD v6_1.toNat (0 : Int)])
        else none
      else none
    else none
else some v6_2
noncomputable def spec_l10Up.l6 (x0 : List Int) (n : Nat) : Int → (List Int) → Option (List Int) :=
  V.iter (fun (r6 : Int → (List Int) → Option (List Int)) => fun v6_1 v6_2 => spec_l10Up.g6 x0 r6 v6_1 v6_2) (fun _ _ => none) n
theorem spec_l10Up.u6 (x0 : List Int) (n : Nat) (v6_1 : Int) (v6_2 : List Int) : spec_l10Up.l6 x0 (n + 1) v6_1 v6_2 = spec_l10Up.g6 x0 (spec_l10Up.l6 x0 n) v6_1 v6_2 := rfl
noncomputable abbrev spec_l10Up.b (x0 : List Int) (L6 : Int → (List Int) → Option (List Int)) : Option (List Int) :=
  L6 (0 : Int) []
noncomputable def spec_l10Up (x0 : List Int) : Option (List Int) :=
  spec_l10Up.b x0 (spec_l10Up.l6 x0 V.KK)
noncomputable abbrev spec_TopOf.g8 (r8 : (List Int) → Option Int) (v8_0 : List Int) : Option Int :=
  bif decide ((v8_0.length : Int) > (1 : Int)) then
  (spec_l10Up v8_0).bind fun y2 =>
    r8 y2
else
  bif decide (0 ≤ (0 : Int)) then
    bif decide ((0 : Int) < (v8_0.length : Int)) then
      some (v8_0.getD ((0 : Int).toNat) (0 : Int))
    else none
  else none
noncomputable def spec_TopOf.l8 (n : Nat) : (List Int) → Option Int :=
  V.iter (fun (r8 : (List Int) → Option Int) => fun v8_0 => spec_TopOf.g8 r8 v8_0) (fun _ => none) n
theorem spec_TopOf.u8 (n : Nat) (v8_0 : List Int) : spec_TopOf.l8 (n + 1) v8_0 = spec_TopOf.g8 (spec_TopOf.l8 n) v8_0 := rfl
noncomputable abbrev spec_TopOf.b (x0 : List Int) (L8 : (List Int) → Option Int) : Option Int :=
  bif (x0.length : Int) == (0 : Int) then
  (spec_Hash [(229 : Int)]).bind fun y1 =>
    some y1
else L8 x0
noncomputable def spec_TopOf (x0 : List Int) : Option Int :=
  spec_TopOf.b x0 (spec_TopOf.l8 V.KK)
noncomputable def spec_RootOf (x0 : List TEntry) : Option Int :=
  (spec_LeavesOf x0).bind fun y1 =>
  (spec_TopOf y1).bind fun y2 =>
    (spec_l10Root (x0.length : Int) y2).bind fun y3 =>
      some y3
noncomputable def spec_l12None (x0 : TEntry) (x1 : TProof) : Option Bool :=
  (spec_EqualEntries x0 ((⟨#[]⟩ : ByteArray), (0 : Int), (0 : Int), [])).bind fun y1 =>
  bif y1 then
    (spec_EqualProofs x1 ((0 : Int), [])).bind fun y2 =>
      some y2
  else some false
noncomputable def spec_CompareLabels (x0 : ByteArray) (x1 : ByteArray) : Option Int :=
  bif Op.bytesLess x0.toList x1.toList then
  some (-1 : Int)
else
  bif !(Op.bytesLess x0.toList x1.toList || x0.toList == x1.toList) then
    some (1 : Int)
  else some (0 : Int)
noncomputable abbrev spec_CheckAbsence.g17 (x0 : Int) (x1 : Int) (x2 : ByteArray) (x3 : TGap) : Option Bool :=
  bif (Gap_At x3) == x1 then
  (spec_l12None (Gap_After x3) (Gap_Right x3)).bind fun y5 =>
    some y5
else
  (spec_CheckEntry x0 x1 (Gap_After x3) (Gap_Right x3)).bind fun y6 =>
    bif y6 then
      bif (Gap_Right x3).1 == (Gap_At x3) then
        (spec_CompareLabels (Gap_After x3).1 x2).bind fun y7 =>
          some (y7 == (1 : Int))
      else some false
    else some false
noncomputable def spec_CheckAbsence.l17 (x0 : Int) (x1 : Int) (x2 : ByteArray) (x3 : TGap) : Option Bool :=
  spec_CheckAbsence.g17 x0 x1 x2 x3
noncomputable abbrev spec_CheckAbsence.g7 (x0 : Int) (x1 : Int) (x2 : ByteArray) (x3 : TGap) (L17 : Option Bool) : Option Bool :=
  bif (Gap_At x3) == (0 : Int) then
  (spec_l12None (Gap_Before x3) (Gap_Left x3)).bind fun y4 =>
    bif !y4 then
      some false
    else L17
else
  (spec_CheckEntry x0 x1 (Gap_Before x3) (Gap_Left x3)).bind fun y8 =>
    bif !y8 then
      some false
    else
      bif (Gap_Left x3).1 != (IntKind.i64.wrap ((Gap_At x3) - (1 : Int))) then
        some false
      else
        (spec_CompareLabels (Gap_Before x3).1 x2).bind fun y9 =>
          bif y9 != (-1 : Int) then
            some false
          else L17
noncomputable def spec_CheckAbsence.l7 (x0 : Int) (x1 : Int) (x2 : ByteArray) (x3 : TGap) : Option Bool :=
  spec_CheckAbsence.g7 x0 x1 x2 x3 (spec_CheckAbsence.l17 x0 x1 x2 x3)
noncomputable abbrev spec_CheckAbsence.b (x0 : Int) (x1 : Int) (x2 : ByteArray) (x3 : TGap) (L7 : Option Bool) : Option Bool :=
  (spec_IsLabel x2).bind fun y1 =>
  bif !y1 then
    some false
  else
    (spec_l1In (Gap_At x3) (0 : Int) x1).bind fun y2 =>
      bif !y2 then
        some false
      else
        bif x1 == (0 : Int) then
          (spec_RootOf []).bind fun y3 =>
            bif x0 != y3 then
              some false
            else L7
        else L7
noncomputable def spec_CheckAbsence (x0 : Int) (x1 : Int) (x2 : ByteArray) (x3 : TGap) : Option Bool :=
  spec_CheckAbsence.b x0 x1 x2 x3 (spec_CheckAbsence.l7 x0 x1 x2 x3)
noncomputable def spec_l21Proved (x0 : THead) (x1 : ByteArray) (x2 : TAnswer) : Option Bool :=
  bif (Answer_Found x2) then
  bif (Answer_Entry x2).1.toList == x1.toList then
    (spec_CheckEntry (Head_Root x0) (Head_Count x0) (Answer_Entry x2) (Answer_Proof x2)).bind fun y1 =>
      bif y1 then
        (spec_EqualGaps (Answer_Gap x2) dGap).bind fun y2 =>
          some y2
      else some false
  else some false
else
  (spec_CheckAbsence (Head_Root x0) (Head_Count x0) x1 (Answer_Gap x2)).bind fun y3 =>
    bif y3 then
      (spec_l12None (Answer_Entry x2) (Answer_Proof x2)).bind fun y4 =>
        some y4
    else some false
noncomputable def spec_CheckAnswer (x0 : Int) (x1 : ByteArray) (x2 : TAnswer) (x3 : Int) : Option Int :=
  (spec_LastHead (Answer_Chain x2)).bind fun y1 =>
  bif !(RHeadBool_r1 y1) then
    some (3 : Int)
  else
    bif (Head_Zone (RHeadBool_r0 y1)) != x0 then
      some (2 : Int)
    else
      (spec_IsFresh (RHeadBool_r0 y1) x3).bind fun y2 =>
        bif !y2 then
          some (4 : Int)
        else
          bif (Head_Frozen (RHeadBool_r0 y1)) then
            some (5 : Int)
          else
            (spec_l21Proved (RHeadBool_r0 y1) x1 x2).bind fun y3 =>
              bif !y3 then
                some (6 : Int)
              else some (1 : Int)
noncomputable def impl_InRange (x0 : Int) (x1 : Int) (x2 : Int) : Option Bool :=
  bif decide (x1 ≤ x0) then
  some (decide (x0 ≤ x2))
else some false
noncomputable def impl_isDigest (x0 : Int) : Option Bool :=
  (impl_InRange x0 (0 : Int) (2147483646 : Int)).bind fun y1 =>
  some y1
noncomputable def impl_isSpan (x0 : THead) : Option Bool :=
  bif decide ((Head_Time x0) ≥ (0 : Int)) then
  bif decide ((Head_Time x0) ≤ (Head_Until x0)) then
    bif decide ((Head_Until x0) ≤ (100000 : Int)) then
      some (decide ((IntKind.i64.wrap ((Head_Until x0) - (Head_Time x0))) ≤ (200 : Int)))
    else some false
  else some false
else some false
noncomputable abbrev impl_ascending.g4 (x0 : List Int) (r4 : Int → Int → Option Bool) (v4_1 : Int) (v4_2 : Int) : Option Bool :=
  bif decide (v4_2 < v4_1) then
  bif decide (v4_2 > (0 : Int)) then
    bif decide (0 ≤ v4_2) then
      bif decide (v4_2 < (x0.length : Int)) then
        bif decide (0 ≤ (IntKind.i64.wrap (v4_2 - (1 : Int)))) then
          bif decide ((IntKind.i64.wrap (v4_2 - (1 : Int))) < (x0.length : Int)) then
            bif decide ((x0.getD v4_2.toNat (0 : Int)) ≤ (x0.getD ((IntKind.i64.wrap (v4_2 - (1 : Int))).toNat) (0 : Int))) then
              some false
            else r4 v4_1 (IntKind.i64.wrap (v4_2 + (1 : Int)))
          else none
        else none
      else none
    else none
  else r4 v4_1 (IntKind.i64.wrap (v4_2 + (1 : Int)))
else some true
noncomputable def impl_ascending.l4 (x0 : List Int) (n : Nat) : Int → Int → Option Bool :=
  V.iter (fun (r4 : Int → Int → Option Bool) => fun v4_1 v4_2 => impl_ascending.g4 x0 r4 v4_1 v4_2) (fun _ _ => none) n
theorem impl_ascending.u4 (x0 : List Int) (n : Nat) (v4_1 : Int) (v4_2 : Int) : impl_ascending.l4 x0 (n + 1) v4_1 v4_2 = impl_ascending.g4 x0 (impl_ascending.l4 x0 n) v4_1 v4_2 := rfl
noncomputable abbrev impl_ascending.b (x0 : List Int) (L4 : Int → Int → Option Bool) : Option Bool :=
  L4 (x0.length : Int) (0 : Int)
noncomputable def impl_ascending (x0 : List Int) : Option Bool :=
  impl_ascending.b x0 (impl_ascending.l4 x0 V.KK)
noncomputable def impl_isKey (x0 : Int) : Option Bool :=
  (impl_InRange x0 (1 : Int) (99 : Int)).bind fun y1 =>
  some y1
noncomputable def impl_IsKeys (x0 : TKeys) : Option Bool :=
  (impl_InRange (x0.1.length : Int) (1 : Int) (4 : Int)).bind fun y1 =>
  bif y1 then
    (impl_ascending x0.1).bind fun y2 =>
      bif y2 then
        bif decide (0 ≤ (0 : Int)) then
          bif decide ((0 : Int) < (x0.1.length : Int)) then
            (impl_isKey (x0.1.getD ((0 : Int).toNat) (0 : Int))).bind fun y3 =>
              bif y3 then
                bif decide (0 ≤ (IntKind.i64.wrap ((x0.1.length : Int) - (1 : Int)))) then
                  bif decide ((IntKind.i64.wrap ((x0.1.length : Int) - (1 : Int))) < (x0.1.length : Int)) then
                    (impl_isKey (x0.1.getD ((IntKind.i64.wrap ((x0.1.length : Int) - (1 : Int))).toNat) (0 : Int))).bind fun y4 =>
                      bif y4 then
                        (impl_InRange x0.2 (1 : Int) (x0.1.length : Int)).bind fun y5 =>
                          some y5
                      else some false
                  else none
                else none
              else some false
          else none
        else none
      else some false
  else some false
noncomputable def impl_NoKeys (x0 : TKeys) : Option Bool :=
  bif x0.2 == (0 : Int) then
  some ((x0.1.length : Int) == (0 : Int))
else some false
noncomputable def impl_isMaybe (x0 : TKeys) : Option Bool :=
  (impl_NoKeys x0).bind fun y1 =>
  bif y1 then
    some true
  else
    (impl_IsKeys x0).bind fun y2 =>
      some y2
noncomputable def impl_isWait (x0 : Int) (x1 : TKeys) : Option Bool :=
  (impl_NoKeys x1).bind fun y1 =>
  bif y1 then
    some (x0 == (0 : Int))
  else
    (impl_InRange x0 (1 : Int) (500 : Int)).bind fun y2 =>
      some y2
noncomputable def impl_IsHead (x0 : THead) : Option Bool :=
  (impl_isDigest (Head_Zone x0)).bind fun y1 =>
  bif y1 then
    (impl_isDigest (Head_Root x0)).bind fun y2 =>
      bif y2 then
        (impl_isDigest (Head_Prev x0)).bind fun y3 =>
          bif y3 then
            (impl_InRange (Head_Epoch x0) (0 : Int) (200 : Int)).bind fun y4 =>
              bif y4 then
                (impl_InRange (Head_Kind x0) (1 : Int) (3 : Int)).bind fun y5 =>
                  bif y5 then
                    (impl_isSpan x0).bind fun y6 =>
                      bif y6 then
                        (impl_InRange (Head_Count x0) (0 : Int) (12 : Int)).bind fun y7 =>
                          bif y7 then
                            (impl_IsKeys (Head_Keys x0)).bind fun y8 =>
                              bif y8 then
                                (impl_isMaybe (Head_Heirs x0)).bind fun y9 =>
                                  bif y9 then
                                    (impl_isMaybe (Head_Judge x0)).bind fun y10 =>
                                      bif y10 then
                                        (impl_isWait (Head_Wait x0) (Head_Heirs x0)).bind fun y11 =>
                                          bif y11 then
                                            bif (Head_Frozen x0) then
                                              (impl_NoKeys (Head_Judge x0)).bind fun y12 =>
                                                some (!y12)
                                            else some true
                                          else some false
                                      else some false
                                  else some false
                              else some false
                          else some false
                      else some false
                  else some false
              else some false
          else some false
      else some false
  else some false
noncomputable def impl_KeysInts (x0 : TKeys) : Option (List Int) :=
  bif decide ([x0.2, (x0.1.length : Int)].length + x0.1.length < 68719476736) then
  some ([x0.2, (x0.1.length : Int)] ++ x0.1)
else none
noncomputable def impl_Mod (x0 : Int) (x1 : Int) : Option Int :=
  (impl_InRange x1 (1 : Int) (1000000000000 : Int)).bind fun y1 =>
  bif !y1 then
    some (0 : Int)
  else
    bif (x1 == (0 : Int)) then
      none
    else
      bif (x1 == (0 : Int)) then
        none
      else some (Int.tmod (IntKind.i64.wrap ((Int.tmod x0 x1) + x1)) x1)
noncomputable abbrev impl_Hash.g6 (x0 : List Int) (r6 : Int → Int → Int → Option Int) (v6_0 : Int) (v6_2 : Int) (v6_3 : Int) : Option Int :=
  bif decide (v6_3 < v6_2) then
  bif decide (0 ≤ v6_3) then
    bif decide (v6_3 < (x0.length : Int)) then
      (impl_Mod (x0.getD v6_3.toNat (0 : Int)) (2147483647 : Int)).bind fun y1 =>
        bif ((2147483647 : Int) == (0 : Int)) then
          none
        else r6 (Int.tmod (IntKind.i64.wrap ((IntKind.i64.wrap ((IntKind.i64.wrap (v6_0 * (1000003 : Int))) + y1)) + (13 : Int))) (2147483647 : Int)) v6_2 (IntKind.i64.wrap (v6_3 + (1 : Int)))
    else none
  else none
else some v6_0
noncomputable def impl_Hash.l6 (x0 : List Int) (n : Nat) : Int → Int → Int → Option Int :=
  V.iter (fun (r6 : Int → Int → Int → Option Int) => fun v6_0 v6_2 v6_3 => impl_Hash.g6 x0 r6 v6_0 v6_2 v6_3) (fun _ _ _ => none) n
theorem impl_Hash.u6 (x0 : List Int) (n : Nat) (v6_0 : Int) (v6_2 : Int) (v6_3 : Int) : impl_Hash.l6 x0 (n + 1) v6_0 v6_2 v6_3 = impl_Hash.g6 x0 (impl_Hash.l6 x0 n) v6_0 v6_2 v6_3 := rfl
noncomputable abbrev impl_Hash.b (x0 : List Int) (L6 : Int → Int → Int → Option Int) : Option Int :=
  L6 (11 : Int) (x0.length : Int) (0 : Int)
noncomputable def impl_Hash (x0 : List Int) : Option Int :=
  impl_Hash.b x0 (impl_Hash.l6 x0 V.KK)
noncomputable def impl_ZoneOf (x0 : TKeys) (x1 : Int) : Option Int :=
  (impl_KeysInts x0).bind fun y1 =>
  bif decide ([(239 : Int), x1].length + y1.length < 68719476736) then
    (impl_Hash ([(239 : Int), x1] ++ y1)).bind fun y2 =>
      some y2
  else none
noncomputable def impl_bit (x0 : Bool) : Option Int :=
  bif x0 then
  some (1 : Int)
else some (0 : Int)
noncomputable abbrev slices_Grow_int.g7 (x1 : Int) : Option (List Int) :=
  bif decide ((IntKind.i64.wrap (x1 - (IntKind.i64.wrap ((0 : Int) - ((0 : Nat) : Int))))) > (0 : Int)) then
  bif decide (0 ≤ (IntKind.i64.wrap (x1 - (IntKind.i64.wrap ((0 : Int) - ((0 : Nat) : Int)))))) then
    bif decide ((IntKind.i64.wrap (x1 - (IntKind.i64.wrap ((0 : Int) - ((0 : Nat) : Int))))) < (68719476736 : Int)) then
      bif decide (0 ≤ (0 : Int)) then
        bif decide ((0 : Int) ≤ ((0 : Nat) : Int)) then
          bif decide (((0 : Nat) : Int) ≤ (((List.replicate ((IntKind.i64.wrap (x1 - (IntKind.i64.wrap ((0 : Int) - ((0 : Nat) : Int))))).toNat) (0 : Int)).length) : Int)) then
            some ((List.replicate ((IntKind.i64.wrap (x1 - (IntKind.i64.wrap ((0 : Int) - ((0 : Nat) : Int))))).toNat) (0 : Int)).take (((0 : Nat) : Int).toNat))
          else none
        else none
      else none
    else none
  else none
else some []
noncomputable def slices_Grow_int.l7 (x1 : Int) : Option (List Int) :=
  slices_Grow_int.g7 x1
noncomputable abbrev slices_Grow_int.b (x0 : List Int) (x1 : Int) (L7 : Option (List Int)) : Option (List Int) :=
  bif decide (x1 < (0 : Int)) then
  none
else L7
noncomputable def slices_Grow_int (x0 : List Int) (x1 : Int) : Option (List Int) :=
  slices_Grow_int.b x0 x1 (slices_Grow_int.l7 x1)
noncomputable abbrev slices_Concat_int.g22 (x0 : List (List Int)) (r22 : Int → Int → (List Int) → Option (List Int)) (v22_1 : Int) (v22_2 : Int) (v22_3 : List Int) : Option (List Int) :=
  bif decide (v22_2 < v22_1) then
  bif decide (0 ≤ v22_2) then
    bif decide (v22_2 < (x0.length : Int)) then
      bif decide (v22_3.length + (x0.getD v22_2.toNat []).length < 68719476736) then
        r22 v22_1 (IntKind.i64.wrap (v22_2 + (1 : Int))) (v22_3 ++ (x0.getD v22_2.toNat []))
      else none
    else none
  else none
else some v22_3
noncomputable def slices_Concat_int.l22 (x0 : List (List Int)) (n : Nat) : Int → Int → (List Int) → Option (List Int) :=
  V.iter (fun (r22 : Int → Int → (List Int) → Option (List Int)) => fun v22_1 v22_2 v22_3 => slices_Concat_int.g22 x0 r22 v22_1 v22_2 v22_3) (fun _ _ _ => none) n
theorem slices_Concat_int.u22 (x0 : List (List Int)) (n : Nat) (v22_1 : Int) (v22_2 : Int) (v22_3 : List Int) : slices_Concat_int.l22 x0 (n + 1) v22_1 v22_2 v22_3 = slices_Concat_int.g22 x0 (slices_Concat_int.l22 x0 n) v22_1 v22_2 v22_3 := rfl
noncomputable abbrev slices_Concat_int.g6 (x0 : List (List Int)) (r6 : Int → Int → Int → Option (List Int)) (L22 : Int → Int → (List Int) → Option (List Int)) (v6_1 : Int) (v6_3 : Int) (v6_4 : Int) : Option (List Int) :=
  bif decide (v6_4 < v6_3) then
  bif decide (0 ≤ v6_4) then
    bif decide (v6_4 < (x0.length : Int)) then
      bif decide ((IntKind.i64.wrap (v6_1 + ((x0.getD v6_4.toNat []).length : Int))) < (0 : Int)) then
        none
      else r6 (IntKind.i64.wrap (v6_1 + ((x0.getD v6_4.toNat []).length : Int))) v6_3 (IntKind.i64.wrap (v6_4 + (1 : Int)))
    else none
  else none
else
  (slices_Grow_int [] v6_1).bind fun y1 =>
    L22 (x0.length : Int) (0 : Int) y1
noncomputable def slices_Concat_int.l6 (x0 : List (List Int)) (n : Nat) : Int → Int → Int → Option (List Int) :=
  V.iter (fun (r6 : Int → Int → Int → Option (List Int)) => fun v6_1 v6_3 v6_4 => slices_Concat_int.g6 x0 r6 (slices_Concat_int.l22 x0 V.KK) v6_1 v6_3 v6_4) (fun _ _ _ => none) n
theorem slices_Concat_int.u6 (x0 : List (List Int)) (n : Nat) (v6_1 : Int) (v6_3 : Int) (v6_4 : Int) : slices_Concat_int.l6 x0 (n + 1) v6_1 v6_3 v6_4 = slices_Concat_int.g6 x0 (slices_Concat_int.l6 x0 n) (slices_Concat_int.l22 x0 V.KK) v6_1 v6_3 v6_4 := rfl
noncomputable abbrev slices_Concat_int.b (x0 : List (List Int)) (L6 : Int → Int → Int → Option (List Int)) : Option (List Int) :=
  L6 (0 : Int) (x0.length : Int) (0 : Int)
noncomputable def slices_Concat_int (x0 : List (List Int)) : Option (List Int) :=
  slices_Concat_int.b x0 (slices_Concat_int.l6 x0 V.KK)
noncomputable def impl_HeadInts (x0 : THead) : Option (List Int) :=
  (impl_KeysInts (Head_Keys x0)).bind fun y1 =>
  (impl_KeysInts (Head_Heirs x0)).bind fun y2 =>
    (impl_KeysInts (Head_Judge x0)).bind fun y3 =>
      (impl_bit (Head_Frozen x0)).bind fun y4 =>
        (slices_Concat_int [[(Head_Zone x0), (Head_Epoch x0), (Head_Kind x0), (Head_Time x0), (Head_Until x0), (Head_Count x0), (Head_Root x0), (Head_Prev x0)], y1, y2, [(Head_Wait x0)], y3, [y4]]).bind fun y5 =>
          some y5
noncomputable def impl_KeyedHash (x0 : Int) (x1 : List Int) : Option Int :=
  (slices_Concat_int [[x0], x1, [x0]]).bind fun y1 =>
  (impl_Hash y1).bind fun y2 =>
    some y2
noncomputable def impl_TagOf (x0 : Int) (x1 : List Int) : Option Int :=
  bif decide ([(223 : Int)].length + x1.length < 68719476736) then
  (impl_KeyedHash x0 ([(223 : Int)] ++ x1)).bind fun y1 =>
    some y1
else none
noncomputable def impl_IsSigBy (x0 : TSig) (x1 : List Int) : Option Bool :=
  (impl_isKey x0.1).bind fun y1 =>
  bif y1 then
    (impl_TagOf x0.1 x1).bind fun y2 =>
      some (x0.2 == y2)
  else some false
noncomputable def impl_CountSigs_1 (x0 : TSig) (x1 : Int) (x2 : List Int) : Option Bool :=
  bif x0.1 == x1 then
  (impl_IsSigBy x0 x2).bind fun y1 =>
    some y1
else some false
noncomputable abbrev slices_IndexFunc_impl_Sig__CountSigs_1.g4 (x0 : List TSig) (x1 : (Unit) × (Int × List Int)) (r4 : Int → Int → Option Int) (v4_2 : Int) (v4_3 : Int) : Option Int :=
  bif decide (v4_3 < v4_2) then
  bif decide (0 ≤ v4_3) then
    bif decide (v4_3 < (x0.length : Int)) then
      (impl_CountSigs_1 (x0.getD v4_3.toNat dSig) x1.2.1 x1.2.2).bind fun y1 =>
        bif y1 then
          some v4_3
        else r4 v4_2 (IntKind.i64.wrap (v4_3 + (1 : Int)))
    else none
  else none
else some (-1 : Int)
noncomputable def slices_IndexFunc_impl_Sig__CountSigs_1.l4 (x0 : List TSig) (x1 : (Unit) × (Int × List Int)) (n : Nat) : Int → Int → Option Int :=
  V.iter (fun (r4 : Int → Int → Option Int) => fun v4_2 v4_3 => slices_IndexFunc_impl_Sig__CountSigs_1.g4 x0 x1 r4 v4_2 v4_3) (fun _ _ => none) n
theorem slices_IndexFunc_impl_Sig__CountSigs_1.u4 (x0 : List TSig) (x1 : (Unit) × (Int × List Int)) (n : Nat) (v4_2 : Int) (v4_3 : Int) : slices_IndexFunc_impl_Sig__CountSigs_1.l4 x0 x1 (n + 1) v4_2 v4_3 = slices_IndexFunc_impl_Sig__CountSigs_1.g4 x0 x1 (slices_IndexFunc_impl_Sig__CountSigs_1.l4 x0 x1 n) v4_2 v4_3 := rfl
noncomputable abbrev slices_IndexFunc_impl_Sig__CountSigs_1.b (x0 : List TSig) (x1 : (Unit) × (Int × List Int)) (L4 : Int → Int → Option Int) : Option Int :=
  L4 (x0.length : Int) (0 : Int)
noncomputable def slices_IndexFunc_impl_Sig__CountSigs_1 (x0 : List TSig) (x1 : (Unit) × (Int × List Int)) : Option Int :=
  slices_IndexFunc_impl_Sig__CountSigs_1.b x0 x1 (slices_IndexFunc_impl_Sig__CountSigs_1.l4 x0 x1 V.KK)
noncomputable def slices_ContainsFunc_impl_Sig__CountSigs_1 (x0 : List TSig) (x1 : (Unit) × (Int × List Int)) : Option Bool :=
  (slices_IndexFunc_impl_Sig__CountSigs_1 x0 (x1.1, x1.2)).bind fun y1 =>
  some (decide (y1 ≥ (0 : Int)))
noncomputable abbrev impl_CountSigs.g6 (x0 : TKeys) (x1 : List Int) (x2 : List TSig) (r6 : Int → Int → Int → Option Int) (v6_1 : Int) (v6_3 : Int) (v6_4 : Int) : Option Int :=
  bif decide (v6_4 < v6_3) then
  bif decide (0 ≤ v6_4) then
    bif decide (v6_4 < (x0.1.length : Int)) then
      (slices_ContainsFunc_impl_Sig__CountSigs_1 x2 ((), (x0.1.getD v6_4.toNat (0 : Int), x1))).bind fun y1 =>
        bif y1 then
          r6 (IntKind.i64.wrap (v6_1 + (1 : Int))) v6_3 (IntKind.i64.wrap (v6_4 + (1 : Int)))
        else r6 v6_1 v6_3 (IntKind.i64.wrap (v6_4 + (1 : Int)))
    else none
  else none
else some v6_1
noncomputable def impl_CountSigs.l6 (x0 : TKeys) (x1 : List Int) (x2 : List TSig) (n : Nat) : Int → Int → Int → Option Int :=
  V.iter (fun (r6 : Int → Int → Int → Option Int) => fun v6_1 v6_3 v6_4 => impl_CountSigs.g6 x0 x1 x2 r6 v6_1 v6_3 v6_4) (fun _ _ _ => none) n
theorem impl_CountSigs.u6 (x0 : TKeys) (x1 : List Int) (x2 : List TSig) (n : Nat) (v6_1 : Int) (v6_3 : Int) (v6_4 : Int) : impl_CountSigs.l6 x0 x1 x2 (n + 1) v6_1 v6_3 v6_4 = impl_CountSigs.g6 x0 x1 x2 (impl_CountSigs.l6 x0 x1 x2 n) v6_1 v6_3 v6_4 := rfl
noncomputable abbrev impl_CountSigs.b (x0 : TKeys) (x1 : List Int) (x2 : List TSig) (L6 : Int → Int → Int → Option Int) : Option Int :=
  L6 (0 : Int) (x0.1.length : Int) (0 : Int)
noncomputable def impl_CountSigs (x0 : TKeys) (x1 : List Int) (x2 : List TSig) : Option Int :=
  impl_CountSigs.b x0 x1 x2 (impl_CountSigs.l6 x0 x1 x2 V.KK)
noncomputable def impl_IsSigned (x0 : TKeys) (x1 : List Int) (x2 : List TSig) : Option Bool :=
  (impl_IsKeys x0).bind fun y1 =>
  bif y1 then
    (impl_CountSigs x0 x1 x2).bind fun y2 =>
      some (decide (y2 ≥ x0.2))
  else some false
noncomputable def impl_Signed_isSignedBy (x0 : TSigned) (x1 : TKeys) : Option Bool :=
  (impl_HeadInts (Signed_Head x0)).bind fun y1 =>
  (impl_IsSigned x1 y1 (Signed_Sigs x0)).bind fun y2 =>
    some y2
noncomputable def impl_IsFirst (x0 : TSigned) : Option Bool :=
  (impl_IsHead (Signed_Head x0)).bind fun y1 =>
  bif y1 then
    bif (Head_Epoch (Signed_Head x0)) == (0 : Int) then
      bif (Head_Kind (Signed_Head x0)) == (1 : Int) then
        bif !(Head_Frozen (Signed_Head x0)) then
          (impl_ZoneOf (Head_Keys (Signed_Head x0)) (Head_Prev (Signed_Head x0))).bind fun y2 =>
            bif (Head_Zone (Signed_Head x0)) == y2 then
              (impl_Signed_isSignedBy x0 (Head_Keys (Signed_Head x0))).bind fun y3 =>
                some y3
            else some false
        else some false
      else some false
    else some false
  else some false
noncomputable def impl_HeadDigest (x0 : THead) : Option Int :=
  (impl_HeadInts x0).bind fun y1 =>
  bif decide ([(233 : Int)].length + y1.length < 68719476736) then
    (impl_Hash ([(233 : Int)] ++ y1)).bind fun y2 =>
      some y2
  else none
noncomputable def impl_isNext (x0 : THead) (x1 : THead) : Option Bool :=
  bif (Head_Zone x1) == (Head_Zone x0) then
  bif (Head_Epoch x1) == (IntKind.i64.wrap ((Head_Epoch x0) + (1 : Int))) then
    (impl_HeadDigest x0).bind fun y1 =>
      bif (Head_Prev x1) == y1 then
        some (decide ((Head_Time x1) ≥ (Head_Time x0)))
      else some false
  else some false
else some false
noncomputable def impl_ownerCode (x0 : THead) (x1 : TSigned) : Option Int :=
  bif (Head_Frozen x0) then
  some (4 : Int)
else
  bif (Head_Frozen (Signed_Head x1)) then
    some (6 : Int)
  else
    (impl_Signed_isSignedBy x1 (Head_Keys x0)).bind fun y1 =>
      bif !y1 then
        some (7 : Int)
      else some (1 : Int)
noncomputable abbrev slices_Equal_int.g8 (x0 : List Int) (x1 : List Int) (r8 : Int → Int → Option Bool) (v8_2 : Int) (v8_3 : Int) : Option Bool :=
  bif decide (v8_3 < v8_2) then
  bif decide (0 ≤ v8_3) then
    bif decide (v8_3 < (x0.length : Int)) then
      bif decide (0 ≤ v8_3) then
        bif decide (v8_3 < (x1.length : Int)) then
          bif (x0.getD v8_3.toNat (0 : Int)) != (x1.getD v8_3.toNat (0 : Int)) then
            some false
          else r8 v8_2 (IntKind.i64.wrap (v8_3 + (1 : Int)))
        else none
      else none
    else none
  else none
else some true
noncomputable def slices_Equal_int.l8 (x0 : List Int) (x1 : List Int) (n : Nat) : Int → Int → Option Bool :=
  V.iter (fun (r8 : Int → Int → Option Bool) => fun v8_2 v8_3 => slices_Equal_int.g8 x0 x1 r8 v8_2 v8_3) (fun _ _ => none) n
theorem slices_Equal_int.u8 (x0 : List Int) (x1 : List Int) (n : Nat) (v8_2 : Int) (v8_3 : Int) : slices_Equal_int.l8 x0 x1 (n + 1) v8_2 v8_3 = slices_Equal_int.g8 x0 x1 (slices_Equal_int.l8 x0 x1 n) v8_2 v8_3 := rfl
noncomputable abbrev slices_Equal_int.b (x0 : List Int) (x1 : List Int) (L8 : Int → Int → Option Bool) : Option Bool :=
  bif (x0.length : Int) != (x1.length : Int) then
  some false
else L8 (x0.length : Int) (0 : Int)
noncomputable def slices_Equal_int (x0 : List Int) (x1 : List Int) : Option Bool :=
  slices_Equal_int.b x0 x1 (slices_Equal_int.l8 x0 x1 V.KK)
noncomputable def impl_EqualKeys (x0 : TKeys) (x1 : TKeys) : Option Bool :=
  (slices_Equal_int x0.1 x1.1).bind fun y1 =>
  bif y1 then
    some (x0.2 == x1.2)
  else some false
noncomputable def impl_SameContents (x0 : THead) (x1 : THead) : Option Bool :=
  bif (Head_Count x0) == (Head_Count x1) then
  some ((Head_Root x0) == (Head_Root x1))
else some false
noncomputable abbrev impl_heirCode.g15 (x0 : THead) (x1 : TSigned) (v15_0 : Bool) : Option Int :=
  bif v15_0 then
  some (6 : Int)
else
  (impl_Signed_isSignedBy x1 (Head_Heirs x0)).bind fun y2 =>
    bif !y2 then
      some (7 : Int)
    else some (1 : Int)
noncomputable def impl_heirCode.l15 (x0 : THead) (x1 : TSigned) (v15_0 : Bool) : Option Int :=
  impl_heirCode.g15 x0 x1 v15_0
noncomputable abbrev impl_heirCode.g11 (x0 : THead) (x1 : TSigned) (L15 : Bool → Option Int) (v11_0 : Bool) : Option Int :=
  bif v11_0 then
  some (5 : Int)
else
  bif (Head_Frozen (Signed_Head x1)) then
    L15 true
  else
    (impl_EqualKeys (Head_Keys (Signed_Head x1)) (Head_Heirs x0)).bind fun y3 =>
      bif !y3 then
        L15 true
      else
        (impl_SameContents (Signed_Head x1) x0).bind fun y4 =>
          L15 (!y4)
noncomputable def impl_heirCode.l11 (x0 : THead) (x1 : TSigned) (v11_0 : Bool) : Option Int :=
  impl_heirCode.g11 x0 x1 (impl_heirCode.l15 x0 x1) v11_0
noncomputable abbrev impl_heirCode.b (x0 : THead) (x1 : TSigned) (L11 : Bool → Option Int) : Option Int :=
  bif (Head_Frozen x0) then
  some (4 : Int)
else
  (impl_NoKeys (Head_Heirs x0)).bind fun y1 =>
    bif y1 then
      L11 true
    else L11 (decide ((Head_Time (Signed_Head x1)) < (IntKind.i64.wrap ((Head_Until x0) + (Head_Wait x0)))))
noncomputable def impl_heirCode (x0 : THead) (x1 : TSigned) : Option Int :=
  impl_heirCode.b x0 x1 (impl_heirCode.l11 x0 x1)
noncomputable abbrev impl_judgeCode.g13 (x0 : THead) (x1 : TSigned) (v13_0 : Bool) : Option Int :=
  bif v13_0 then
  some (6 : Int)
else
  (impl_Signed_isSignedBy x1 (Head_Judge x0)).bind fun y5 =>
    bif !y5 then
      some (7 : Int)
    else some (1 : Int)
noncomputable def impl_judgeCode.l13 (x0 : THead) (x1 : TSigned) (v13_0 : Bool) : Option Int :=
  impl_judgeCode.g13 x0 x1 v13_0
noncomputable abbrev impl_judgeCode.g7 (x0 : THead) (x1 : TSigned) (L13 : Bool → Option Int) (v7_0 : Bool) : Option Int :=
  (impl_NoKeys (Head_Judge x0)).bind fun y4 =>
  bif y4 then
    some (5 : Int)
  else
    bif (Head_Frozen (Signed_Head x1)) == (Head_Frozen x0) then
      L13 true
    else
      bif !v7_0 then
        L13 true
      else
        bif (Head_Frozen (Signed_Head x1)) then
          (impl_EqualKeys (Head_Keys (Signed_Head x1)) (Head_Keys x0)).bind fun y6 =>
            L13 (!y6)
        else L13 false
noncomputable def impl_judgeCode.l7 (x0 : THead) (x1 : TSigned) (v7_0 : Bool) : Option Int :=
  impl_judgeCode.g7 x0 x1 (impl_judgeCode.l13 x0 x1) v7_0
noncomputable abbrev impl_judgeCode.b (x0 : THead) (x1 : TSigned) (L7 : Bool → Option Int) : Option Int :=
  (impl_SameContents (Signed_Head x1) x0).bind fun y1 =>
  bif y1 then
    (impl_EqualKeys (Head_Judge (Signed_Head x1)) (Head_Judge x0)).bind fun y2 =>
      bif y2 then
        (impl_EqualKeys (Head_Heirs (Signed_Head x1)) (Head_Heirs x0)).bind fun y3 =>
          bif y3 then
            L7 ((Head_Wait (Signed_Head x1)) == (Head_Wait x0))
          else L7 false
      else L7 false
  else L7 false
noncomputable def impl_judgeCode (x0 : THead) (x1 : TSigned) : Option Int :=
  impl_judgeCode.b x0 x1 (impl_judgeCode.l7 x0 x1)
noncomputable abbrev impl_NextCode.g5 (x0 : THead) (x1 : TSigned) (v5_0 : Bool) : Option Int :=
  bif v5_0 then
  some (2 : Int)
else
  (impl_isNext x0 (Signed_Head x1)).bind fun y2 =>
    bif !y2 then
      some (3 : Int)
    else
      bif (Head_Kind (Signed_Head x1)) == (1 : Int) then
        (impl_ownerCode x0 x1).bind fun y3 =>
          some y3
      else
        bif (Head_Kind (Signed_Head x1)) == (2 : Int) then
          (impl_heirCode x0 x1).bind fun y4 =>
            some y4
        else
          (impl_judgeCode x0 x1).bind fun y5 =>
            some y5
noncomputable def impl_NextCode.l5 (x0 : THead) (x1 : TSigned) (v5_0 : Bool) : Option Int :=
  impl_NextCode.g5 x0 x1 v5_0
noncomputable abbrev impl_NextCode.b (x0 : THead) (x1 : TSigned) (L5 : Bool → Option Int) : Option Int :=
  (impl_IsHead x0).bind fun y1 =>
  bif !y1 then
    L5 true
  else
    (impl_IsHead (Signed_Head x1)).bind fun y6 =>
      L5 (!y6)
noncomputable def impl_NextCode (x0 : THead) (x1 : TSigned) : Option Int :=
  impl_NextCode.b x0 x1 (impl_NextCode.l5 x0 x1)
noncomputable def impl_MayFollow (x0 : THead) (x1 : TSigned) : Option Bool :=
  (impl_NextCode x0 x1).bind fun y1 =>
  some (y1 == (1 : Int))
noncomputable abbrev impl_FirstWrong.g4 (x0 : List TSigned) (r4 : Int → Int → Option Int) (v4_2 : Int) (v4_3 : Int) : Option Int :=
  bif decide (v4_3 < v4_2) then
  bif decide (0 ≤ v4_3) then
    bif decide (v4_3 < (x0.length : Int)) then
      bif v4_3 == (0 : Int) then
        (impl_IsFirst (x0.getD v4_3.toNat dSigned)).bind fun y1 =>
          bif !y1 then
            some v4_3
          else
            bif decide (v4_3 > (0 : Int)) then
              bif decide (0 ≤ (IntKind.i64.wrap (v4_3 - (1 : Int)))) then
                bif decide ((IntKind.i64.wrap (v4_3 - (1 : Int))) < (x0.length : Int)) then
                  (impl_MayFollow (Signed_Head (x0.getD ((IntKind.i64.wrap (v4_3 - (1 : Int))).toNat) dSigned)) (x0.getD v4_3.toNat dSigned)).bind fun y2 =>
                    bif !y2 then
                      some v4_3
                    else r4 v4_2 (IntKind.i64.wrap (v4_3 + (1 : Int)))
                else none
              else none
            else r4 v4_2 (IntKind.i64.wrap (v4_3 + (1 : Int)))
      else
        bif decide (v4_3 > (0 : Int)) then
          bif decide (0 ≤ (IntKind.i64.wrap (v4_3 - (1 : Int)))) then
            bif decide ((IntKind.i64.wrap (v4_3 - (1 : Int))) < (x0.length : Int)) then
              (impl_MayFollow (Signed_Head (x0.getD ((IntKind.i64.wrap (v4_3 - (1 : Int))).toNat) dSigned)) (x0.getD v4_3.toNat dSigned)).bind fun y3 =>
                bif !y3 then
                  some v4_3
                else r4 v4_2 (IntKind.i64.wrap (v4_3 + (1 : Int)))
            else none
          else none
        else r4 v4_2 (IntKind.i64.wrap (v4_3 + (1 : Int)))
    else none
  else none
else some (-1 : Int)
noncomputable def impl_FirstWrong.l4 (x0 : List TSigned) (n : Nat) : Int → Int → Option Int :=
  V.iter (fun (r4 : Int → Int → Option Int) => fun v4_2 v4_3 => impl_FirstWrong.g4 x0 r4 v4_2 v4_3) (fun _ _ => none) n
theorem impl_FirstWrong.u4 (x0 : List TSigned) (n : Nat) (v4_2 : Int) (v4_3 : Int) : impl_FirstWrong.l4 x0 (n + 1) v4_2 v4_3 = impl_FirstWrong.g4 x0 (impl_FirstWrong.l4 x0 n) v4_2 v4_3 := rfl
noncomputable abbrev impl_FirstWrong.b (x0 : List TSigned) (L4 : Int → Int → Option Int) : Option Int :=
  L4 (x0.length : Int) (0 : Int)
noncomputable def impl_FirstWrong (x0 : List TSigned) : Option Int :=
  impl_FirstWrong.b x0 (impl_FirstWrong.l4 x0 V.KK)
noncomputable def impl_IsChain (x0 : List TSigned) : Option Bool :=
  (impl_InRange (x0.length : Int) (1 : Int) (12 : Int)).bind fun y1 =>
  bif y1 then
    (impl_FirstWrong x0).bind fun y2 =>
      some (decide (y2 < (0 : Int)))
  else some false
noncomputable def impl_last (x0 : List TSigned) : Option THead :=
  bif decide (0 ≤ (IntKind.i64.wrap ((x0.length : Int) - (1 : Int)))) then
  bif decide ((IntKind.i64.wrap ((x0.length : Int) - (1 : Int))) < (x0.length : Int)) then
    some (Signed_Head (x0.getD ((IntKind.i64.wrap ((x0.length : Int) - (1 : Int))).toNat) dSigned))
  else none
else none
noncomputable def slices_Clone_int (x0 : List Int) : Option (List Int) :=
  bif x0.isEmpty then
  V.both (some [])
    (bif decide (([] : List Int).length + x0.length < 68719476736) then
      some ([] ++ x0)
    else none)
else
  bif decide (([] : List Int).length + x0.length < 68719476736) then
    some ([] ++ x0)
  else none
noncomputable def impl_copyKeys (x0 : TKeys) : Option TKeys :=
  (slices_Clone_int x0.1).bind fun y1 =>
  some (y1, x0.2)
noncomputable def impl_copyHead (x0 : THead) : Option THead :=
  (impl_copyKeys (Head_Keys x0)).bind fun y1 =>
  (impl_copyKeys (Head_Heirs x0)).bind fun y2 =>
    (impl_copyKeys (Head_Judge x0)).bind fun y3 =>
      some (Head_mk (Head_Zone x0) (Head_Epoch x0) (Head_Kind x0) (Head_Time x0) (Head_Until x0) (Head_Count x0) (Head_Root x0) (Head_Prev x0) y1 y2 (Head_Wait x0) y3 (Head_Frozen x0))
noncomputable def impl_LastHead (x0 : List TSigned) : Option TRHeadBool :=
  (impl_IsChain x0).bind fun y1 =>
  bif !y1 then
    some dRHeadBool
  else
    (impl_last x0).bind fun y2 =>
      (impl_copyHead y2).bind fun y3 =>
        some (RHeadBool_mk y3 true)
noncomputable def impl_IsFresh (x0 : THead) (x1 : Int) : Option Bool :=
  (impl_InRange x1 (Head_Time x0) (Head_Until x0)).bind fun y1 =>
  some y1
noncomputable abbrev impl_BytesToInts.g6 (x0 : List Int) (r6 : Int → Int → (List Int) → Option (List Int)) (v6_1 : Int) (v6_2 : Int) (v6_3 : List Int) : Option (List Int) :=
  bif decide (v6_2 < v6_1) then
  bif decide (0 ≤ v6_2) then
    bif decide (v6_2 < (x0.length : Int)) then
      bif decide (v6_3.length + [IntKind.i64.wrap (x0.getD v6_2.toNat (0 : Int))].length < 68719476736) then
        r6 v6_1 (IntKind.i64.wrap (v6_2 + (1 : Int))) (v6_3 ++ [IntKind.i64.wrap (x0.getD v6_2.toNat (0 : Int))])
      else none
    else none
  else none
else some v6_3
noncomputable def impl_BytesToInts.l6 (x0 : List Int) (n : Nat) : Int → Int → (List Int) → Option (List Int) :=
  V.iter (fun (r6 : Int → Int → (List Int) → Option (List Int)) => fun v6_1 v6_2 v6_3 => impl_BytesToInts.g6 x0 r6 v6_1 v6_2 v6_3) (fun _ _ _ => none) n
theorem impl_BytesToInts.u6 (x0 : List Int) (n : Nat) (v6_1 : Int) (v6_2 : Int) (v6_3 : List Int) : impl_BytesToInts.l6 x0 (n + 1) v6_1 v6_2 v6_3 = impl_BytesToInts.g6 x0 (impl_BytesToInts.l6 x0 n) v6_1 v6_2 v6_3 := rfl
noncomputable abbrev impl_BytesToInts.b (x0 : List Int) (L6 : Int → Int → (List Int) → Option (List Int)) : Option (List Int) :=
  L6 (x0.length : Int) (0 : Int) [(x0.length : Int)]
noncomputable def impl_BytesToInts (x0 : List Int) : Option (List Int) :=
  impl_BytesToInts.b x0 (impl_BytesToInts.l6 x0 V.KK)
noncomputable def impl_LabelInts (x0 : ByteArray) : Option (List Int) :=
  bif V.smallS x0 then
  (impl_BytesToInts (V.bytesOf x0)).bind fun y1 =>
    some y1
else none
noncomputable abbrev impl_EntryInts.g6 (x0 : TEntry) (r6 : Int → Int → (List Int) → Option (List Int)) (v6_1 : Int) (v6_2 : Int) (v6_3 : List Int) : Option (List Int) :=
  bif decide (v6_2 < v6_1) then
  bif decide (0 ≤ v6_2) then
    bif decide (v6_2 < (x0.2.2.2.length : Int)) then
      (impl_LabelInts (x0.2.2.2.getD v6_2.toNat (⟨#[]⟩ : ByteArray))).bind fun y2 =>
        bif decide (v6_3.length + y2.length < 68719476736) then
          r6 v6_1 (IntKind.i64.wrap (v6_2 + (1 : Int))) (v6_3 ++ y2)
        else none
    else none
  else none
else some v6_3
noncomputable def impl_EntryInts.l6 (x0 : TEntry) (n : Nat) : Int → Int → (List Int) → Option (List Int) :=
  V.iter (fun (r6 : Int → Int → (List Int) → Option (List Int)) => fun v6_1 v6_2 v6_3 => impl_EntryInts.g6 x0 r6 v6_1 v6_2 v6_3) (fun _ _ _ => none) n
theorem impl_EntryInts.u6 (x0 : TEntry) (n : Nat) (v6_1 : Int) (v6_2 : Int) (v6_3 : List Int) : impl_EntryInts.l6 x0 (n + 1) v6_1 v6_2 v6_3 = impl_EntryInts.g6 x0 (impl_EntryInts.l6 x0 n) v6_1 v6_2 v6_3 := rfl
noncomputable abbrev impl_EntryInts.b (x0 : TEntry) (L6 : Int → Int → (List Int) → Option (List Int)) : Option (List Int) :=
  (impl_LabelInts x0.1).bind fun y1 =>
  bif decide (y1.length + [x0.2.1, x0.2.2.1, (x0.2.2.2.length : Int)].length < 68719476736) then
    L6 (x0.2.2.2.length : Int) (0 : Int) (y1 ++ [x0.2.1, x0.2.2.1, (x0.2.2.2.length : Int)])
  else none
noncomputable def impl_EntryInts (x0 : TEntry) : Option (List Int) :=
  impl_EntryInts.b x0 (impl_EntryInts.l6 x0 V.KK)
noncomputable def impl_LeafOf (x0 : TEntry) : Option Int :=
  (impl_EntryInts x0).bind fun y1 =>
  bif decide ([(227 : Int)].length + y1.length < 68719476736) then
    (impl_Hash ([(227 : Int)] ++ y1)).bind fun y2 =>
      some y2
  else none
noncomputable def impl_hash (x0 : List Int) : Option Int :=
  (impl_Hash x0).bind fun y1 =>
  some y1
noncomputable def impl_NodeOf (x0 : Int) (x1 : Int) : Option Int :=
  (impl_hash [(229 : Int), x0, x1]).bind fun y1 =>
  some y1
noncomputable abbrev impl_TopFrom.g9 (v6_1 : Int) (v6_2 : Int) (r6 : Int → Int → Int → (List Int) → Option (Int × Bool)) (v9_0 : Int) (v9_3 : List Int) : Option (Int × Bool) :=
  bif ((2 : Int) == (0 : Int)) then
  none
else
  bif ((2 : Int) == (0 : Int)) then
    none
  else r6 v9_0 (IntKind.i64.wrap (Int.tdiv v6_1 (2 : Int))) (IntKind.i64.wrap (Int.tdiv (IntKind.i64.wrap (v6_2 + (1 : Int))) (2 : Int))) v9_3
noncomputable def impl_TopFrom.l9 (v6_1 : Int) (v6_2 : Int) (r6 : Int → Int → Int → (List Int) → Option (Int × Bool)) (v9_0 : Int) (v9_3 : List Int) : Option (Int × Bool) :=
  impl_TopFrom.g9 v6_1 v6_2 r6 v9_0 v9_3
noncomputable abbrev impl_TopFrom.g6 (r6 : Int → Int → Int → (List Int) → Option (Int × Bool)) (L9 : Int → (List Int) → Option (Int × Bool)) (v6_0 : Int) (v6_1 : Int) (v6_2 : Int) (v6_3 : List Int) : Option (Int × Bool) :=
  bif decide (v6_2 > (1 : Int)) then
  bif decide ((IntKind.i64.wrap ((BitVec.ofInt IntKind.i64.bits v6_1 ^^^ BitVec.ofInt IntKind.i64.bits (1 : Int)).toNat : Int)) ≥ v6_2) then
    L9 v6_0 v6_3
  else
    bif (v6_3.length : Int) == (0 : Int) then
      some ((0 : Int), false)
    else
      bif ((2 : Int) == (0 : Int)) then
        none
      else
        bif (Int.tmod v6_1 (2 : Int)) == (0 : Int) then
          bif decide (0 ≤ (0 : Int)) then
            bif decide ((0 : Int) < (v6_3.length : Int)) then
              (impl_NodeOf v6_0 (v6_3.getD ((0 : Int).toNat) (0 : Int))).bind fun y2 =>
                bif decide (0 ≤ (1 : Int)) then
                  bif decide ((1 : Int) ≤ (v6_3.length : Int)) then
                    bif decide ((v6_3.length : Int) ≤ (v6_3.length : Int)) then
                      L9 y2 (v6_3.drop ((1 : Int).toNat))
                    else none
                  else none
                else none
            else none
          else none
        else
          bif decide (0 ≤ (0 : Int)) then
            bif decide ((0 : Int) < (v6_3.length : Int)) then
              (impl_NodeOf (v6_3.getD ((0 : Int).toNat) (0 : Int)) v6_0).bind fun y3 =>
                bif decide (0 ≤ (1 : Int)) then
                  bif decide ((1 : Int) ≤ (v6_3.length : Int)) then
                    bif decide ((v6_3.length : Int) ≤ (v6_3.length : Int)) then
                      L9 y3 (v6_3.drop ((1 : Int).toNat))
                    else none
                  else none
                else none
            else none
          else none
else
  bif decide ((v6_3.length : Int) > (0 : Int)) then
    some ((0 : Int), false)
  else some (v6_0, true)
noncomputable def impl_TopFrom.l6 (n : Nat) : Int → Int → Int → (List Int) → Option (Int × Bool) :=
  V.iter (fun (r6 : Int → Int → Int → (List Int) → Option (Int × Bool)) => fun v6_0 v6_1 v6_2 v6_3 => impl_TopFrom.g6 r6 (impl_TopFrom.l9 v6_1 v6_2 r6) v6_0 v6_1 v6_2 v6_3) (fun _ _ _ _ => none) n
theorem impl_TopFrom.u6 (n : Nat) (v6_0 : Int) (v6_1 : Int) (v6_2 : Int) (v6_3 : List Int) : impl_TopFrom.l6 (n + 1) v6_0 v6_1 v6_2 v6_3 = impl_TopFrom.g6 (impl_TopFrom.l6 n) (impl_TopFrom.l9 v6_1 v6_2 (impl_TopFrom.l6 n)) v6_0 v6_1 v6_2 v6_3 := rfl
noncomputable abbrev impl_TopFrom.g7 (x0 : Int) (x1 : Int) (x2 : Int) (x3 : List Int) (L6 : Int → Int → Int → (List Int) → Option (Int × Bool)) : Option (Int × Bool) :=
  L6 x0 x1 x2 x3
noncomputable def impl_TopFrom.l7 (x0 : Int) (x1 : Int) (x2 : Int) (x3 : List Int) : Option (Int × Bool) :=
  impl_TopFrom.g7 x0 x1 x2 x3 (impl_TopFrom.l6 V.KK)
noncomputable abbrev impl_TopFrom.b (x0 : Int) (x1 : Int) (x2 : Int) (x3 : List Int) (L7 : Option (Int × Bool)) : Option (Int × Bool) :=
  bif decide (x2 < (1 : Int)) then
  some ((0 : Int), false)
else
  bif decide (x2 > (12 : Int)) then
    some ((0 : Int), false)
  else
    (impl_InRange x1 (0 : Int) (IntKind.i64.wrap (x2 - (1 : Int)))).bind fun y1 =>
      bif !y1 then
        some ((0 : Int), false)
      else L7
noncomputable def impl_TopFrom (x0 : Int) (x1 : Int) (x2 : Int) (x3 : List Int) : Option (Int × Bool) :=
  impl_TopFrom.b x0 x1 x2 x3 (impl_TopFrom.l7 x0 x1 x2 x3)
noncomputable abbrev impl_IsLabel.g4 (x0 : ByteArray) (r4 : Int → Int → Option Bool) (v4_1 : Int) (v4_2 : Int) : Option Bool :=
  bif decide (v4_2 < v4_1) then
  bif decide (0 ≤ v4_2) then
    bif decide (v4_2 < (x0.size : Int)) then
      bif decide ((V.bt x0 v4_2) ≥ (97 : Int)) then
        bif decide ((V.bt x0 v4_2) ≤ (122 : Int)) then
          r4 v4_1 (IntKind.i64.wrap (v4_2 + (1 : Int)))
        else
          bif decide ((V.bt x0 v4_2) ≥ (48 : Int)) then
            bif decide ((V.bt x0 v4_2) ≤ (57 : Int)) then
              r4 v4_1 (IntKind.i64.wrap (v4_2 + (1 : Int)))
            else
              bif (V.bt x0 v4_2) == (45 : Int) then
                bif decide (v4_2 > (0 : Int)) then
                  bif !(decide (v4_2 < (IntKind.i64.wrap ((x0.size : Int) - (1 : Int))))) then
                    some false
                  else r4 v4_1 (IntKind.i64.wrap (v4_2 + (1 : Int)))
                else some false
              else some false
          else
            bif (V.bt x0 v4_2) == (45 : Int) then
              bif decide (v4_2 > (0 : Int)) then
                bif !(decide (v4_2 < (IntKind.i64.wrap ((x0.size : Int) - (1 : Int))))) then
                  some false
                else r4 v4_1 (IntKind.i64.wrap (v4_2 + (1 : Int)))
              else some false
            else some false
      else
        bif decide ((V.bt x0 v4_2) ≥ (48 : Int)) then
          bif decide ((V.bt x0 v4_2) ≤ (57 : Int)) then
            r4 v4_1 (IntKind.i64.wrap (v4_2 + (1 : Int)))
          else
            bif (V.bt x0 v4_2) == (45 : Int) then
              bif decide (v4_2 > (0 : Int)) then
                bif !(decide (v4_2 < (IntKind.i64.wrap ((x0.size : Int) - (1 : Int))))) then
                  some false
                else r4 v4_1 (IntKind.i64.wrap (v4_2 + (1 : Int)))
              else some false
            else some false
        else
          bif (V.bt x0 v4_2) == (45 : Int) then
            bif decide (v4_2 > (0 : Int)) then
              bif !(decide (v4_2 < (IntKind.i64.wrap ((x0.size : Int) - (1 : Int))))) then
                some false
              else r4 v4_1 (IntKind.i64.wrap (v4_2 + (1 : Int)))
            else some false
          else some false
    else none
  else none
else
  (impl_InRange (x0.size : Int) (1 : Int) (8 : Int)).bind fun y1 =>
    some y1
noncomputable def impl_IsLabel.l4 (x0 : ByteArray) (n : Nat) : Int → Int → Option Bool :=
  V.iter (fun (r4 : Int → Int → Option Bool) => fun v4_1 v4_2 => impl_IsLabel.g4 x0 r4 v4_1 v4_2) (fun _ _ => none) n
theorem impl_IsLabel.u4 (x0 : ByteArray) (n : Nat) (v4_1 : Int) (v4_2 : Int) : impl_IsLabel.l4 x0 (n + 1) v4_1 v4_2 = impl_IsLabel.g4 x0 (impl_IsLabel.l4 x0 n) v4_1 v4_2 := rfl
noncomputable abbrev impl_IsLabel.b (x0 : ByteArray) (L4 : Int → Int → Option Bool) : Option Bool :=
  L4 (x0.size : Int) (0 : Int)
noncomputable def impl_IsLabel (x0 : ByteArray) : Option Bool :=
  impl_IsLabel.b x0 (impl_IsLabel.l4 x0 V.KK)
noncomputable def impl_IsPath_1 (x0 : ByteArray) : Option Bool :=
  (impl_IsLabel x0).bind fun y1 =>
  some (!y1)
noncomputable abbrev slices_IndexFunc_string__IsPath_1.g4 (x0 : List ByteArray) (r4 : Int → Int → Option Int) (v4_1 : Int) (v4_2 : Int) : Option Int :=
  bif decide (v4_2 < v4_1) then
  bif decide (0 ≤ v4_2) then
    bif decide (v4_2 < (x0.length : Int)) then
      (impl_IsPath_1 (x0.getD v4_2.toNat (⟨#[]⟩ : ByteArray))).bind fun y1 =>
        bif y1 then
          some v4_2
        else r4 v4_1 (IntKind.i64.wrap (v4_2 + (1 : Int)))
    else none
  else none
else some (-1 : Int)
noncomputable def slices_IndexFunc_string__IsPath_1.l4 (x0 : List ByteArray) (n : Nat) : Int → Int → Option Int :=
  V.iter (fun (r4 : Int → Int → Option Int) => fun v4_1 v4_2 => slices_IndexFunc_string__IsPath_1.g4 x0 r4 v4_1 v4_2) (fun _ _ => none) n
theorem slices_IndexFunc_string__IsPath_1.u4 (x0 : List ByteArray) (n : Nat) (v4_1 : Int) (v4_2 : Int) : slices_IndexFunc_string__IsPath_1.l4 x0 (n + 1) v4_1 v4_2 = slices_IndexFunc_string__IsPath_1.g4 x0 (slices_IndexFunc_string__IsPath_1.l4 x0 n) v4_1 v4_2 := rfl
noncomputable abbrev slices_IndexFunc_string__IsPath_1.b (x0 : List ByteArray) (x1 : (Unit) × (Unit)) (L4 : Int → Int → Option Int) : Option Int :=
  L4 (x0.length : Int) (0 : Int)
noncomputable def slices_IndexFunc_string__IsPath_1 (x0 : List ByteArray) (x1 : (Unit) × (Unit)) : Option Int :=
  slices_IndexFunc_string__IsPath_1.b x0 x1 (slices_IndexFunc_string__IsPath_1.l4 x0 V.KK)
noncomputable def slices_ContainsFunc_string__IsPath_1 (x0 : List ByteArray) (x1 : (Unit) × (Unit)) : Option Bool :=
  (slices_IndexFunc_string__IsPath_1 x0 (x1.1, x1.2)).bind fun y1 =>
  some (decide (y1 ≥ (0 : Int)))
noncomputable def impl_IsPath (x0 : List ByteArray) : Option Bool :=
  (impl_InRange (x0.length : Int) (1 : Int) (4 : Int)).bind fun y1 =>
  bif y1 then
    (slices_ContainsFunc_string__IsPath_1 x0 ((), ())).bind fun y2 =>
      some (!y2)
  else some false
noncomputable def impl_IsEntry (x0 : TEntry) : Option Bool :=
  (impl_IsLabel x0.1).bind fun y1 =>
  bif !y1 then
    some false
  else
    bif x0.2.1 == (1 : Int) then
      (impl_InRange x0.2.2.1 (0 : Int) (999999 : Int)).bind fun y2 =>
        bif y2 then
          some ((x0.2.2.2.length : Int) == (0 : Int))
        else some false
    else
      bif x0.2.1 == (2 : Int) then
        (impl_isDigest x0.2.2.1).bind fun y3 =>
          bif y3 then
            some ((x0.2.2.2.length : Int) == (0 : Int))
          else some false
      else
        bif x0.2.1 == (3 : Int) then
          (impl_isDigest x0.2.2.1).bind fun y4 =>
            bif y4 then
              (impl_IsPath x0.2.2.2).bind fun y5 =>
                some y5
            else some false
        else some false
noncomputable def impl_rootFrom (x0 : Int) (x1 : Int) : Option Int :=
  (impl_hash [(231 : Int), x0, x1]).bind fun y1 =>
  some y1
noncomputable def impl_CheckEntry (x0 : Int) (x1 : Int) (x2 : TEntry) (x3 : TProof) : Option Bool :=
  (impl_LeafOf x2).bind fun y1 =>
  (impl_TopFrom y1 x3.1 x1 x3.2).bind fun y2 =>
    bif y2.2 then
      (impl_IsEntry x2).bind fun y3 =>
        bif y3 then
          (impl_rootFrom x1 y2.1).bind fun y4 =>
            some (y4 == x0)
        else some false
    else some false
noncomputable abbrev slices_Equal_string.g8 (x0 : List ByteArray) (x1 : List ByteArray) (r8 : Int → Int → Option Bool) (v8_2 : Int) (v8_3 : Int) : Option Bool :=
  bif decide (v8_3 < v8_2) then
  bif decide (0 ≤ v8_3) then
    bif decide (v8_3 < (x0.length : Int)) then
      bif decide (0 ≤ v8_3) then
        bif decide (v8_3 < (x1.length : Int)) then
          bif !((x0.getD v8_3.toNat (⟨#[]⟩ : ByteArray)).toList == (x1.getD v8_3.toNat (⟨#[]⟩ : ByteArray)).toList) then
            some false
          else r8 v8_2 (IntKind.i64.wrap (v8_3 + (1 : Int)))
        else none
      else none
    else none
  else none
else some true
noncomputable def slices_Equal_string.l8 (x0 : List ByteArray) (x1 : List ByteArray) (n : Nat) : Int → Int → Option Bool :=
  V.iter (fun (r8 : Int → Int → Option Bool) => fun v8_2 v8_3 => slices_Equal_string.g8 x0 x1 r8 v8_2 v8_3) (fun _ _ => none) n
theorem slices_Equal_string.u8 (x0 : List ByteArray) (x1 : List ByteArray) (n : Nat) (v8_2 : Int) (v8_3 : Int) : slices_Equal_string.l8 x0 x1 (n + 1) v8_2 v8_3 = slices_Equal_string.g8 x0 x1 (slices_Equal_string.l8 x0 x1 n) v8_2 v8_3 := rfl
noncomputable abbrev slices_Equal_string.b (x0 : List ByteArray) (x1 : List ByteArray) (L8 : Int → Int → Option Bool) : Option Bool :=
  bif (x0.length : Int) != (x1.length : Int) then
  some false
else L8 (x0.length : Int) (0 : Int)
noncomputable def slices_Equal_string (x0 : List ByteArray) (x1 : List ByteArray) : Option Bool :=
  slices_Equal_string.b x0 x1 (slices_Equal_string.l8 x0 x1 V.KK)
noncomputable def impl_EqualEntries (x0 : TEntry) (x1 : TEntry) : Option Bool :=
  bif x0.1.toList == x1.1.toList then
  bif x0.2.1 == x1.2.1 then
    bif x0.2.2.1 == x1.2.2.1 then
      (slices_Equal_string x0.2.2.2 x1.2.2.2).bind fun y1 =>
        some y1
    else some false
  else some false
else some false
noncomputable def impl_EqualProofs (x0 : TProof) (x1 : TProof) : Option Bool :=
  bif x0.1 == x1.1 then
  (slices_Equal_int x0.2 x1.2).bind fun y1 =>
    some y1
else some false
noncomputable def impl_EqualGaps (x0 : TGap) (x1 : TGap) : Option Bool :=
  bif (Gap_At x0) == (Gap_At x1) then
  (impl_EqualEntries (Gap_Before x0) (Gap_Before x1)).bind fun y1 =>
    bif y1 then
      (impl_EqualEntries (Gap_After x0) (Gap_After x1)).bind fun y2 =>
        bif y2 then
          (impl_EqualProofs (Gap_Left x0) (Gap_Left x1)).bind fun y3 =>
            bif y3 then
              (impl_EqualProofs (Gap_Right x0) (Gap_Right x1)).bind fun y4 =>
                some y4
            else some false
        else some false
    else some false
else some false
noncomputable abbrev impl_LeavesOf.g6 (x0 : List TEntry) (r6 : Int → Int → (List Int) → Option (List Int)) (v6_1 : Int) (v6_2 : Int) (v6_3 : List Int) : Option (List Int) :=
  bif decide (v6_2 < v6_1) then
  bif decide (0 ≤ v6_2) then
    bif decide (v6_2 < (x0.length : Int)) then
      (impl_LeafOf (x0.getD v6_2.toNat dEntry)).bind fun y1 =>
        bif decide (v6_3.length + [y1].length < 68719476736) then
          r6 v6_1 (IntKind.i64.wrap (v6_2 + (1 : Int))) (v6_3 ++ [y1])
        else none
    else none
  else none
else some v6_3
noncomputable def impl_LeavesOf.l6 (x0 : List TEntry) (n : Nat) : Int → Int → (List Int) → Option (List Int) :=
  V.iter (fun (r6 : Int → Int → (List Int) → Option (List Int)) => fun v6_1 v6_2 v6_3 => impl_LeavesOf.g6 x0 r6 v6_1 v6_2 v6_3) (fun _ _ _ => none) n
theorem impl_LeavesOf.u6 (x0 : List TEntry) (n : Nat) (v6_1 : Int) (v6_2 : Int) (v6_3 : List Int) : impl_LeavesOf.l6 x0 (n + 1) v6_1 v6_2 v6_3 = impl_LeavesOf.g6 x0 (impl_LeavesOf.l6 x0 n) v6_1 v6_2 v6_3 := rfl
noncomputable abbrev impl_LeavesOf.b (x0 : List TEntry) (L6 : Int → Int → (List Int) → Option (List Int)) : Option (List Int) :=
  L6 (x0.length : Int) (0 : Int) []
noncomputable def impl_LeavesOf (x0 : List TEntry) : Option (List Int) :=
  impl_LeavesOf.b x0 (impl_LeavesOf.l6 x0 V.KK)
noncomputable abbrev impl_above.g6 (x0 : List Int) (r6 : Int → (List Int) → Option (List Int)) (v6_1 : Int) (v6_2 : List Int) : Option (List Int) :=
  bif decide (v6_1 < (x0.length : Int)) then
  bif decide ((IntKind.i64.wrap (v6_1 + (1 : Int))) < (x0.length : Int)) then
    bif decide (0 ≤ v6_1) then
      bif decide (v6_1 < (x0.length : Int)) then
        bif decide (0 ≤ (IntKind.i64.wrap (v6_1 + (1 : Int)))) then
          bif decide ((IntKind.i64.wrap (v6_1 + (1 : Int))) < (x0.length : Int)) then
            (impl_NodeOf (x0.getD v6_1.toNat (0 : Int)) (x0.getD ((IntKind.i64.wrap (v6_1 + (1 : Int))).toNat) (0 : Int))).bind fun y1 =>
              bif decide (v6_2.length + [y1].length < 68719476736) then
                r6 (IntKind.i64.wrap (v6_1 + (2 : Int))) (v6_2 ++ [y1])
              else none
          else none
        else none
      else none
    else none
  else
    bif decide (0 ≤ v6_1) then
      bif decide (v6_1 < (x0.length : Int)) then
        bif decide (v6_2.length + [x0.getD v6_1.toNat (0 : Int)].length < 68719476736) then
          r6 (IntKind.i64.wrap (v6_1 + (2 : Int))) (v6_2 ++ [x0.getD v6_1.toNat (0 : Int)])
        else none
      else none
    else none
else some v6_2
noncomputable def impl_above.l6 (x0 : List Int) (n : Nat) : Int → (List Int) → Option (List Int) :=
  V.iter (fun (r6 : Int → (List Int) → Option (List Int)) => fun v6_1 v6_2 => impl_above.g6 x0 r6 v6_1 v6_2) (fun _ _ => none) n
theorem impl_above.u6 (x0 : List Int) (n : Nat) (v6_1 : Int) (v6_2 : List Int) : impl_above.l6 x0 (n + 1) v6_1 v6_2 = impl_above.g6 x0 (impl_above.l6 x0 n) v6_1 v6_2 := rfl
noncomputable abbrev impl_above.b (x0 : List Int) (L6 : Int → (List Int) → Option (List Int)) : Option (List Int) :=
  L6 (0 : Int) []
noncomputable def impl_above (x0 : List Int) : Option (List Int) :=
  impl_above.b x0 (impl_above.l6 x0 V.KK)
noncomputable abbrev impl_TopOf.g6 (r6 : (List Int) → Option Int) (v6_0 : List Int) : Option Int :=
  bif decide ((v6_0.length : Int) > (1 : Int)) then
  (impl_above v6_0).bind fun y2 =>
    r6 y2
else
  bif decide (0 ≤ (0 : Int)) then
    bif decide ((0 : Int) < (v6_0.length : Int)) then
      some (v6_0.getD ((0 : Int).toNat) (0 : Int))
    else none
  else none
noncomputable def impl_TopOf.l6 (n : Nat) : (List Int) → Option Int :=
  V.iter (fun (r6 : (List Int) → Option Int) => fun v6_0 => impl_TopOf.g6 r6 v6_0) (fun _ => none) n
theorem impl_TopOf.u6 (n : Nat) (v6_0 : List Int) : impl_TopOf.l6 (n + 1) v6_0 = impl_TopOf.g6 (impl_TopOf.l6 n) v6_0 := rfl
noncomputable abbrev impl_TopOf.b (x0 : List Int) (L6 : (List Int) → Option Int) : Option Int :=
  bif (x0.length : Int) == (0 : Int) then
  (impl_hash [(229 : Int)]).bind fun y1 =>
    some y1
else L6 x0
noncomputable def impl_TopOf (x0 : List Int) : Option Int :=
  impl_TopOf.b x0 (impl_TopOf.l6 V.KK)
noncomputable def impl_RootOf (x0 : List TEntry) : Option Int :=
  (impl_LeavesOf x0).bind fun y1 =>
  (impl_TopOf y1).bind fun y2 =>
    (impl_rootFrom (x0.length : Int) y2).bind fun y3 =>
      some y3
noncomputable def impl_isZeroEntry (x0 : TEntry) : Option Bool :=
  (impl_EqualEntries x0 ((⟨#[]⟩ : ByteArray), (0 : Int), (0 : Int), [])).bind fun y1 =>
  some y1
noncomputable def impl_isZeroProof (x0 : TProof) : Option Bool :=
  (impl_EqualProofs x0 ((0 : Int), [])).bind fun y1 =>
  some y1
noncomputable def impl_neighbourHolds (x0 : Int) (x1 : Int) (x2 : TEntry) (x3 : TProof) (x4 : Int) : Option Bool :=
  (impl_InRange x4 (0 : Int) (IntKind.i64.wrap (x1 - (1 : Int)))).bind fun y1 =>
  bif !y1 then
    (impl_isZeroEntry x2).bind fun y2 =>
      bif y2 then
        (impl_isZeroProof x3).bind fun y3 =>
          some y3
      else some false
  else
    (impl_CheckEntry x0 x1 x2 x3).bind fun y4 =>
      bif y4 then
        some (x3.1 == x4)
      else some false
noncomputable def internal_bytealg_CompareString (x0 : ByteArray) (x1 : ByteArray) : Option Int :=
  some (Go.Lib.compareBytes x0.data.toList x1.data.toList)
noncomputable def strings_Compare (x0 : ByteArray) (x1 : ByteArray) : Option Int :=
  (internal_bytealg_CompareString x0 x1).bind fun y1 =>
  some y1
noncomputable def impl_CompareLabels (x0 : ByteArray) (x1 : ByteArray) : Option Int :=
  (strings_Compare x0 x1).bind fun y1 =>
  some y1
noncomputable abbrev impl_CheckAbsence.g11 (x1 : Int) (x2 : ByteArray) (x3 : TGap) : Option Bool :=
  bif (Gap_At x3) == (0 : Int) then
  bif (Gap_At x3) == x1 then
    some true
  else
    (impl_CompareLabels (Gap_After x3).1 x2).bind fun y6 =>
      some (decide (y6 > (0 : Int)))
else
  (impl_CompareLabels (Gap_Before x3).1 x2).bind fun y7 =>
    bif decide (y7 < (0 : Int)) then
      bif (Gap_At x3) == x1 then
        some true
      else
        (impl_CompareLabels (Gap_After x3).1 x2).bind fun y8 =>
          some (decide (y8 > (0 : Int)))
    else some false
noncomputable def impl_CheckAbsence.l11 (x1 : Int) (x2 : ByteArray) (x3 : TGap) : Option Bool :=
  impl_CheckAbsence.g11 x1 x2 x3
noncomputable abbrev impl_CheckAbsence.g7 (x0 : Int) (x1 : Int) (x2 : ByteArray) (x3 : TGap) (L11 : Option Bool) : Option Bool :=
  (impl_neighbourHolds x0 x1 (Gap_Before x3) (Gap_Left x3) (IntKind.i64.wrap ((Gap_At x3) - (1 : Int)))).bind fun y4 =>
  bif !y4 then
    some false
  else
    (impl_neighbourHolds x0 x1 (Gap_After x3) (Gap_Right x3) (Gap_At x3)).bind fun y5 =>
      bif !y5 then
        some false
      else L11
noncomputable def impl_CheckAbsence.l7 (x0 : Int) (x1 : Int) (x2 : ByteArray) (x3 : TGap) : Option Bool :=
  impl_CheckAbsence.g7 x0 x1 x2 x3 (impl_CheckAbsence.l11 x1 x2 x3)
noncomputable abbrev impl_CheckAbsence.b (x0 : Int) (x1 : Int) (x2 : ByteArray) (x3 : TGap) (L7 : Option Bool) : Option Bool :=
  (impl_IsLabel x2).bind fun y1 =>
  bif !y1 then
    some false
  else
    (impl_InRange (Gap_At x3) (0 : Int) x1).bind fun y2 =>
      bif !y2 then
        some false
      else
        bif x1 == (0 : Int) then
          (impl_RootOf []).bind fun y3 =>
            bif x0 != y3 then
              some false
            else L7
        else L7
noncomputable def impl_CheckAbsence (x0 : Int) (x1 : Int) (x2 : ByteArray) (x3 : TGap) : Option Bool :=
  impl_CheckAbsence.b x0 x1 x2 x3 (impl_CheckAbsence.l7 x0 x1 x2 x3)
noncomputable def impl_isProved (x0 : THead) (x1 : ByteArray) (x2 : TAnswer) : Option Bool :=
  bif (Answer_Found x2) then
  bif (Answer_Entry x2).1.toList == x1.toList then
    (impl_CheckEntry (Head_Root x0) (Head_Count x0) (Answer_Entry x2) (Answer_Proof x2)).bind fun y1 =>
      bif y1 then
        (impl_EqualGaps (Answer_Gap x2) dGap).bind fun y2 =>
          some y2
      else some false
  else some false
else
  (impl_CheckAbsence (Head_Root x0) (Head_Count x0) x1 (Answer_Gap x2)).bind fun y3 =>
    bif y3 then
      (impl_isZeroEntry (Answer_Entry x2)).bind fun y4 =>
        bif y4 then
          (impl_isZeroProof (Answer_Proof x2)).bind fun y5 =>
            some y5
        else some false
    else some false
noncomputable def impl_CheckAnswer (x0 : Int) (x1 : ByteArray) (x2 : TAnswer) (x3 : Int) : Option Int :=
  (impl_LastHead (Answer_Chain x2)).bind fun y1 =>
  bif !(RHeadBool_r1 y1) then
    some (3 : Int)
  else
    bif (Head_Zone (RHeadBool_r0 y1)) != x0 then
      some (2 : Int)
    else
      (impl_IsFresh (RHeadBool_r0 y1) x3).bind fun y2 =>
        bif !y2 then
          some (4 : Int)
        else
          bif (Head_Frozen (RHeadBool_r0 y1)) then
            some (5 : Int)
          else
            (impl_isProved (RHeadBool_r0 y1) x1 x2).bind fun y3 =>
              bif !y3 then
                some (6 : Int)
              else some (1 : Int)
noncomputable abbrev laws_eqIntS.g8 (x0 : List Int) (x1 : List Int) (r8 : Int → Option Bool) (v8_2 : Int) : Option Bool :=
  bif decide (v8_2 < (x0.length : Int)) then
  bif decide (0 ≤ v8_2) then
    bif decide (v8_2 < (x0.length : Int)) then
      bif decide (0 ≤ v8_2) then
        bif decide (v8_2 < (x1.length : Int)) then
          bif (x0.getD v8_2.toNat (0 : Int)) != (x1.getD v8_2.toNat (0 : Int)) then
            some false
          else r8 (IntKind.i64.wrap (v8_2 + (1 : Int)))
        else none
      else none
    else none
  else none
else some true
noncomputable def laws_eqIntS.l8 (x0 : List Int) (x1 : List Int) (n : Nat) : Int → Option Bool :=
  V.iter (fun (r8 : Int → Option Bool) => fun v8_2 => laws_eqIntS.g8 x0 x1 r8 v8_2) (fun _ => none) n
theorem laws_eqIntS.u8 (x0 : List Int) (x1 : List Int) (n : Nat) (v8_2 : Int) : laws_eqIntS.l8 x0 x1 (n + 1) v8_2 = laws_eqIntS.g8 x0 x1 (laws_eqIntS.l8 x0 x1 n) v8_2 := rfl
noncomputable abbrev laws_eqIntS.b (x0 : List Int) (x1 : List Int) (L8 : Int → Option Bool) : Option Bool :=
  bif (x0.length : Int) != (x1.length : Int) then
  some false
else L8 (0 : Int)
noncomputable def laws_eqIntS (x0 : List Int) (x1 : List Int) : Option Bool :=
  laws_eqIntS.b x0 x1 (laws_eqIntS.l8 x0 x1 V.KK)
noncomputable def laws_eqKeys (x0 : TKeys) (x1 : TKeys) : Option Bool :=
  (laws_eqIntS x0.1 x1.1).bind fun y1 =>
  bif !y1 then
    some false
  else
    bif x0.2 != x1.2 then
      some false
    else some true
noncomputable def laws_eqHead (x0 : THead) (x1 : THead) : Option Bool :=
  bif (Head_Zone x0) != (Head_Zone x1) then
  some false
else
  bif (Head_Epoch x0) != (Head_Epoch x1) then
    some false
  else
    bif (Head_Kind x0) != (Head_Kind x1) then
      some false
    else
      bif (Head_Time x0) != (Head_Time x1) then
        some false
      else
        bif (Head_Until x0) != (Head_Until x1) then
          some false
        else
          bif (Head_Count x0) != (Head_Count x1) then
            some false
          else
            bif (Head_Root x0) != (Head_Root x1) then
              some false
            else
              bif (Head_Prev x0) != (Head_Prev x1) then
                some false
              else
                (laws_eqKeys (Head_Keys x0) (Head_Keys x1)).bind fun y1 =>
                  bif !y1 then
                    some false
                  else
                    (laws_eqKeys (Head_Heirs x0) (Head_Heirs x1)).bind fun y2 =>
                      bif !y2 then
                        some false
                      else
                        bif (Head_Wait x0) != (Head_Wait x1) then
                          some false
                        else
                          (laws_eqKeys (Head_Judge x0) (Head_Judge x1)).bind fun y3 =>
                            bif !y3 then
                              some false
                            else
                              bif !((Head_Frozen x0) == (Head_Frozen x1)) then
                                some false
                              else some true
noncomputable def laws_eqSig (x0 : TSig) (x1 : TSig) : Option Bool :=
  bif x0.1 != x1.1 then
  some false
else
  bif x0.2 != x1.2 then
    some false
  else some true
noncomputable abbrev laws_eqSigS.g8 (x0 : List TSig) (x1 : List TSig) (r8 : Int → Option Bool) (v8_2 : Int) : Option Bool :=
  bif decide (v8_2 < (x0.length : Int)) then
  bif decide (0 ≤ v8_2) then
    bif decide (v8_2 < (x0.length : Int)) then
      bif decide (0 ≤ v8_2) then
        bif decide (v8_2 < (x1.length : Int)) then
          (laws_eqSig (x0.getD v8_2.toNat dSig) (x1.getD v8_2.toNat dSig)).bind fun y1 =>
            bif !y1 then
              some false
            else r8 (IntKind.i64.wrap (v8_2 + (1 : Int)))
        else none
      else none
    else none
  else none
else some true
noncomputable def laws_eqSigS.l8 (x0 : List TSig) (x1 : List TSig) (n : Nat) : Int → Option Bool :=
  V.iter (fun (r8 : Int → Option Bool) => fun v8_2 => laws_eqSigS.g8 x0 x1 r8 v8_2) (fun _ => none) n
theorem laws_eqSigS.u8 (x0 : List TSig) (x1 : List TSig) (n : Nat) (v8_2 : Int) : laws_eqSigS.l8 x0 x1 (n + 1) v8_2 = laws_eqSigS.g8 x0 x1 (laws_eqSigS.l8 x0 x1 n) v8_2 := rfl
noncomputable abbrev laws_eqSigS.b (x0 : List TSig) (x1 : List TSig) (L8 : Int → Option Bool) : Option Bool :=
  bif (x0.length : Int) != (x1.length : Int) then
  some false
else L8 (0 : Int)
noncomputable def laws_eqSigS (x0 : List TSig) (x1 : List TSig) : Option Bool :=
  laws_eqSigS.b x0 x1 (laws_eqSigS.l8 x0 x1 V.KK)
noncomputable def laws_eqSigned (x0 : TSigned) (x1 : TSigned) : Option Bool :=
  (laws_eqHead (Signed_Head x0) (Signed_Head x1)).bind fun y1 =>
  bif !y1 then
    some false
  else
    (laws_eqSigS (Signed_Sigs x0) (Signed_Sigs x1)).bind fun y2 =>
      bif !y2 then
        some false
      else some true
noncomputable abbrev laws_eqSignedS.g8 (x0 : List TSigned) (x1 : List TSigned) (r8 : Int → Option Bool) (v8_2 : Int) : Option Bool :=
  bif decide (v8_2 < (x0.length : Int)) then
  bif decide (0 ≤ v8_2) then
    bif decide (v8_2 < (x0.length : Int)) then
      bif decide (0 ≤ v8_2) then
        bif decide (v8_2 < (x1.length : Int)) then
          (laws_eqSigned (x0.getD v8_2.toNat dSigned) (x1.getD v8_2.toNat dSigned)).bind fun y1 =>
            bif !y1 then
              some false
            else r8 (IntKind.i64.wrap (v8_2 + (1 : Int)))
        else none
      else none
    else none
  else none
else some true
noncomputable def laws_eqSignedS.l8 (x0 : List TSigned) (x1 : List TSigned) (n : Nat) : Int → Option Bool :=
  V.iter (fun (r8 : Int → Option Bool) => fun v8_2 => laws_eqSignedS.g8 x0 x1 r8 v8_2) (fun _ => none) n
theorem laws_eqSignedS.u8 (x0 : List TSigned) (x1 : List TSigned) (n : Nat) (v8_2 : Int) : laws_eqSignedS.l8 x0 x1 (n + 1) v8_2 = laws_eqSignedS.g8 x0 x1 (laws_eqSignedS.l8 x0 x1 n) v8_2 := rfl
noncomputable abbrev laws_eqSignedS.b (x0 : List TSigned) (x1 : List TSigned) (L8 : Int → Option Bool) : Option Bool :=
  bif (x0.length : Int) != (x1.length : Int) then
  some false
else L8 (0 : Int)
noncomputable def laws_eqSignedS (x0 : List TSigned) (x1 : List TSigned) : Option Bool :=
  laws_eqSignedS.b x0 x1 (laws_eqSignedS.l8 x0 x1 V.KK)
noncomputable abbrev laws_eqStringS.g8 (x0 : List ByteArray) (x1 : List ByteArray) (r8 : Int → Option Bool) (v8_2 : Int) : Option Bool :=
  bif decide (v8_2 < (x0.length : Int)) then
  bif decide (0 ≤ v8_2) then
    bif decide (v8_2 < (x0.length : Int)) then
      bif decide (0 ≤ v8_2) then
        bif decide (v8_2 < (x1.length : Int)) then
          bif !((x0.getD v8_2.toNat (⟨#[]⟩ : ByteArray)).toList == (x1.getD v8_2.toNat (⟨#[]⟩ : ByteArray)).toList) then
            some false
          else r8 (IntKind.i64.wrap (v8_2 + (1 : Int)))
        else none
      else none
    else none
  else none
else some true
noncomputable def laws_eqStringS.l8 (x0 : List ByteArray) (x1 : List ByteArray) (n : Nat) : Int → Option Bool :=
  V.iter (fun (r8 : Int → Option Bool) => fun v8_2 => laws_eqStringS.g8 x0 x1 r8 v8_2) (fun _ => none) n
theorem laws_eqStringS.u8 (x0 : List ByteArray) (x1 : List ByteArray) (n : Nat) (v8_2 : Int) : laws_eqStringS.l8 x0 x1 (n + 1) v8_2 = laws_eqStringS.g8 x0 x1 (laws_eqStringS.l8 x0 x1 n) v8_2 := rfl
noncomputable abbrev laws_eqStringS.b (x0 : List ByteArray) (x1 : List ByteArray) (L8 : Int → Option Bool) : Option Bool :=
  bif (x0.length : Int) != (x1.length : Int) then
  some false
else L8 (0 : Int)
noncomputable def laws_eqStringS (x0 : List ByteArray) (x1 : List ByteArray) : Option Bool :=
  laws_eqStringS.b x0 x1 (laws_eqStringS.l8 x0 x1 V.KK)
noncomputable def laws_eqEntry (x0 : TEntry) (x1 : TEntry) : Option Bool :=
  bif !(x0.1.toList == x1.1.toList) then
  some false
else
  bif x0.2.1 != x1.2.1 then
    some false
  else
    bif x0.2.2.1 != x1.2.2.1 then
      some false
    else
      (laws_eqStringS x0.2.2.2 x1.2.2.2).bind fun y1 =>
        bif !y1 then
          some false
        else some true
noncomputable def laws_eqProof (x0 : TProof) (x1 : TProof) : Option Bool :=
  bif x0.1 != x1.1 then
  some false
else
  (laws_eqIntS x0.2 x1.2).bind fun y1 =>
    bif !y1 then
      some false
    else some true
noncomputable def laws_eqGap (x0 : TGap) (x1 : TGap) : Option Bool :=
  bif (Gap_At x0) != (Gap_At x1) then
  some false
else
  (laws_eqEntry (Gap_Before x0) (Gap_Before x1)).bind fun y1 =>
    bif !y1 then
      some false
    else
      (laws_eqEntry (Gap_After x0) (Gap_After x1)).bind fun y2 =>
        bif !y2 then
          some false
        else
          (laws_eqProof (Gap_Left x0) (Gap_Left x1)).bind fun y3 =>
            bif !y3 then
              some false
            else
              (laws_eqProof (Gap_Right x0) (Gap_Right x1)).bind fun y4 =>
                bif !y4 then
                  some false
                else some true
noncomputable def laws_eqAnswer (x0 : TAnswer) (x1 : TAnswer) : Option Bool :=
  (laws_eqSignedS (Answer_Chain x0) (Answer_Chain x1)).bind fun y1 =>
  bif !y1 then
    some false
  else
    bif !((Answer_Found x0) == (Answer_Found x1)) then
      some false
    else
      (laws_eqEntry (Answer_Entry x0) (Answer_Entry x1)).bind fun y2 =>
        bif !y2 then
          some false
        else
          (laws_eqProof (Answer_Proof x0) (Answer_Proof x1)).bind fun y3 =>
            bif !y3 then
              some false
            else
              (laws_eqGap (Answer_Gap x0) (Answer_Gap x1)).bind fun y4 =>
                bif !y4 then
                  some false
                else some true
noncomputable def laws_FnExactCheckAnswer (x0 : Int) (x1 : ByteArray) (x2 : TAnswer) (x3 : Int) : Option Bool :=
  bif decide ((x1.size : Int) > (1048576 : Int)) then
  some true
else
  (laws_szAnswer x2 (1048576 : Int)).bind fun y1 =>
    bif decide (y1 < (0 : Int)) then
      some true
    else
      (laws_toAnswer x2).bind fun y2 =>
        (spec_CheckAnswer x0 x1 y2 x3).bind fun y3 =>
          (laws_toAnswer x2).bind fun y4 =>
            (impl_CheckAnswer x0 x1 y4 x3).bind fun y5 =>
              bif y5 != y3 then
                some false
              else
                (laws_toAnswer x2).bind fun y6 =>
                  (laws_eqAnswer y4 y6).bind fun y7 =>
                    bif !y7 then
                      some false
                    else some true
end Go.Proofs.YtpioofmdambjoaaGreat
