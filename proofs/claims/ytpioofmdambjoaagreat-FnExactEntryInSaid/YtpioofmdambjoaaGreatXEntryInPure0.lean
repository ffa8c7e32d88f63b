/- What the functions compute: printed from their code by the evaluator. -/
import Derived.Test.YtpioofmdambjoaaGreatVE
namespace Go.Proofs.YtpioofmdambjoaaGreat
set_option linter.unusedVariables false
abbrev TKeys : Type := List Int × Int
abbrev dKeys : TKeys := ([], (0 : Int))
abbrev THead : Type := Int × Int × Int × Int × Int × Int × Int × Int × List Int × Int × List Int × Int × Int × List Int × Int × Bool
abbrev dHead : THead := ((0 : Int), (0 : Int), (0 : Int), (0 : Int), (0 : Int), (0 : Int), (0 : Int), (0 : Int), [], (0 : Int), [], (0 : Int), (0 : Int), [], (0 : Int), false)
def Head_Zone (x : THead) : Int := x.1
def Head_Epoch (x : THead) : Int := x.2.1
def Head_Kind (x : THead) : Int := x.2.2.1
def Head_Time (x : THead) : Int := x.2.2.2.1
def Head_Until (x : THead) : Int := x.2.2.2.2.1
def Head_Count (x : THead) : Int := x.2.2.2.2.2.1
def Head_Root (x : THead) : Int := x.2.2.2.2.2.2.1
def Head_Prev (x : THead) : Int := x.2.2.2.2.2.2.2.1
def Head_Keys (x : THead) : TKeys := (x.2.2.2.2.2.2.2.2.1, x.2.2.2.2.2.2.2.2.2.1)
def Head_Heirs (x : THead) : TKeys := (x.2.2.2.2.2.2.2.2.2.2.1, x.2.2.2.2.2.2.2.2.2.2.2.1)
def Head_Wait (x : THead) : Int := x.2.2.2.2.2.2.2.2.2.2.2.2.1
def Head_Judge (x : THead) : TKeys := (x.2.2.2.2.2.2.2.2.2.2.2.2.2.1, x.2.2.2.2.2.2.2.2.2.2.2.2.2.2.1)
def Head_Frozen (x : THead) : Bool := x.2.2.2.2.2.2.2.2.2.2.2.2.2.2.2
def Head_mk (a0 : Int) (a1 : Int) (a2 : Int) (a3 : Int) (a4 : Int) (a5 : Int) (a6 : Int) (a7 : Int) (a8 : TKeys) (a9 : TKeys) (a10 : Int) (a11 : TKeys) (a12 : Bool) : THead := (a0, a1, a2, a3, a4, a5, a6, a7, a8.1, a8.2, a9.1, a9.2, a10, a11.1, a11.2, a12)
theorem Head_s : ∀ (a0 : Int) (a1 : Int) (a2 : Int) (a3 : Int) (a4 : Int) (a5 : Int) (a6 : Int) (a7 : Int) (a8 : TKeys) (a9 : TKeys) (a10 : Int) (a11 : TKeys) (a12 : Bool), Head_Zone (Head_mk a0 a1 a2 a3 a4 a5 a6 a7 a8 a9 a10 a11 a12) = a0 ∧ Head_Epoch (Head_mk a0 a1 a2 a3 a4 a5 a6 a7 a8 a9 a10 a11 a12) = a1 ∧ Head_Kind (Head_mk a0 a1 a2 a3 a4 a5 a6 a7 a8 a9 a10 a11 a12) = a2 ∧ Head_Time (Head_mk a0 a1 a2 a3 a4 a5 a6 a7 a8 a9 a10 a11 a12) = a3 ∧ Head_Until (Head_mk a0 a1 a2 a3 a4 a5 a6 a7 a8 a9 a10 a11 a12) = a4 ∧ Head_Count (Head_mk a0 a1 a2 a3 a4 a5 a6 a7 a8 a9 a10 a11 a12) = a5 ∧ Head_Root (Head_mk a0 a1 a2 a3 a4 a5 a6 a7 a8 a9 a10 a11 a12) = a6 ∧ Head_Prev (Head_mk a0 a1 a2 a3 a4 a5 a6 a7 a8 a9 a10 a11 a12) = a7 ∧ Head_Keys (Head_mk a0 a1 a2 a3 a4 a5 a6 a7 a8 a9 a10 a11 a12) = a8 ∧ Head_Heirs (Head_mk a0 a1 a2 a3 a4 a5 a6 a7 a8 a9 a10 a11 a12) = a9 ∧ Head_Wait (Head_mk a0 a1 a2 a3 a4 a5 a6 a7 a8 a9 a10 a11 a12) = a10 ∧ Head_Judge (Head_mk a0 a1 a2 a3 a4 a5 a6 a7 a8 a9 a10 a11 a12) = a11 ∧ Head_Frozen (Head_mk a0 a1 a2 a3 a4 a5 a6 a7 a8 a9 a10 a11 a12) = a12 := fun a0 a1 a2 a3 a4 a5 a6 a7 a8 a9 a10 a11 a12 => ⟨rfl, rfl, rfl, rfl, rfl, rfl, rfl, rfl, rfl, rfl, rfl, rfl, rfl⟩
theorem Head_e (x : THead) : Head_mk (Head_Zone x) (Head_Epoch x) (Head_Kind x) (Head_Time x) (Head_Until x) (Head_Count x) (Head_Root x) (Head_Prev x) (Head_Keys x) (Head_Heirs x) (Head_Wait x) (Head_Judge x) (Head_Frozen x) = x := id rfl
theorem Head_d : Head_Zone dHead = (0 : Int) ∧ Head_Epoch dHead = (0 : Int) ∧ Head_Kind dHead = (0 : Int) ∧ Head_Time dHead = (0 : Int) ∧ Head_Until dHead = (0 : Int) ∧ Head_Count dHead = (0 : Int) ∧ Head_Root dHead = (0 : Int) ∧ Head_Prev dHead = (0 : Int) ∧ Head_Keys dHead = dKeys ∧ Head_Heirs dHead = dKeys ∧ Head_Wait dHead = (0 : Int) ∧ Head_Judge dHead = dKeys ∧ Head_Frozen dHead = false := ⟨rfl, rfl, rfl, rfl, rfl, rfl, rfl, rfl, rfl, rfl, rfl, rfl, rfl⟩
abbrev TSig : Type := Int × Int
abbrev dSig : TSig := ((0 : Int), (0 : Int))
abbrev TSigned : Type := Int × Int × Int × Int × Int × Int × Int × Int × List Int × Int × List Int × Int × Int × List Int × Int × Bool × List TSig
abbrev dSigned : TSigned := ((0 : Int), (0 : Int), (0 : Int), (0 : Int), (0 : Int), (0 : Int), (0 : Int), (0 : Int), [], (0 : Int), [], (0 : Int), (0 : Int), [], (0 : Int), false, [])
def Signed_Head (x : TSigned) : THead := (x.1, x.2.1, x.2.2.1, x.2.2.2.1, x.2.2.2.2.1, x.2.2.2.2.2.1, x.2.2.2.2.2.2.1, x.2.2.2.2.2.2.2.1, x.2.2.2.2.2.2.2.2.1, x.2.2.2.2.2.2.2.2.2.1, x.2.2.2.2.2.2.2.2.2.2.1, x.2.2.2.2.2.2.2.2.2.2.2.1, x.2.2.2.2.2.2.2.2.2.2.2.2.1, x.2.2.2.2.2.2.2.2.2.2.2.2.2.1, x.2.2.2.2.2.2.2.2.2.2.2.2.2.2.1, x.2.2.2.2.2.2.2.2.2.2.2.2.2.2.2.1)
def Signed_Sigs (x : TSigned) : List TSig := x.2.2.2.2.2.2.2.2.2.2.2.2.2.2.2.2
def Signed_mk (a0 : THead) (a1 : List TSig) : TSigned := (a0.1, a0.2.1, a0.2.2.1, a0.2.2.2.1, a0.2.2.2.2.1, a0.2.2.2.2.2.1, a0.2.2.2.2.2.2.1, a0.2.2.2.2.2.2.2.1, a0.2.2.2.2.2.2.2.2.1, a0.2.2.2.2.2.2.2.2.2.1, a0.2.2.2.2.2.2.2.2.2.2.1, a0.2.2.2.2.2.2.2.2.2.2.2.1, a0.2.2.2.2.2.2.2.2.2.2.2.2.1, a0.2.2.2.2.2.2.2.2.2.2.2.2.2.1, a0.2.2.2.2.2.2.2.2.2.2.2.2.2.2.1, a0.2.2.2.2.2.2.2.2.2.2.2.2.2.2.2, a1)
theorem Signed_s : ∀ (a0 : THead) (a1 : List TSig), Signed_Head (Signed_mk a0 a1) = a0 ∧ Signed_Sigs (Signed_mk a0 a1) = a1 := fun a0 a1 => ⟨rfl, rfl⟩
theorem Signed_e (x : TSigned) : Signed_mk (Signed_Head x) (Signed_Sigs x) = x := id rfl
theorem Signed_d : Signed_Head dSigned = dHead ∧ Signed_Sigs dSigned = [] := ⟨rfl, rfl⟩
abbrev TEntry : Type := ByteArray × Int × Int × List ByteArray
abbrev dEntry : TEntry := ((⟨#[]⟩ : ByteArray), (0 : Int), (0 : Int), [])
abbrev TProof : Type := Int × List Int
abbrev dProof : TProof := ((0 : Int), [])
abbrev TGap : Type := Int × ByteArray × Int × Int × List ByteArray × ByteArray × Int × Int × List ByteArray × Int × List Int × Int × List Int
abbrev dGap : TGap := ((0 : Int), (⟨#[]⟩ : ByteArray), (0 : Int), (0 : Int), [], (⟨#[]⟩ : ByteArray), (0 : Int), (0 : Int), [], (0 : Int), [], (0 : Int), [])
def Gap_At (x : TGap) : Int := x.1
def Gap_Before (x : TGap) : TEntry := (x.2.1, x.2.2.1, x.2.2.2.1, x.2.2.2.2.1)
def Gap_After (x : TGap) : TEntry := (x.2.2.2.2.2.1, x.2.2.2.2.2.2.1, x.2.2.2.2.2.2.2.1, x.2.2.2.2.2.2.2.2.1)
def Gap_Left (x : TGap) : TProof := (x.2.2.2.2.2.2.2.2.2.1, x.2.2.2.2.2.2.2.2.2.2.1)
def Gap_Right (x : TGap) : TProof := (x.2.2.2.2.2.2.2.2.2.2.2.1, x.2.2.2.2.2.2.2.2.2.2.2.2)
def Gap_mk (a0 : Int) (a1 : TEntry) (a2 : TEntry) (a3 : TProof) (a4 : TProof) : TGap := (a0, a1.1, a1.2.1, a1.2.2.1, a1.2.2.2, a2.1, a2.2.1, a2.2.2.1, a2.2.2.2, a3.1, a3.2, a4.1, a4.2)
theorem Gap_s : ∀ (a0 : Int) (a1 : TEntry) (a2 : TEntry) (a3 : TProof) (a4 : TProof), Gap_At (Gap_mk a0 a1 a2 a3 a4) = a0 ∧ Gap_Before (Gap_mk a0 a1 a2 a3 a4) = a1 ∧ Gap_After (Gap_mk a0 a1 a2 a3 a4) = a2 ∧ Gap_Left (Gap_mk a0 a1 a2 a3 a4) = a3 ∧ Gap_Right (Gap_mk a0 a1 a2 a3 a4) = a4 := fun a0 a1 a2 a3 a4 => ⟨rfl, rfl, rfl, rfl, rfl⟩
theorem Gap_e (x : TGap) : Gap_mk (Gap_At x) (Gap_Before x) (Gap_After x) (Gap_Left x) (Gap_Right x) = x := id rfl
theorem Gap_d : Gap_At dGap = (0 : Int) ∧ Gap_Before dGap = dEntry ∧ Gap_After dGap = dEntry ∧ Gap_Left dGap = dProof ∧ Gap_Right dGap = dProof := ⟨rfl, rfl, rfl, rfl, rfl⟩
abbrev TAnswer : Type := List TSigned × Bool × ByteArray × Int × Int × List ByteArray × Int × List Int × Int × ByteArray × Int × Int × List ByteArray × ByteArray × Int × Int × List ByteArray × Int × List Int × Int × List Int
abbrev dAnswer : TAnswer := ([], false, (⟨#[]⟩ : ByteArray), (0 : Int), (0 : Int), [], (0 : Int), [], (0 : Int), (⟨#[]⟩ : ByteArray), (0 : Int), (0 : Int), [], (⟨#[]⟩ : ByteArray), (0 : Int), (0 : Int), [], (0 : Int), [], (0 : Int), [])
def Answer_Chain (x : TAnswer) : List TSigned := x.1
def Answer_Found (x : TAnswer) : Bool := x.2.1
def Answer_Entry (x : TAnswer) : TEntry := (x.2.2.1, x.2.2.2.1, x.2.2.2.2.1, x.2.2.2.2.2.1)
def Answer_Proof (x : TAnswer) : TProof := (x.2.2.2.2.2.2.1, x.2.2.2.2.2.2.2.1)
def Answer_Gap (x : TAnswer) : TGap := (x.2.2.2.2.2.2.2.2.1, x.2.2.2.2.2.2.2.2.2.1, x.2.2.2.2.2.2.2.2.2.2.1, x.2.2.2.2.2.2.2.2.2.2.2.1, x.2.2.2.2.2.2.2.2.2.2.2.2.1, x.2.2.2.2.2.2.2.2.2.2.2.2.2.1, x.2.2.2.2.2.2.2.2.2.2.2.2.2.2.1, x.2.2.2.2.2.2.2.2.2.2.2.2.2.2.2.1, x.2.2.2.2.2.2.2.2.2.2.2.2.2.2.2.2.1, x.2.2.2.2.2.2.2.2.2.2.2.2.2.2.2.2.2.1, x.2.2.2.2.2.2.2.2.2.2.2.2.2.2.2.2.2.2.1, x.2.2.2.2.2.2.2.2.2.2.2.2.2.2.2.2.2.2.2.1, x.2.2.2.2.2.2.2.2.2.2.2.2.2.2.2.2.2.2.2.2)
def Answer_mk (a0 : List TSigned) (a1 : Bool) (a2 : TEntry) (a3 : TProof) (a4 : TGap) : TAnswer := (a0, a1, a2.1, a2.2.1, a2.2.2.1, a2.2.2.2, a3.1, a3.2, a4.1, a4.2.1, a4.2.2.1, a4.2.2.2.1, a4.2.2.2.2.1, a4.2.2.2.2.2.1, a4.2.2.2.2.2.2.1, a4.2.2.2.2.2.2.2.1, a4.2.2.2.2.2.2.2.2.1, a4.2.2.2.2.2.2.2.2.2.1, a4.2.2.2.2.2.2.2.2.2.2.1, a4.2.2.2.2.2.2.2.2.2.2.2.1, a4.2.2.2.2.2.2.2.2.2.2.2.2)
theorem Answer_s : ∀ (a0 : List TSigned) (a1 : Bool) (a2 : TEntry) (a3 : TProof) (a4 : TGap), Answer_Chain (Answer_mk a0 a1 a2 a3 a4) = a0 ∧ Answer_Found (Answer_mk a0 a1 a2 a3 a4) = a1 ∧ Answer_Entry (Answer_mk a0 a1 a2 a3 a4) = a2 ∧ Answer_Proof (Answer_mk a0 a1 a2 a3 a4) = a3 ∧ Answer_Gap (Answer_mk a0 a1 a2 a3 a4) = a4 := fun a0 a1 a2 a3 a4 => ⟨rfl, rfl, rfl, rfl, rfl⟩
theorem Answer_e (x : TAnswer) : Answer_mk (Answer_Chain x) (Answer_Found x) (Answer_Entry x) (Answer_Proof x) (Answer_Gap x) = x := id rfl
theorem Answer_d : Answer_Chain dAnswer = [] ∧ Answer_Found dAnswer = false ∧ Answer_Entry dAnswer = dEntry ∧ Answer_Proof dAnswer = dProof ∧ Answer_Gap dAnswer = dGap := ⟨rfl, rfl, rfl, rfl, rfl⟩
abbrev TRHeadBool : Type := Int × Int × Int × Int × Int × Int × Int × Int × List Int × Int × List Int × Int × Int × List Int × Int × Bool × Bool
abbrev dRHeadBool : TRHeadBool := ((0 : Int), (0 : Int), (0 : Int), (0 : Int), (0 : Int), (0 : Int), (0 : Int), (0 : Int), [], (0 : Int), [], (0 : Int), (0 : Int), [], (0 : Int), false, false)
def RHeadBool_r0 (x : TRHeadBool) : THead := (x.1, x.2.1, x.2.2.1, x.2.2.2.1, x.2.2.2.2.1, x.2.2.2.2.2.1, x.2.2.2.2.2.2.1, x.2.2.2.2.2.2.2.1, x.2.2.2.2.2.2.2.2.1, x.2.2.2.2.2.2.2.2.2.1, x.2.2.2.2.2.2.2.2.2.2.1, x.2.2.2.2.2.2.2.2.2.2.2.1, x.2.2.2.2.2.2.2.2.2.2.2.2.1, x.2.2.2.2.2.2.2.2.2.2.2.2.2.1, x.2.2.2.2.2.2.2.2.2.2.2.2.2.2.1, x.2.2.2.2.2.2.2.2.2.2.2.2.2.2.2.1)
def RHeadBool_r1 (x : TRHeadBool) : Bool := x.2.2.2.2.2.2.2.2.2.2.2.2.2.2.2.2
def RHeadBool_mk (a0 : THead) (a1 : Bool) : TRHeadBool := (a0.1, a0.2.1, a0.2.2.1, a0.2.2.2.1, a0.2.2.2.2.1, a0.2.2.2.2.2.1, a0.2.2.2.2.2.2.1, a0.2.2.2.2.2.2.2.1, a0.2.2.2.2.2.2.2.2.1, a0.2.2.2.2.2.2.2.2.2.1, a0.2.2.2.2.2.2.2.2.2.2.1, a0.2.2.2.2.2.2.2.2.2.2.2.1, a0.2.2.2.2.2.2.2.2.2.2.2.2.1, a0.2.2.2.2.2.2.2.2.2.2.2.2.2.1, a0.2.2.2.2.2.2.2.2.2.2.2.2.2.2.1, a0.2.2.2.2.2.2.2.2.2.2.2.2.2.2.2, a1)
theorem RHeadBool_s : ∀ (a0 : THead) (a1 : Bool), RHeadBool_r0 (RHeadBool_mk a0 a1) = a0 ∧ RHeadBool_r1 (RHeadBool_mk a0 a1) = a1 := fun a0 a1 => ⟨rfl, rfl⟩
theorem RHeadBool_e (x : TRHeadBool) : RHeadBool_mk (RHeadBool_r0 x) (RHeadBool_r1 x) = x := id rfl
theorem RHeadBool_d : RHeadBool_r0 dRHeadBool = dHead ∧ RHeadBool_r1 dRHeadBool = false := ⟨rfl, rfl⟩
abbrev TREntryBool : Type := ByteArray × Int × Int × List ByteArray × Bool
abbrev dREntryBool : TREntryBool := ((⟨#[]⟩ : ByteArray), (0 : Int), (0 : Int), [], false)
def REntryBool_r0 (x : TREntryBool) : TEntry := (x.1, x.2.1, x.2.2.1, x.2.2.2.1)
def REntryBool_r1 (x : TREntryBool) : Bool := x.2.2.2.2
def REntryBool_mk (a0 : TEntry) (a1 : Bool) : TREntryBool := (a0.1, a0.2.1, a0.2.2.1, a0.2.2.2, a1)
theorem REntryBool_s : ∀ (a0 : TEntry) (a1 : Bool), REntryBool_r0 (REntryBool_mk a0 a1) = a0 ∧ REntryBool_r1 (REntryBool_mk a0 a1) = a1 := fun a0 a1 => ⟨rfl, rfl⟩
theorem REntryBool_e (x : TREntryBool) : REntryBool_mk (REntryBool_r0 x) (REntryBool_r1 x) = x := id rfl
theorem REntryBool_d : REntryBool_r0 dREntryBool = dEntry ∧ REntryBool_r1 dREntryBool = false := ⟨rfl, rfl⟩
noncomputable def zq98 (x0 : List Int) (x1 : Int) : Option Int :=
  bif decide ((IntKind.i64.wrap (x1 - (x0.length : Int))) < (0 : Int)) then
  some (-1 : Int)
else some (IntKind.i64.wrap (x1 - (x0.length : Int)))
noncomputable def zq99 (x0 : TKeys) (x1 : Int) : Option Int :=
  (zq98 x0.1 x1).bind fun y1 =>
  bif decide (y1 < (0 : Int)) then
    some (-1 : Int)
  else some y1
noncomputable def zq97 (x0 : THead) (x1 : Int) : Option Int :=
  (zq99 (Head_Keys x0) x1).bind fun y1 =>
  bif decide (y1 < (0 : Int)) then
    some (-1 : Int)
  else
    (zq99 (Head_Heirs x0) y1).bind fun y2 =>
      bif decide (y2 < (0 : Int)) then
        some (-1 : Int)
      else
        (zq99 (Head_Judge x0) y2).bind fun y3 =>
          bif decide (y3 < (0 : Int)) then
            some (-1 : Int)
          else some y3
noncomputable def zq101 (x0 : List TSig) (x1 : Int) : Option Int :=
  bif decide ((IntKind.i64.wrap (x1 - (x0.length : Int))) < (0 : Int)) then
  some (-1 : Int)
else some (IntKind.i64.wrap (x1 - (x0.length : Int)))
noncomputable def zq102 (x0 : TSigned) (x1 : Int) : Option Int :=
  (zq97 (Signed_Head x0) x1).bind fun y1 =>
  bif decide (y1 < (0 : Int)) then
    some (-1 : Int)
  else
    (zq101 (Signed_Sigs x0) y1).bind fun y2 =>
      bif decide (y2 < (0 : Int)) then
        some (-1 : Int)
      else some y2
noncomputable abbrev zq103.g10 (x0 : List TSigned) (r10 : Int → Int → Option Int) (v10_1 : Int) (v10_2 : Int) : Option Int :=
  bif decide (v10_2 < (x0.length : Int)) then
  bif decide (0 ≤ v10_2) then
    bif decide (v10_2 < (x0.length : Int)) then
      (zq102 (x0.getD v10_2.toNat dSigned) v10_1).bind fun y1 =>
        bif decide (y1 < (0 : Int)) then
          some (-1 : Int)
        else r10 y1 (IntKind.i64.wrap (v10_2 + (1 : Int)))
    else none
  else none
else some v10_1
noncomputable def zq103.l10 (x0 : List TSigned) (n : Nat) : Int → Int → Option Int :=
  V.iter (fun (r10 : Int → Int → Option Int) => fun v10_1 v10_2 => zq103.g10 x0 r10 v10_1 v10_2) (fun _ _ => none) n
theorem zq103.u10 (x0 : List TSigned) (n : Nat) (v10_1 : Int) (v10_2 : Int) : zq103.l10 x0 (n + 1) v10_1 v10_2 = zq103.g10 x0 (zq103.l10 x0 n) v10_1 v10_2 := rfl
noncomputable abbrev zq103.b (x0 : List TSigned) (x1 : Int) (L10 : Int → Int → Option Int) : Option Int :=
  bif decide ((IntKind.i64.wrap (x1 - (x0.length : Int))) < (0 : Int)) then
  some (-1 : Int)
else L10 (IntKind.i64.wrap (x1 - (x0.length : Int))) (0 : Int)
noncomputable def zq103 (x0 : List TSigned) (x1 : Int) : Option Int :=
  zq103.b x0 x1 (zq103.l10 x0 V.KK)
noncomputable abbrev zq104.g10 (x0 : List ByteArray) (r10 : Int → Int → Option Int) (v10_1 : Int) (v10_2 : Int) : Option Int :=
  bif decide (v10_2 < (x0.length : Int)) then
  bif decide (0 ≤ v10_2) then
    bif decide (v10_2 < (x0.length : Int)) then
      bif decide ((IntKind.i64.wrap (v10_1 - ((x0.getD v10_2.toNat (⟨#[]⟩ : ByteArray)).size : Int))) < (0 : Int)) then
        some (-1 : Int)
      else r10 (IntKind.i64.wrap (v10_1 - ((x0.getD v10_2.toNat (⟨#[]⟩ : ByteArray)).size : Int))) (IntKind.i64.wrap (v10_2 + (1 : Int)))
    else none
  else none
else some v10_1
noncomputable def zq104.l10 (x0 : List ByteArray) (n : Nat) : Int → Int → Option Int :=
  V.iter (fun (r10 : Int → Int → Option Int) => fun v10_1 v10_2 => zq104.g10 x0 r10 v10_1 v10_2) (fun _ _ => none) n
theorem zq104.u10 (x0 : List ByteArray) (n : Nat) (v10_1 : Int) (v10_2 : Int) : zq104.l10 x0 (n + 1) v10_1 v10_2 = zq104.g10 x0 (zq104.l10 x0 n) v10_1 v10_2 := rfl
noncomputable abbrev zq104.b (x0 : List ByteArray) (x1 : Int) (L10 : Int → Int → Option Int) : Option Int :=
  bif decide ((IntKind.i64.wrap (x1 - (x0.length : Int))) < (0 : Int)) then
  some (-1 : Int)
else L10 (IntKind.i64.wrap (x1 - (x0.length : Int))) (0 : Int)
noncomputable def zq104 (x0 : List ByteArray) (x1 : Int) : Option Int :=
  zq104.b x0 x1 (zq104.l10 x0 V.KK)
noncomputable def zq95 (x0 : TEntry) (x1 : Int) : Option Int :=
  bif decide ((IntKind.i64.wrap (x1 - (x0.1.size : Int))) < (0 : Int)) then
  some (-1 : Int)
else
  (zq104 x0.2.2.2 (IntKind.i64.wrap (x1 - (x0.1.size : Int)))).bind fun y1 =>
    bif decide (y1 < (0 : Int)) then
      some (-1 : Int)
    else some y1
noncomputable def zq100 (x0 : TProof) (x1 : Int) : Option Int :=
  (zq98 x0.2 x1).bind fun y1 =>
  bif decide (y1 < (0 : Int)) then
    some (-1 : Int)
  else some y1
noncomputable def zq96 (x0 : TGap) (x1 : Int) : Option Int :=
  (zq95 (Gap_Before x0) x1).bind fun y1 =>
  bif decide (y1 < (0 : Int)) then
    some (-1 : Int)
  else
    (zq95 (Gap_After x0) y1).bind fun y2 =>
      bif decide (y2 < (0 : Int)) then
        some (-1 : Int)
      else
        (zq100 (Gap_Left x0) y2).bind fun y3 =>
          bif decide (y3 < (0 : Int)) then
            some (-1 : Int)
          else
            (zq100 (Gap_Right x0) y3).bind fun y4 =>
              bif decide (y4 < (0 : Int)) then
                some (-1 : Int)
              else some y4
noncomputable def zq94 (x0 : TAnswer) (x1 : Int) : Option Int :=
  (zq103 (Answer_Chain x0) x1).bind fun y1 =>
  bif decide (y1 < (0 : Int)) then
    some (-1 : Int)
  else
    (zq95 (Answer_Entry x0) y1).bind fun y2 =>
      bif decide (y2 < (0 : Int)) then
        some (-1 : Int)
      else
        (zq100 (Answer_Proof x0) y2).bind fun y3 =>
          bif decide (y3 < (0 : Int)) then
            some (-1 : Int)
          else
            (zq96 (Answer_Gap x0) y3).bind fun y4 =>
              bif decide (y4 < (0 : Int)) then
                some (-1 : Int)
              else some y4
noncomputable abbrev zq109.g6 (x0 : List Int) (r6 : Int → (List Int) → Option (List Int)) (v6_1 : Int) (v6_2 : List Int) : Option (List Int) :=
  bif decide (v6_1 < (x0.length : Int)) then
  bif decide (0 ≤ v6_1) then
    bif decide (v6_1 < (x0.length : Int)) then
      bif decide (0 ≤ v6_1) then
        bif decide (v6_1 < (v6_2.length : Int)) then
          r6 (IntKind.i64.wrap (v6_1 + (1 : Int))) (v6_2.set v6_1.toNat (x0.getD v6_1.toNat (0 : Int)))
        else none
      else none
    else none
  else none
else some v6_2
noncomputable def zq109.l6 (x0 : List Int) (n : Nat) : Int → (List Int) → Option (List Int) :=
  V.iter (fun (r6 : Int → (List Int) → Option (List Int)) => fun v6_1 v6_2 => zq109.g6 x0 r6 v6_1 v6_2) (fun _ _ => none) n
theorem zq109.u6 (x0 : List Int) (n : Nat) (v6_1 : Int) (v6_2 : List Int) : zq109.l6 x0 (n + 1) v6_1 v6_2 = zq109.g6 x0 (zq109.l6 x0 n) v6_1 v6_2 := rfl
noncomputable abbrev zq109.b (x0 : List Int) (L6 : Int → (List Int) → Option (List Int)) : Option (List Int) :=
  bif ((x0.length : Int) == (x0.length : Int)) then
  bif decide (0 ≤ (x0.length : Int)) then
    bif decide ((x0.length : Int) < (68719476736 : Int)) then
      L6 (0 : Int) (List.replicate ((x0.length : Int).toNat) (0 : Int))
    else none
  else none
else none
noncomputable def zq109 (x0 : List Int) : Option (List Int) :=
  zq109.b x0 (zq109.l6 x0 V.KK)
noncomputable def zq110 (x0 : TKeys) : Option TKeys :=
  (zq109 x0.1).bind fun y1 =>
  some (y1, x0.2)
noncomputable def zq108 (x0 : THead) : Option THead :=
  (zq110 (Head_Keys x0)).bind fun y1 =>
  (zq110 (Head_Heirs x0)).bind fun y2 =>
    (zq110 (Head_Judge x0)).bind fun y3 =>
      some (Head_mk (Head_Zone x0) (Head_Epoch x0) (Head_Kind x0) (Head_Time x0) (Head_Until x0) (Head_Count x0) (Head_Root x0) (Head_Prev x0) y1 y2 (Head_Wait x0) y3 (Head_Frozen x0))
noncomputable def zq112 (x0 : TSig) : Option TSig :=
  some x0
noncomputable abbrev zq113.g6 (x0 : List TSig) (r6 : Int → (List TSig) → Option (List TSig)) (v6_1 : Int) (v6_2 : List TSig) : Option (List TSig) :=
  bif decide (v6_1 < (x0.length : Int)) then
  bif decide (0 ≤ v6_1) then
    bif decide (v6_1 < (x0.length : Int)) then
      (zq112 (x0.getD v6_1.toNat dSig)).bind fun y1 =>
        bif decide (0 ≤ v6_1) then
          bif decide (v6_1 < (v6_2.length : Int)) then
            r6 (IntKind.i64.wrap (v6_1 + (1 : Int))) (v6_2.set v6_1.toNat y1)
          else none
        else none
    else none
  else none
else some v6_2
noncomputable def zq113.l6 (x0 : List TSig) (n : Nat) : Int → (List TSig) → Option (List TSig) :=
  V.iter (fun (r6 : Int → (List TSig) → Option (List TSig)) => fun v6_1 v6_2 => zq113.g6 x0 r6 v6_1 v6_2) (fun _ _ => none) n
theorem zq113.u6 (x0 : List TSig) (n : Nat) (v6_1 : Int) (v6_2 : List TSig) : zq113.l6 x0 (n + 1) v6_1 v6_2 = zq113.g6 x0 (zq113.l6 x0 n) v6_1 v6_2 := rfl
noncomputable abbrev zq113.b (x0 : List TSig) (L6 : Int → (List TSig) → Option (List TSig)) : Option (List TSig) :=
  bif ((x0.length : Int) == (x0.length : Int)) then
  bif decide (0 ≤ (x0.length : Int)) then
    bif decide ((x0.length : Int) < (68719476736 : Int)) then
      L6 (0 : Int) (List.replicate ((x0.length : Int).toNat) dSig)
    else none
  else none
else none
noncomputable def zq113 (x0 : List TSig) : Option (List TSig) :=
  zq113.b x0 (zq113.l6 x0 V.KK)
noncomputable def zq114 (x0 : TSigned) : Option TSigned :=
  (zq108 (Signed_Head x0)).bind fun y1 =>
  (zq113 (Signed_Sigs x0)).bind fun y2 =>
    some (Signed_mk y1 y2)
noncomputable abbrev zq115.g6 (x0 : List TSigned) (r6 : Int → (List TSigned) → Option (List TSigned)) (v6_1 : Int) (v6_2 : List TSigned) : Option (List TSigned) :=
  bif decide (v6_1 < (x0.length : Int)) then
  bif decide (0 ≤ v6_1) then
    bif decide (v6_1 < (x0.length : Int)) then
      (zq114 (x0.getD v6_1.toNat dSigned)).bind fun y1 =>
        bif decide (0 ≤ v6_1) then
          bif decide (v6_1 < (v6_2.length : Int)) then
            r6 (IntKind.i64.wrap (v6_1 + (1 : Int))) (v6_2.set v6_1.toNat y1)
          else none
        else none
    else none
  else none
else some v6_2
noncomputable def zq115.l6 (x0 : List TSigned) (n : Nat) : Int → (List TSigned) → Option (List TSigned) :=
  V.iter (fun (r6 : Int → (List TSigned) → Option (List TSigned)) => fun v6_1 v6_2 => zq115.g6 x0 r6 v6_1 v6_2) (fun _ _ => none) n
theorem zq115.u6 (x0 : List TSigned) (n : Nat) (v6_1 : Int) (v6_2 : List TSigned) : zq115.l6 x0 (n + 1) v6_1 v6_2 = zq115.g6 x0 (zq115.l6 x0 n) v6_1 v6_2 := rfl
noncomputable abbrev zq115.b (x0 : List TSigned) (L6 : Int → (List TSigned) → Option (List TSigned)) : Option (List TSigned) :=
  bif ((x0.length : Int) == (x0.length : Int)) then
  bif decide (0 ≤ (x0.length : Int)) then
    bif decide ((x0.length : Int) < (68719476736 : Int)) then
      L6 (0 : Int) (List.replicate ((x0.length : Int).toNat) dSigned)
    else none
  else none
else none
noncomputable def zq115 (x0 : List TSigned) : Option (List TSigned) :=
  zq115.b x0 (zq115.l6 x0 V.KK)
noncomputable abbrev zq116.g6 (x0 : List ByteArray) (r6 : Int → (List ByteArray) → Option (List ByteArray)) (v6_1 : Int) (v6_2 : List ByteArray) : Option (List ByteArray) :=
  bif decide (v6_1 < (x0.length : Int)) then
  bif decide (0 ≤ v6_1) then
    bif decide (v6_1 < (x0.length : Int)) then
      bif decide (0 ≤ v6_1) then
        bif decide (v6_1 < (v6_2.length : Int)) then
          r6 (IntKind.i64.wrap (v6_1 + (1 : Int))) (v6_2.set v6_1.toNat (x0.getD v6_1.toNat (⟨#[]⟩ : ByteArray)))
        else none
      else none
    else none
  else none
else some v6_2
noncomputable def zq116.l6 (x0 : List ByteArray) (n : Nat) : Int → (List ByteArray) → Option (List ByteArray) :=
  V.iter (fun (r6 : Int → (List ByteArray) → Option (List ByteArray)) => fun v6_1 v6_2 => zq116.g6 x0 r6 v6_1 v6_2) (fun _ _ => none) n
theorem zq116.u6 (x0 : List ByteArray) (n : Nat) (v6_1 : Int) (v6_2 : List ByteArray) : zq116.l6 x0 (n + 1) v6_1 v6_2 = zq116.g6 x0 (zq116.l6 x0 n) v6_1 v6_2 := rfl
noncomputable abbrev zq116.b (x0 : List ByteArray) (L6 : Int → (List ByteArray) → Option (List ByteArray)) : Option (List ByteArray) :=
  bif ((x0.length : Int) == (x0.length : Int)) then
  bif decide (0 ≤ (x0.length : Int)) then
    bif decide ((x0.length : Int) < (68719476736 : Int)) then
      L6 (0 : Int) (List.replicate ((x0.length : Int).toNat) (⟨#[]⟩ : ByteArray))
    else none
  else none
else none
noncomputable def zq116 (x0 : List ByteArray) : Option (List ByteArray) :=
  zq116.b x0 (zq116.l6 x0 V.KK)
noncomputable def zq106 (x0 : TEntry) : Option TEntry :=
  (zq116 x0.2.2.2).bind fun y1 =>
  some (x0.1, x0.2.1, x0.2.2.1, y1)
noncomputable def zq111 (x0 : TProof) : Option TProof :=
  (zq109 x0.2).bind fun y1 =>
  some (x0.1, y1)
noncomputable def zq107 (x0 : TGap) : Option TGap :=
  (zq106 (Gap_Before x0)).bind fun y1 =>
  (zq106 (Gap_After x0)).bind fun y2 =>
    (zq111 (Gap_Left x0)).bind fun y3 =>
      (zq111 (Gap_Right x0)).bind fun y4 =>
        some (Gap_mk (Gap_At x0) y1 y2 y3 y4)
noncomputable def zq105 (x0 : TAnswer) : Option TAnswer :=
  (zq115 (Answer_Chain x0)).bind fun y1 =>
  (zq106 (Answer_Entry x0)).bind fun y2 =>
    (zq111 (Answer_Proof x0)).bind fun y3 =>
      (zq107 (Answer_Gap x0)).bind fun y4 =>
        some (Answer_mk y1 (Answer_Found x0) y2 y3 y4)
noncomputable def zq179 (x0 : Int) (x1 : Int) (x2 : Int) : Option Bool :=
  bif decide (x0 ≥ x1) then
  some (decide (x0 ≤ x2))
else some false
noncomputable abbrev zq149.g4 (x0 : TKeys) (r4 : Int → Option Bool) (v4_0 : Int) : Option Bool :=
  bif decide (v4_0 < (x0.1.length : Int)) then
  bif decide (0 ≤ v4_0) then
    bif decide (v4_0 < (x0.1.length : Int)) then
      (zq179 (x0.1.getD v4_0.toNat (0 : Int)) (1 : Int) (99 : Int)).bind fun y1 =>
        bif !y1 then
          some false
        else
          bif decide (v4_0 > (0 : Int)) then
            bif decide (0 ≤ (IntKind.i64.wrap (v4_0 - (1 : Int)))) then
              bif decide ((IntKind.i64.wrap (v4_0 - (1 : Int))) < (x0.1.length : Int)) then
                bif decide (0 ≤ v4_0) then
                  bif decide (v4_0 < (x0.1.length : Int)) then
                    bif decide ((x0.1.getD ((IntKind.i64.wrap (v4_0 - (1 : Int))).toNat) (0 : Int)) ≥ (x0.1.getD v4_0.toNat (0 : Int))) then
                      some false
                    else r4 (IntKind.i64.wrap (v4_0 + (1 : Int)))
                  else none
                else none
              else none
            else none
          else r4 (IntKind.i64.wrap (v4_0 + (1 : Int)))
    else none
  else none
else
  (zq179 (x0.1.length : Int) (1 : Int) (4 : Int)).bind fun y2 =>
    bif y2 then
      (zq179 x0.2 (1 : Int) (x0.1.length : Int)).bind fun y3 =>
        some y3
    else some false
noncomputable def zq149.l4 (x0 : TKeys) (n : Nat) : Int → Option Bool :=
  V.iter (fun (r4 : Int → Option Bool) => fun v4_0 => zq149.g4 x0 r4 v4_0) (fun _ => none) n
theorem zq149.u4 (x0 : TKeys) (n : Nat) (v4_0 : Int) : zq149.l4 x0 (n + 1) v4_0 = zq149.g4 x0 (zq149.l4 x0 n) v4_0 := rfl
noncomputable abbrev zq149.b (x0 : TKeys) (L4 : Int → Option Bool) : Option Bool :=
  L4 (0 : Int)
noncomputable def zq149 (x0 : TKeys) : Option Bool :=
  zq149.b x0 (zq149.l4 x0 V.KK)
noncomputable def zq163 (x0 : TKeys) : Option Bool :=
  bif x0.2 == (0 : Int) then
  some ((x0.1.length : Int) == (0 : Int))
else some false
noncomputable abbrev zq148.g21 (x0 : THead) : Option Bool :=
  (zq149 (Head_Judge x0)).bind fun y11 =>
  bif y11 then
    some true
  else
    (zq163 (Head_Judge x0)).bind fun y12 =>
      bif y12 then
        some (!(Head_Frozen x0))
      else some false
noncomputable def zq148.l21 (x0 : THead) : Option Bool :=
  zq148.g21 x0
noncomputable abbrev zq148.g11 (x0 : THead) (L21 : Option Bool) : Option Bool :=
  (zq163 (Head_Heirs x0)).bind fun y10 =>
  bif y10 then
    bif (Head_Wait x0) != (0 : Int) then
      some false
    else L21
  else
    (zq149 (Head_Heirs x0)).bind fun y13 =>
      bif !y13 then
        some false
      else
        (zq179 (Head_Wait x0) (1 : Int) (500 : Int)).bind fun y14 =>
          bif !y14 then
            some false
          else L21
noncomputable def zq148.l11 (x0 : THead) : Option Bool :=
  zq148.g11 x0 (zq148.l21 x0)
noncomputable abbrev zq148.g7 (x0 : THead) (L11 : Option Bool) : Option Bool :=
  (zq179 (Head_Time x0) (0 : Int) (100000 : Int)).bind fun y6 =>
  bif !y6 then
    some false
  else
    (zq179 (Head_Until x0) (Head_Time x0) (100000 : Int)).bind fun y7 =>
      bif !y7 then
        some false
      else
        bif decide ((IntKind.i64.wrap ((Head_Until x0) - (Head_Time x0))) > (200 : Int)) then
          some false
        else
          (zq179 (Head_Count x0) (0 : Int) (12 : Int)).bind fun y8 =>
            bif !y8 then
              some false
            else
              (zq149 (Head_Keys x0)).bind fun y9 =>
                bif !y9 then
                  some false
                else L11
noncomputable def zq148.l7 (x0 : THead) : Option Bool :=
  zq148.g7 x0 (zq148.l11 x0)
noncomputable abbrev zq148.b (x0 : THead) (L7 : Option Bool) : Option Bool :=
  (zq179 (Head_Zone x0) (0 : Int) (2147483646 : Int)).bind fun y1 =>
  bif !y1 then
    some false
  else
    (zq179 (Head_Root x0) (0 : Int) (2147483646 : Int)).bind fun y2 =>
      bif !y2 then
        some false
      else
        (zq179 (Head_Prev x0) (0 : Int) (2147483646 : Int)).bind fun y3 =>
          bif !y3 then
            some false
          else
            (zq179 (Head_Epoch x0) (0 : Int) (200 : Int)).bind fun y4 =>
              bif !y4 then
                some false
              else
                (zq179 (Head_Kind x0) (1 : Int) (3 : Int)).bind fun y5 =>
                  bif !y5 then
                    some false
                  else L7
noncomputable def zq148 (x0 : THead) : Option Bool :=
  zq148.b x0 (zq148.l7 x0)
noncomputable def zq155 (x0 : TKeys) : Option (List Int) :=
  bif decide ([x0.2, (x0.1.length : Int)].length + x0.1.length < 68719476736) then
  some ([x0.2, (x0.1.length : Int)] ++ x0.1)
else none
noncomputable def zq161 (x0 : Int) (x1 : Int) : Option Int :=
  (zq179 x1 (1 : Int) (1000000000000 : Int)).bind fun y1 =>
  bif !y1 then
    some (0 : Int)
  else
    bif (x1 == (0 : Int)) then
      none
    else
      bif (x1 == (0 : Int)) then
        none
      else some (Int.tmod (IntKind.i64.wrap ((Int.tmod x0 x1) + x1)) x1)
noncomputable abbrev zq141.g6 (x0 : List Int) (r6 : Int → Int → Option Int) (v6_1 : Int) (v6_2 : Int) : Option Int :=
  bif decide (v6_2 < (x0.length : Int)) then
  bif decide (0 ≤ v6_2) then
    bif decide (v6_2 < (x0.length : Int)) then
      (zq161 (x0.getD v6_2.toNat (0 : Int)) (2147483647 : Int)).bind fun y1 =>
        bif ((2147483647 : Int) == (0 : Int)) then
          none
        else r6 (Int.tmod (IntKind.i64.wrap ((IntKind.i64.wrap ((IntKind.i64.wrap (v6_1 * (1000003 : Int))) + y1)) + (13 : Int))) (2147483647 : Int)) (IntKind.i64.wrap (v6_2 + (1 : Int)))
    else none
  else none
else some v6_1
noncomputable def zq141.l6 (x0 : List Int) (n : Nat) : Int → Int → Option Int :=
  V.iter (fun (r6 : Int → Int → Option Int) => fun v6_1 v6_2 => zq141.g6 x0 r6 v6_1 v6_2) (fun _ _ => none) n
theorem zq141.u6 (x0 : List Int) (n : Nat) (v6_1 : Int) (v6_2 : Int) : zq141.l6 x0 (n + 1) v6_1 v6_2 = zq141.g6 x0 (zq141.l6 x0 n) v6_1 v6_2 := rfl
noncomputable abbrev zq141.b (x0 : List Int) (L6 : Int → Int → Option Int) : Option Int :=
  L6 (11 : Int) (0 : Int)
noncomputable def zq141 (x0 : List Int) : Option Int :=
  zq141.b x0 (zq141.l6 x0 V.KK)
noncomputable def zq171 (x0 : TKeys) (x1 : Int) : Option Int :=
  (zq155 x0).bind fun y1 =>
  bif decide ([(239 : Int), x1].length + y1.length < 68719476736) then
    (zq141 ([(239 : Int), x1] ++ y1)).bind fun y2 =>
      some y2
  else none
noncomputable def zq143 (x0 : THead) : Option (List Int) :=
  (zq155 (Head_Keys x0)).bind fun y1 =>
  bif decide ([(Head_Zone x0), (Head_Epoch x0), (Head_Kind x0), (Head_Time x0), (Head_Until x0), (Head_Count x0), (Head_Root x0), (Head_Prev x0)].length + y1.length < 68719476736) then
    (zq155 (Head_Heirs x0)).bind fun y2 =>
      bif decide (([(Head_Zone x0), (Head_Epoch x0), (Head_Kind x0), (Head_Time x0), (Head_Until x0), (Head_Count x0), (Head_Root x0), (Head_Prev x0)] ++ y1).length + y2.length < 68719476736) then
        bif decide ((([(Head_Zone x0), (Head_Epoch x0), (Head_Kind x0), (Head_Time x0), (Head_Until x0), (Head_Count x0), (Head_Root x0), (Head_Prev x0)] ++ y1) ++ y2).length + [(Head_Wait x0)].length < 68719476736) then
          (zq155 (Head_Judge x0)).bind fun y3 =>
            bif decide (((([(Head_Zone x0), (Head_Epoch x0), (Head_Kind x0), (Head_Time x0), (Head_Until x0), (Head_Count x0), (Head_Root x0), (Head_Prev x0)] ++ y1) ++ y2) ++ [(Head_Wait x0)]).length + y3.length < 68719476736) then
              bif (Head_Frozen x0) then
                bif decide ((((([(Head_Zone x0), (Head_Epoch x0), (Head_Kind x0), (Head_Time x0), (Head_Until x0), (Head_Count x0), (Head_Root x0), (Head_Prev x0)] ++ y1) ++ y2) ++ [(Head_Wait x0)]) ++ y3).length + [(1 : Int)].length < 68719476736) then
                  some ((((([(Head_Zone x0), (Head_Epoch x0), (Head_Kind x0), (Head_Time x0), (Head_Until x0), (Head_Count x0), (Head_Root x0), (Head_Prev x0)] ++ y1) ++ y2) ++ [(Head_Wait x0)]) ++ y3) ++ [(1 : Int)])
                else none
              else
                bif decide ((((([(Head_Zone x0), (Head_Epoch x0), (Head_Kind x0), (Head_Time x0), (Head_Until x0), (Head_Count x0), (Head_Root x0), (Head_Prev x0)] ++ y1) ++ y2) ++ [(Head_Wait x0)]) ++ y3).length + [(0 : Int)].length < 68719476736) then
                  some ((((([(Head_Zone x0), (Head_Epoch x0), (Head_Kind x0), (Head_Time x0), (Head_Until x0), (Head_Count x0), (Head_Root x0), (Head_Prev x0)] ++ y1) ++ y2) ++ [(Head_Wait x0)]) ++ y3) ++ [(0 : Int)])
                else none
            else none
        else none
      else none
  else none
noncomputable def zq154 (x0 : Int) (x1 : List Int) : Option Int :=
  bif decide ([x0].length + x1.length < 68719476736) then
  bif decide (([x0] ++ x1).length + [x0].length < 68719476736) then
    (zq141 (([x0] ++ x1) ++ [x0])).bind fun y1 =>
      some y1
  else none
else none
noncomputable def zq168 (x0 : Int) (x1 : List Int) : Option Int :=
  bif decide ([(223 : Int)].length + x1.length < 68719476736) then
  (zq154 x0 ([(223 : Int)] ++ x1)).bind fun y1 =>
    some y1
else none
noncomputable def zq152 (x0 : TSig) (x1 : List Int) : Option Bool :=
  (zq179 x0.1 (1 : Int) (99 : Int)).bind fun y1 =>
  bif y1 then
    (zq168 x0.1 x1).bind fun y2 =>
      some (x0.2 == y2)
  else some false
noncomputable abbrev zq132.g19 (x0 : TKeys) (x1 : List Int) (x2 : List TSig) (v6_2 : Int) (v6_3 : Int) (v12_4 : Int) (r6 : Int → Int → Option Int) (r12 : Int → Option Int) (v19_5 : Bool) : Option Int :=
  bif v19_5 then
  r6 (IntKind.i64.wrap (v6_2 + (1 : Int))) (IntKind.i64.wrap (v6_3 + (1 : Int)))
else r12 (IntKind.i64.wrap (v12_4 + (1 : Int)))
noncomputable def zq132.l19 (x0 : TKeys) (x1 : List Int) (x2 : List TSig) (v6_2 : Int) (v6_3 : Int) (v12_4 : Int) (r6 : Int → Int → Option Int) (r12 : Int → Option Int) (v19_5 : Bool) : Option Int :=
  zq132.g19 x0 x1 x2 v6_2 v6_3 v12_4 r6 r12 v19_5
noncomputable abbrev zq132.g12 (x0 : TKeys) (x1 : List Int) (x2 : List TSig) (v6_2 : Int) (v6_3 : Int) (r6 : Int → Int → Option Int) (r12 : Int → Option Int) (L19 : Bool → Option Int) (v12_4 : Int) : Option Int :=
  bif decide (v12_4 < (x2.length : Int)) then
  bif decide (0 ≤ v12_4) then
    bif decide (v12_4 < (x2.length : Int)) then
      bif decide (0 ≤ v6_3) then
        bif decide (v6_3 < (x0.1.length : Int)) then
          bif (x2.getD v12_4.toNat dSig).1 == (x0.1.getD v6_3.toNat (0 : Int)) then
            bif decide (0 ≤ v12_4) then
              bif decide (v12_4 < (x2.length : Int)) then
                (zq152 (x2.getD v12_4.toNat dSig) x1).bind fun y1 =>
                  L19 y1
              else none
            else none
          else L19 false
        else none
      else none
    else none
  else none
else r6 v6_2 (IntKind.i64.wrap (v6_3 + (1 : Int)))
noncomputable def zq132.l12 (x0 : TKeys) (x1 : List Int) (x2 : List TSig) (v6_2 : Int) (v6_3 : Int) (r6 : Int → Int → Option Int) (n : Nat) : Int → Option Int :=
  V.iter (fun (r12 : Int → Option Int) => fun v12_4 => zq132.g12 x0 x1 x2 v6_2 v6_3 r6 r12 (zq132.l19 x0 x1 x2 v6_2 v6_3 v12_4 r6 r12) v12_4) (fun _ => none) n
theorem zq132.u12 (x0 : TKeys) (x1 : List Int) (x2 : List TSig) (v6_2 : Int) (v6_3 : Int) (r6 : Int → Int → Option Int) (n : Nat) (v12_4 : Int) : zq132.l12 x0 x1 x2 v6_2 v6_3 r6 (n + 1) v12_4 = zq132.g12 x0 x1 x2 v6_2 v6_3 r6 (zq132.l12 x0 x1 x2 v6_2 v6_3 r6 n) (zq132.l19 x0 x1 x2 v6_2 v6_3 v12_4 r6 (zq132.l12 x0 x1 x2 v6_2 v6_3 r6 n)) v12_4 := rfl
noncomputable abbrev zq132.g6 (x0 : TKeys) (x1 : List Int) (x2 : List TSig) (r6 : Int → Int → Option Int) (L12 : Int → Option Int) (v6_2 : Int) (v6_3 : Int) : Option Int :=
  bif decide (v6_3 < (x0.1.length : Int)) then
  L12 (0 : Int)
else some v6_2
noncomputable def zq132.l6 (x0 : TKeys) (x1 : List Int) (x2 : List TSig) (n : Nat) : Int → Int → Option Int :=
  V.iter (fun (r6 : Int → Int → Option Int) => fun v6_2 v6_3 => zq132.g6 x0 x1 x2 r6 (zq132.l12 x0 x1 x2 v6_2 v6_3 r6 V.KK) v6_2 v6_3) (fun _ _ => none) n
theorem zq132.u6 (x0 : TKeys) (x1 : List Int) (x2 : List TSig) (n : Nat) (v6_2 : Int) (v6_3 : Int) : zq132.l6 x0 x1 x2 (n + 1) v6_2 v6_3 = zq132.g6 x0 x1 x2 (zq132.l6 x0 x1 x2 n) (zq132.l12 x0 x1 x2 v6_2 v6_3 (zq132.l6 x0 x1 x2 n) V.KK) v6_2 v6_3 := rfl
noncomputable abbrev zq132.b (x0 : TKeys) (x1 : List Int) (x2 : List TSig) (L6 : Int → Int → Option Int) : Option Int :=
  L6 (0 : Int) (0 : Int)
noncomputable def zq132 (x0 : TKeys) (x1 : List Int) (x2 : List TSig) : Option Int :=
  zq132.b x0 x1 x2 (zq132.l6 x0 x1 x2 V.KK)
noncomputable def zq153 (x0 : TKeys) (x1 : List Int) (x2 : List TSig) : Option Bool :=
  (zq149 x0).bind fun y1 =>
  bif y1 then
    (zq132 x0 x1 x2).bind fun y2 =>
      some (decide (y2 ≥ x0.2))
  else some false
noncomputable def zq146 (x0 : TSigned) : Option Bool :=
  (zq148 (Signed_Head x0)).bind fun y1 =>
  bif y1 then
    bif (Head_Epoch (Signed_Head x0)) == (0 : Int) then
      bif (Head_Kind (Signed_Head x0)) == (1 : Int) then
        bif !(Head_Frozen (Signed_Head x0)) then
          (zq171 (Head_Keys (Signed_Head x0)) (Head_Prev (Signed_Head x0))).bind fun y2 =>
            bif (Head_Zone (Signed_Head x0)) == y2 then
              (zq143 (Signed_Head x0)).bind fun y3 =>
                (zq153 (Head_Keys (Signed_Head x0)) y3 (Signed_Sigs x0)).bind fun y4 =>
                  some y4
            else some false
        else some false
      else some false
    else some false
  else some false
noncomputable def zq142 (x0 : THead) : Option Int :=
  (zq143 x0).bind fun y1 =>
  bif decide ([(233 : Int)].length + y1.length < 68719476736) then
    (zq141 ([(233 : Int)] ++ y1)).bind fun y2 =>
      some y2
  else none
noncomputable def zq178 (x0 : THead) (x1 : THead) : Option Int :=
  bif (Head_Frozen x0) then
  some (4 : Int)
else
  bif (Head_Frozen x1) then
    some (6 : Int)
  else some (1 : Int)
noncomputable abbrev zq137.g8 (x0 : List Int) (x1 : List Int) (r8 : Int → Option Bool) (v8_2 : Int) : Option Bool :=
  bif decide (v8_2 < (x0.length : Int)) then
  bif decide (0 ≤ v8_2) then
    bif decide (v8_2 < (x0.length : Int)) then
      bif decide (0 ≤ v8_2) then
        bif decide (v8_2 < (x1.length : Int)) then
          bif (x0.getD v8_2.toNat (0 : Int)) != (x1.getD v8_2.toNat (0 : Int)) then
            some false
          else r8 (IntKind.i64.wrap (v8_2 + (1 : Int)))
        else none
      else none
    else none
  else none
else some true
noncomputable def zq137.l8 (x0 : List Int) (x1 : List Int) (n : Nat) : Int → Option Bool :=
  V.iter (fun (r8 : Int → Option Bool) => fun v8_2 => zq137.g8 x0 x1 r8 v8_2) (fun _ => none) n
theorem zq137.u8 (x0 : List Int) (x1 : List Int) (n : Nat) (v8_2 : Int) : zq137.l8 x0 x1 (n + 1) v8_2 = zq137.g8 x0 x1 (zq137.l8 x0 x1 n) v8_2 := rfl
noncomputable abbrev zq137.b (x0 : List Int) (x1 : List Int) (L8 : Int → Option Bool) : Option Bool :=
  bif (x0.length : Int) != (x1.length : Int) then
  some false
else L8 (0 : Int)
noncomputable def zq137 (x0 : List Int) (x1 : List Int) : Option Bool :=
  zq137.b x0 x1 (zq137.l8 x0 x1 V.KK)
noncomputable def zq138 (x0 : TKeys) (x1 : TKeys) : Option Bool :=
  bif x0.2 == x1.2 then
  (zq137 x0.1 x1.1).bind fun y1 =>
    some y1
else some false
noncomputable def zq166 (x0 : THead) (x1 : THead) : Option Bool :=
  bif (Head_Count x0) == (Head_Count x1) then
  some ((Head_Root x0) == (Head_Root x1))
else some false
noncomputable abbrev zq176.g9 (x0 : THead) (x1 : THead) (v9_0 : Bool) : Option Int :=
  bif v9_0 then
  some (5 : Int)
else
  bif (Head_Frozen x1) then
    some (6 : Int)
  else
    (zq138 (Head_Keys x1) (Head_Heirs x0)).bind fun y2 =>
      bif !y2 then
        some (6 : Int)
      else
        (zq166 x1 x0).bind fun y3 =>
          bif !y3 then
            some (6 : Int)
          else some (1 : Int)
noncomputable def zq176.l9 (x0 : THead) (x1 : THead) (v9_0 : Bool) : Option Int :=
  zq176.g9 x0 x1 v9_0
noncomputable abbrev zq176.b (x0 : THead) (x1 : THead) (L9 : Bool → Option Int) : Option Int :=
  bif (Head_Frozen x0) then
  some (4 : Int)
else
  (zq163 (Head_Heirs x0)).bind fun y1 =>
    bif y1 then
      L9 true
    else L9 (decide ((Head_Time x1) < (IntKind.i64.wrap ((Head_Until x0) + (Head_Wait x0)))))
noncomputable def zq176 (x0 : THead) (x1 : THead) : Option Int :=
  zq176.b x0 x1 (zq176.l9 x0 x1)
noncomputable abbrev zq177.g9 (x0 : THead) (x1 : THead) (v9_0 : Bool) : Option Int :=
  bif v9_0 then
  some (6 : Int)
else
  bif (Head_Frozen x1) then
    (zq138 (Head_Keys x1) (Head_Keys x0)).bind fun y2 =>
      bif !y2 then
        some (6 : Int)
      else some (1 : Int)
  else some (1 : Int)
noncomputable def zq177.l9 (x0 : THead) (x1 : THead) (v9_0 : Bool) : Option Int :=
  zq177.g9 x0 x1 v9_0
noncomputable abbrev zq177.b (x0 : THead) (x1 : THead) (L9 : Bool → Option Int) : Option Int :=
  (zq163 (Head_Judge x0)).bind fun y1 =>
  bif y1 then
    some (5 : Int)
  else
    bif (Head_Frozen x1) == (Head_Frozen x0) then
      L9 true
    else
      (zq166 x1 x0).bind fun y3 =>
        bif !y3 then
          L9 true
        else
          (zq138 (Head_Judge x1) (Head_Judge x0)).bind fun y4 =>
            bif !y4 then
              L9 true
            else
              (zq138 (Head_Heirs x1) (Head_Heirs x0)).bind fun y5 =>
                bif !y5 then
                  L9 true
                else L9 ((Head_Wait x1) != (Head_Wait x0))
noncomputable def zq177 (x0 : THead) (x1 : THead) : Option Int :=
  zq177.b x0 x1 (zq177.l9 x0 x1)
noncomputable abbrev zq162.g31 (x1 : TSigned) (v31_0 : Int) (v31_34 : List Int) (v31_35 : Int) : Option Int :=
  bif v31_0 == (1 : Int) then
  (zq143 (Signed_Head x1)).bind fun y6 =>
    (zq153 (v31_34, v31_35) y6 (Signed_Sigs x1)).bind fun y7 =>
      bif !y7 then
        some (7 : Int)
      else some v31_0
else some v31_0
noncomputable def zq162.l31 (x1 : TSigned) (v31_0 : Int) (v31_34 : List Int) (v31_35 : Int) : Option Int :=
  zq162.g31 x1 v31_0 v31_34 v31_35
noncomputable abbrev zq162.g13 (x0 : THead) (x1 : TSigned) (L31 : Int → (List Int) → Int → Option Int) : Option Int :=
  (zq178 x0 (Signed_Head x1)).bind fun y4 =>
  bif (Head_Kind (Signed_Head x1)) == (2 : Int) then
    (zq176 x0 (Signed_Head x1)).bind fun y5 =>
      L31 y5 (Head_Heirs x0).1 (Head_Heirs x0).2
  else
    bif (Head_Kind (Signed_Head x1)) == (3 : Int) then
      (zq177 x0 (Signed_Head x1)).bind fun y8 =>
        L31 y8 (Head_Judge x0).1 (Head_Judge x0).2
    else L31 y4 (Head_Keys x0).1 (Head_Keys x0).2
noncomputable def zq162.l13 (x0 : THead) (x1 : TSigned) : Option Int :=
  zq162.g13 x0 x1 (zq162.l31 x1)
noncomputable abbrev zq162.g9 (x0 : THead) (x1 : TSigned) (L13 : Option Int) : Option Int :=
  bif (Head_Zone (Signed_Head x1)) != (Head_Zone x0) then
  some (3 : Int)
else
  bif (Head_Epoch (Signed_Head x1)) != (IntKind.i64.wrap ((Head_Epoch x0) + (1 : Int))) then
    some (3 : Int)
  else
    (zq142 x0).bind fun y3 =>
      bif (Head_Prev (Signed_Head x1)) != y3 then
        some (3 : Int)
      else
        bif decide ((Head_Time (Signed_Head x1)) < (Head_Time x0)) then
          some (3 : Int)
        else L13
noncomputable def zq162.l9 (x0 : THead) (x1 : TSigned) : Option Int :=
  zq162.g9 x0 x1 (zq162.l13 x0 x1)
noncomputable abbrev zq162.b (x0 : THead) (x1 : TSigned) (L9 : Option Int) : Option Int :=
  (zq148 x0).bind fun y1 =>
  bif !y1 then
    some (2 : Int)
  else
    (zq148 (Signed_Head x1)).bind fun y2 =>
      bif !y2 then
        some (2 : Int)
      else L9
noncomputable def zq162 (x0 : THead) (x1 : TSigned) : Option Int :=
  zq162.b x0 x1 (zq162.l9 x0 x1)
noncomputable def zq160 (x0 : THead) (x1 : TSigned) : Option Bool :=
  (zq162 x0 x1).bind fun y1 =>
  some (y1 == (1 : Int))
noncomputable abbrev zq140.g4 (x0 : List TSigned) (r4 : Int → Option Int) (v4_1 : Int) : Option Int :=
  bif decide (v4_1 < (x0.length : Int)) then
  bif v4_1 == (0 : Int) then
    bif decide (0 ≤ (0 : Int)) then
      bif decide ((0 : Int) < (x0.length : Int)) then
        (zq146 (x0.getD ((0 : Int).toNat) dSigned)).bind fun y1 =>
          bif !y1 then
            some v4_1
          else
            bif decide (v4_1 > (0 : Int)) then
              bif decide (0 ≤ (IntKind.i64.wrap (v4_1 - (1 : Int)))) then
                bif decide ((IntKind.i64.wrap (v4_1 - (1 : Int))) < (x0.length : Int)) then
                  bif decide (0 ≤ v4_1) then
                    bif decide (v4_1 < (x0.length : Int)) then
                      (zq160 (Signed_Head (x0.getD ((IntKind.i64.wrap (v4_1 - (1 : Int))).toNat) dSigned)) (x0.getD v4_1.toNat dSigned)).bind fun y2 =>
                        bif !y2 then
                          some v4_1
                        else r4 (IntKind.i64.wrap (v4_1 + (1 : Int)))
                    else none
                  else none
                else none
              else none
            else r4 (IntKind.i64.wrap (v4_1 + (1 : Int)))
      else none
    else none
  else
    bif decide (v4_1 > (0 : Int)) then
      bif decide (0 ≤ (IntKind.i64.wrap (v4_1 - (1 : Int)))) then
        bif decide ((IntKind.i64.wrap (v4_1 - (1 : Int))) < (x0.length : Int)) then
          bif decide (0 ≤ v4_1) then
            bif decide (v4_1 < (x0.length : Int)) then
              (zq160 (Signed_Head (x0.getD ((IntKind.i64.wrap (v4_1 - (1 : Int))).toNat) dSigned)) (x0.getD v4_1.toNat dSigned)).bind fun y3 =>
                bif !y3 then
                  some v4_1
                else r4 (IntKind.i64.wrap (v4_1 + (1 : Int)))
            else none
          else none
        else none
      else none
    else r4 (IntKind.i64.wrap (v4_1 + (1 : Int)))
else some (-1 : Int)
noncomputable def zq140.l4 (x0 : List TSigned) (n : Nat) : Int → Option Int :=
  V.iter (fun (r4 : Int → Option Int) => fun v4_1 => zq140.g4 x0 r4 v4_1) (fun _ => none) n
theorem zq140.u4 (x0 : List TSigned) (n : Nat) (v4_1 : Int) : zq140.l4 x0 (n + 1) v4_1 = zq140.g4 x0 (zq140.l4 x0 n) v4_1 := rfl
noncomputable abbrev zq140.b (x0 : List TSigned) (L4 : Int → Option Int) : Option Int :=
  L4 (0 : Int)
noncomputable def zq140 (x0 : List TSigned) : Option Int :=
  zq140.b x0 (zq140.l4 x0 V.KK)
noncomputable def zq144 (x0 : List TSigned) : Option Bool :=
  (zq179 (x0.length : Int) (1 : Int) (12 : Int)).bind fun y1 =>
  bif y1 then
    (zq140 x0).bind fun y2 =>
      some (decide (y2 < (0 : Int)))
  else some false
noncomputable def zq182 (x0 : TKeys) : Option TKeys :=
  bif decide (([] : List Int).length + x0.1.length < 68719476736) then
  some ([] ++ x0.1, x0.2)
else none
noncomputable def zq175 (x0 : THead) : Option THead :=
  (zq182 (Head_Keys x0)).bind fun y1 =>
  (zq182 (Head_Heirs x0)).bind fun y2 =>
    (zq182 (Head_Judge x0)).bind fun y3 =>
      some (Head_mk (Head_Zone x0) (Head_Epoch x0) (Head_Kind x0) (Head_Time x0) (Head_Until x0) (Head_Count x0) (Head_Root x0) (Head_Prev x0) y1 y2 (Head_Wait x0) y3 (Head_Frozen x0))
noncomputable def zq157 (x0 : List TSigned) : Option TRHeadBool :=
  (zq144 x0).bind fun y1 =>
  bif !y1 then
    some dRHeadBool
  else
    bif decide (0 ≤ (IntKind.i64.wrap ((x0.length : Int) - (1 : Int)))) then
      bif decide ((IntKind.i64.wrap ((x0.length : Int) - (1 : Int))) < (x0.length : Int)) then
        (zq175 (Signed_Head (x0.getD ((IntKind.i64.wrap ((x0.length : Int) - (1 : Int))).toNat) dSigned))).bind fun y2 =>
          some (RHeadBool_mk y2 true)
      else none
    else none
noncomputable def zq147 (x0 : THead) (x1 : Int) : Option Bool :=
  (zq179 x1 (Head_Time x0) (Head_Until x0)).bind fun y1 =>
  some y1
noncomputable abbrev zq127.g6 (x0 : List Int) (r6 : Int → (List Int) → Option (List Int)) (v6_1 : Int) (v6_2 : List Int) : Option (List Int) :=
  bif decide (v6_1 < (x0.length : Int)) then
  bif decide (0 ≤ v6_1) then
    bif decide (v6_1 < (x0.length : Int)) then
      bif decide (v6_2.length + [IntKind.i64.wrap (x0.getD v6_1.toNat (0 : Int))].length < 68719476736) then
        r6 (IntKind.i64.wrap (v6_1 + (1 : Int))) (v6_2 ++ [IntKind.i64.wrap (x0.getD v6_1.toNat (0 : Int))])
      else none
    else none
  else none
else some v6_2
noncomputable def zq127.l6 (x0 : List Int) (n : Nat) : Int → (List Int) → Option (List Int) :=
  V.iter (fun (r6 : Int → (List Int) → Option (List Int)) => fun v6_1 v6_2 => zq127.g6 x0 r6 v6_1 v6_2) (fun _ _ => none) n
theorem zq127.u6 (x0 : List Int) (n : Nat) (v6_1 : Int) (v6_2 : List Int) : zq127.l6 x0 (n + 1) v6_1 v6_2 = zq127.g6 x0 (zq127.l6 x0 n) v6_1 v6_2 := rfl
noncomputable abbrev zq127.b (x0 : List Int) (L6 : Int → (List Int) → Option (List Int)) : Option (List Int) :=
  L6 (0 : Int) [(x0.length : Int)]
noncomputable def zq127 (x0 : List Int) : Option (List Int) :=
  zq127.b x0 (zq127.l6 x0 V.KK)
noncomputable def zq156 (x0 : ByteArray) : Option (List Int) :=
  bif V.smallS x0 then
  (zq127 (V.bytesOf x0)).bind fun y1 =>
    some y1
else none
noncomputable abbrev zq134.g6 (x0 : TEntry) (r6 : Int → (List Int) → Option (List Int)) (v6_0 : Int) (v6_5 : List Int) : Option (List Int) :=
  bif decide (v6_0 < (x0.2.2.2.length : Int)) then
  bif decide (0 ≤ v6_0) then
    bif decide (v6_0 < (x0.2.2.2.length : Int)) then
      (zq156 (x0.2.2.2.getD v6_0.toNat (⟨#[]⟩ : ByteArray))).bind fun y2 =>
        bif decide (v6_5.length + y2.length < 68719476736) then
          r6 (IntKind.i64.wrap (v6_0 + (1 : Int))) (v6_5 ++ y2)
        else none
    else none
  else none
else some v6_5
noncomputable def zq134.l6 (x0 : TEntry) (n : Nat) : Int → (List Int) → Option (List Int) :=
  V.iter (fun (r6 : Int → (List Int) → Option (List Int)) => fun v6_0 v6_5 => zq134.g6 x0 r6 v6_0 v6_5) (fun _ _ => none) n
theorem zq134.u6 (x0 : TEntry) (n : Nat) (v6_0 : Int) (v6_5 : List Int) : zq134.l6 x0 (n + 1) v6_0 v6_5 = zq134.g6 x0 (zq134.l6 x0 n) v6_0 v6_5 := rfl
noncomputable abbrev zq134.b (x0 : TEntry) (L6 : Int → (List Int) → Option (List Int)) : Option (List Int) :=
  (zq156 x0.1).bind fun y1 =>
  bif decide (y1.length + [x0.2.1, x0.2.2.1, (x0.2.2.2.length : Int)].length < 68719476736) then
    L6 (0 : Int) (y1 ++ [x0.2.1, x0.2.2.1, (x0.2.2.2.length : Int)])
  else none
noncomputable def zq134 (x0 : TEntry) : Option (List Int) :=
  zq134.b x0 (zq134.l6 x0 V.KK)
noncomputable def zq158 (x0 : TEntry) : Option Int :=
  (zq134 x0).bind fun y1 =>
  bif decide ([(227 : Int)].length + y1.length < 68719476736) then
    (zq141 ([(227 : Int)] ++ y1)).bind fun y2 =>
      some y2
  else none
noncomputable def zq164 (x0 : Int) (x1 : Int) : Option Int :=
  (zq141 [(229 : Int), x0, x1]).bind fun y1 =>
  some y1
noncomputable abbrev zq169.g25 (x3 : List Int) (v8_1 : Int) (v8_2 : Int) (r8 : Int → Int → Int → Int → Option (Int × Bool)) (v25_0 : Int) (v25_4 : Int) : Option (Int × Bool) :=
  bif ((2 : Int) == (0 : Int)) then
  none
else
  bif ((2 : Int) == (0 : Int)) then
    none
  else r8 v25_0 (IntKind.i64.wrap (Int.tdiv v8_1 (2 : Int))) (IntKind.i64.wrap (Int.tdiv (IntKind.i64.wrap (v8_2 + (1 : Int))) (2 : Int))) v25_4
noncomputable def zq169.l25 (x3 : List Int) (v8_1 : Int) (v8_2 : Int) (r8 : Int → Int → Int → Int → Option (Int × Bool)) (v25_0 : Int) (v25_4 : Int) : Option (Int × Bool) :=
  zq169.g25 x3 v8_1 v8_2 r8 v25_0 v25_4
noncomputable abbrev zq169.g13 (x3 : List Int) (v8_0 : Int) (v8_1 : Int) (v8_2 : Int) (v8_4 : Int) (r8 : Int → Int → Int → Int → Option (Int × Bool)) (L25 : Int → Int → Option (Int × Bool)) (v13_5 : Bool) : Option (Int × Bool) :=
  bif v13_5 then
  bif decide (v8_4 ≥ (x3.length : Int)) then
    some ((0 : Int), false)
  else
    bif ((2 : Int) == (0 : Int)) then
      none
    else
      bif (Int.tmod v8_1 (2 : Int)) == (1 : Int) then
        bif decide (0 ≤ v8_4) then
          bif decide (v8_4 < (x3.length : Int)) then
            (zq164 (x3.getD v8_4.toNat (0 : Int)) v8_0).bind fun y3 =>
              L25 y3 (IntKind.i64.wrap (v8_4 + (1 : Int)))
          else none
        else none
      else
        bif decide (0 ≤ v8_4) then
          bif decide (v8_4 < (x3.length : Int)) then
            (zq164 v8_0 (x3.getD v8_4.toNat (0 : Int))).bind fun y4 =>
              L25 y4 (IntKind.i64.wrap (v8_4 + (1 : Int)))
          else none
        else none
else L25 v8_0 v8_4
noncomputable def zq169.l13 (x3 : List Int) (v8_0 : Int) (v8_1 : Int) (v8_2 : Int) (v8_4 : Int) (r8 : Int → Int → Int → Int → Option (Int × Bool)) (v13_5 : Bool) : Option (Int × Bool) :=
  zq169.g13 x3 v8_0 v8_1 v8_2 v8_4 r8 (zq169.l25 x3 v8_1 v8_2 r8) v13_5
noncomputable abbrev zq169.g8 (x3 : List Int) (r8 : Int → Int → Int → Int → Option (Int × Bool)) (L13 : Bool → Option (Int × Bool)) (v8_0 : Int) (v8_1 : Int) (v8_2 : Int) (v8_4 : Int) : Option (Int × Bool) :=
  bif decide (v8_2 > (1 : Int)) then
  bif ((2 : Int) == (0 : Int)) then
    none
  else
    bif (Int.tmod v8_1 (2 : Int)) == (1 : Int) then
      L13 true
    else L13 (decide ((IntKind.i64.wrap (v8_1 + (1 : Int))) < v8_2))
else
  bif v8_4 != (x3.length : Int) then
    some ((0 : Int), false)
  else some (v8_0, true)
noncomputable def zq169.l8 (x3 : List Int) (n : Nat) : Int → Int → Int → Int → Option (Int × Bool) :=
  V.iter (fun (r8 : Int → Int → Int → Int → Option (Int × Bool)) => fun v8_0 v8_1 v8_2 v8_4 => zq169.g8 x3 r8 (zq169.l13 x3 v8_0 v8_1 v8_2 v8_4 r8) v8_0 v8_1 v8_2 v8_4) (fun _ _ _ _ => none) n
theorem zq169.u8 (x3 : List Int) (n : Nat) (v8_0 : Int) (v8_1 : Int) (v8_2 : Int) (v8_4 : Int) : zq169.l8 x3 (n + 1) v8_0 v8_1 v8_2 v8_4 = zq169.g8 x3 (zq169.l8 x3 n) (zq169.l13 x3 v8_0 v8_1 v8_2 v8_4 (zq169.l8 x3 n)) v8_0 v8_1 v8_2 v8_4 := rfl
noncomputable abbrev zq169.g7 (x0 : Int) (x1 : Int) (x2 : Int) (x3 : List Int) (L8 : Int → Int → Int → Int → Option (Int × Bool)) : Option (Int × Bool) :=
  L8 x0 x1 x2 (0 : Int)
noncomputable def zq169.l7 (x0 : Int) (x1 : Int) (x2 : Int) (x3 : List Int) : Option (Int × Bool) :=
  zq169.g7 x0 x1 x2 x3 (zq169.l8 x3 V.KK)
noncomputable abbrev zq169.b (x0 : Int) (x1 : Int) (x2 : Int) (x3 : List Int) (L7 : Option (Int × Bool)) : Option (Int × Bool) :=
  (zq179 x2 (1 : Int) (12 : Int)).bind fun y1 =>
  bif !y1 then
    some ((0 : Int), false)
  else
    (zq179 x1 (0 : Int) (IntKind.i64.wrap (x2 - (1 : Int)))).bind fun y2 =>
      bif !y2 then
        some ((0 : Int), false)
      else L7
noncomputable def zq169 (x0 : Int) (x1 : Int) (x2 : Int) (x3 : List Int) : Option (Int × Bool) :=
  zq169.b x0 x1 x2 x3 (zq169.l7 x0 x1 x2 x3)
noncomputable abbrev zq150.g8 (x0 : ByteArray) (r8 : Int → Option Bool) (v8_1 : Int) : Option Bool :=
  bif decide (v8_1 < (x0.size : Int)) then
  bif decide (0 ≤ v8_1) then
    bif decide (v8_1 < (x0.size : Int)) then
      bif decide ((V.bt x0 v8_1) < (97 : Int)) then
        bif decide (0 ≤ v8_1) then
          bif decide (v8_1 < (x0.size : Int)) then
            bif decide ((V.bt x0 v8_1) < (48 : Int)) then
              bif decide (0 ≤ v8_1) then
                bif decide (v8_1 < (x0.size : Int)) then
                  bif (V.bt x0 v8_1) != (45 : Int) then
                    some false
                  else r8 (IntKind.i64.wrap (v8_1 + (1 : Int)))
                else none
              else none
            else
              bif decide (0 ≤ v8_1) then
                bif decide (v8_1 < (x0.size : Int)) then
                  bif decide ((V.bt x0 v8_1) > (57 : Int)) then
                    bif decide (0 ≤ v8_1) then
                      bif decide (v8_1 < (x0.size : Int)) then
                        bif (V.bt x0 v8_1) != (45 : Int) then
                          some false
                        else r8 (IntKind.i64.wrap (v8_1 + (1 : Int)))
                      else none
                    else none
                  else r8 (IntKind.i64.wrap (v8_1 + (1 : Int)))
                else none
              else none
          else none
        else none
      else
        bif decide (0 ≤ v8_1) then
          bif decide (v8_1 < (x0.size : Int)) then
            bif decide ((V.bt x0 v8_1) > (122 : Int)) then
              bif decide (0 ≤ v8_1) then
                bif decide (v8_1 < (x0.size : Int)) then
                  bif decide ((V.bt x0 v8_1) < (48 : Int)) then
                    bif decide (0 ≤ v8_1) then
                      bif decide (v8_1 < (x0.size : Int)) then
                        bif (V.bt x0 v8_1) != (45 : Int) then
                          some false
                        else r8 (IntKind.i64.wrap (v8_1 + (1 : Int)))
                      else none
                    else none
                  else
                    bif decide (0 ≤ v8_1) then
                      bif decide (v8_1 < (x0.size : Int)) then
                        bif decide ((V.bt x0 v8_1) > (57 : Int)) then
                          bif decide (0 ≤ v8_1) then
                            bif decide (v8_1 < (x0.size : Int)) then
                              bif (V.bt x0 v8_1) != (45 : Int) then
                                some false
                              else r8 (IntKind.i64.wrap (v8_1 + (1 : Int)))
                            else none
                          else none
                        else r8 (IntKind.i64.wrap (v8_1 + (1 : Int)))
                      else none
                    else none
                else none
              else none
            else r8 (IntKind.i64.wrap (v8_1 + (1 : Int)))
          else none
        else none
    else none
  else none
else some true
noncomputable def zq150.l8 (x0 : ByteArray) (n : Nat) : Int → Option Bool :=
  V.iter (fun (r8 : Int → Option Bool) => fun v8_1 => zq150.g8 x0 r8 v8_1) (fun _ => none) n
theorem zq150.u8 (x0 : ByteArray) (n : Nat) (v8_1 : Int) : zq150.l8 x0 (n + 1) v8_1 = zq150.g8 x0 (zq150.l8 x0 n) v8_1 := rfl
noncomputable abbrev zq150.g7 (x0 : ByteArray) (L8 : Int → Option Bool) : Option Bool :=
  L8 (0 : Int)
noncomputable def zq150.l7 (x0 : ByteArray) : Option Bool :=
  zq150.g7 x0 (zq150.l8 x0 V.KK)
noncomputable abbrev zq150.b (x0 : ByteArray) (L7 : Option Bool) : Option Bool :=
  (zq179 (x0.size : Int) (1 : Int) (8 : Int)).bind fun y1 =>
  bif !y1 then
    some false
  else
    bif decide (0 ≤ (0 : Int)) then
      bif decide ((0 : Int) < (x0.size : Int)) then
        bif (V.bt x0 (0 : Int)) == (45 : Int) then
          some false
        else
          bif decide (0 ≤ (IntKind.i64.wrap ((x0.size : Int) - (1 : Int)))) then
            bif decide ((IntKind.i64.wrap ((x0.size : Int) - (1 : Int))) < (x0.size : Int)) then
              bif (V.bt x0 (IntKind.i64.wrap ((x0.size : Int) - (1 : Int)))) == (45 : Int) then
                some false
              else L7
            else none
          else none
      else none
    else none
noncomputable def zq150 (x0 : ByteArray) : Option Bool :=
  zq150.b x0 (zq150.l7 x0)
noncomputable abbrev zq151.g4 (x0 : List ByteArray) (r4 : Int → Option Bool) (v4_1 : Int) : Option Bool :=
  bif decide (v4_1 < (x0.length : Int)) then
  bif decide (0 ≤ v4_1) then
    bif decide (v4_1 < (x0.length : Int)) then
      (zq150 (x0.getD v4_1.toNat (⟨#[]⟩ : ByteArray))).bind fun y1 =>
        bif !y1 then
          some false
        else r4 (IntKind.i64.wrap (v4_1 + (1 : Int)))
    else none
  else none
else
  (zq179 (x0.length : Int) (1 : Int) (4 : Int)).bind fun y2 =>
    some y2
noncomputable def zq151.l4 (x0 : List ByteArray) (n : Nat) : Int → Option Bool :=
  V.iter (fun (r4 : Int → Option Bool) => fun v4_1 => zq151.g4 x0 r4 v4_1) (fun _ => none) n
theorem zq151.u4 (x0 : List ByteArray) (n : Nat) (v4_1 : Int) : zq151.l4 x0 (n + 1) v4_1 = zq151.g4 x0 (zq151.l4 x0 n) v4_1 := rfl
noncomputable abbrev zq151.b (x0 : List ByteArray) (L4 : Int → Option Bool) : Option Bool :=
  L4 (0 : Int)
noncomputable def zq151 (x0 : List ByteArray) : Option Bool :=
  zq151.b x0 (zq151.l4 x0 V.KK)
noncomputable def zq145 (x0 : TEntry) : Option Bool :=
  bif x0.2.1 == (1 : Int) then
  (zq150 x0.1).bind fun y1 =>
    bif y1 then
      (zq179 x0.2.2.1 (0 : Int) (999999 : Int)).bind fun y2 =>
        bif y2 then
          some ((x0.2.2.2.length : Int) == (0 : Int))
        else some false
    else some false
else
  bif x0.2.1 == (2 : Int) then
    (zq150 x0.1).bind fun y3 =>
      bif y3 then
        (zq179 x0.2.2.1 (0 : Int) (2147483646 : Int)).bind fun y4 =>
          bif y4 then
            some ((x0.2.2.2.length : Int) == (0 : Int))
          else some false
      else some false
  else
    bif x0.2.1 == (3 : Int) then
      (zq150 x0.1).bind fun y5 =>
        bif y5 then
          (zq179 x0.2.2.1 (0 : Int) (2147483646 : Int)).bind fun y6 =>
            bif y6 then
              (zq151 x0.2.2.2).bind fun y7 =>
                some y7
            else some false
        else some false
    else some false
noncomputable def zq172 (x0 : Int) (x1 : Int) : Option Int :=
  (zq141 [(231 : Int), x0, x1]).bind fun y1 =>
  some y1
noncomputable def zq130 (x0 : Int) (x1 : Int) (x2 : TEntry) (x3 : TProof) : Option Bool :=
  (zq158 x2).bind fun y1 =>
  (zq169 y1 x3.1 x1 x3.2).bind fun y2 =>
    (zq145 x2).bind fun y3 =>
      bif y3 then
        bif y2.2 then
          (zq172 x1 y2.1).bind fun y4 =>
            some (y4 == x0)
        else some false
      else some false
noncomputable abbrev zq167.g8 (x0 : List ByteArray) (x1 : List ByteArray) (r8 : Int → Option Bool) (v8_2 : Int) : Option Bool :=
  bif decide (v8_2 < (x0.length : Int)) then
  bif decide (0 ≤ v8_2) then
    bif decide (v8_2 < (x0.length : Int)) then
      bif decide (0 ≤ v8_2) then
        bif decide (v8_2 < (x1.length : Int)) then
          bif !((x0.getD v8_2.toNat (⟨#[]⟩ : ByteArray)).toList == (x1.getD v8_2.toNat (⟨#[]⟩ : ByteArray)).toList) then
            some false
          else r8 (IntKind.i64.wrap (v8_2 + (1 : Int)))
        else none
      else none
    else none
  else none
else some true
noncomputable def zq167.l8 (x0 : List ByteArray) (x1 : List ByteArray) (n : Nat) : Int → Option Bool :=
  V.iter (fun (r8 : Int → Option Bool) => fun v8_2 => zq167.g8 x0 x1 r8 v8_2) (fun _ => none) n
theorem zq167.u8 (x0 : List ByteArray) (x1 : List ByteArray) (n : Nat) (v8_2 : Int) : zq167.l8 x0 x1 (n + 1) v8_2 = zq167.g8 x0 x1 (zq167.l8 x0 x1 n) v8_2 := rfl
noncomputable abbrev zq167.b (x0 : List ByteArray) (x1 : List ByteArray) (L8 : Int → Option Bool) : Option Bool :=
  bif (x0.length : Int) != (x1.length : Int) then
  some false
else L8 (0 : Int)
noncomputable def zq167 (x0 : List ByteArray) (x1 : List ByteArray) : Option Bool :=
  zq167.b x0 x1 (zq167.l8 x0 x1 V.KK)
noncomputable def zq135 (x0 : TEntry) (x1 : TEntry) : Option Bool :=
  bif x0.1.toList == x1.1.toList then
  bif x0.2.1 == x1.2.1 then
    bif x0.2.2.1 == x1.2.2.1 then
      (zq167 x0.2.2.2 x1.2.2.2).bind fun y1 =>
        some y1
    else some false
  else some false
else some false
noncomputable def zq139 (x0 : TProof) (x1 : TProof) : Option Bool :=
  bif x0.1 == x1.1 then
  (zq137 x0.2 x1.2).bind fun y1 =>
    some y1
else some false
noncomputable def zq136 (x0 : TGap) (x1 : TGap) : Option Bool :=
  bif (Gap_At x0) == (Gap_At x1) then
  (zq135 (Gap_Before x0) (Gap_Before x1)).bind fun y1 =>
    bif y1 then
      (zq135 (Gap_After x0) (Gap_After x1)).bind fun y2 =>
        bif y2 then
          (zq139 (Gap_Left x0) (Gap_Left x1)).bind fun y3 =>
            bif y3 then
              (zq139 (Gap_Right x0) (Gap_Right x1)).bind fun y4 =>
                some y4
            else some false
        else some false
    else some false
else some false
noncomputable abbrev zq159.g6 (x0 : List TEntry) (r6 : Int → (List Int) → Option (List Int)) (v6_1 : Int) (v6_2 : List Int) : Option (List Int) :=
  bif decide (v6_1 < (x0.length : Int)) then
  bif decide (0 ≤ v6_1) then
    bif decide (v6_1 < (x0.length : Int)) then
      (zq158 (x0.getD v6_1.toNat dEntry)).bind fun y1 =>
        bif decide (v6_2.length + [y1].length < 68719476736) then
          r6 (IntKind.i64.wrap (v6_1 + (1 : Int))) (v6_2 ++ [y1])
        else none
    else none
  else none
else some v6_2
noncomputable def zq159.l6 (x0 : List TEntry) (n : Nat) : Int → (List Int) → Option (List Int) :=
  V.iter (fun (r6 : Int → (List Int) → Option (List Int)) => fun v6_1 v6_2 => zq159.g6 x0 r6 v6_1 v6_2) (fun _ _ => none) n
theorem zq159.u6 (x0 : List TEntry) (n : Nat) (v6_1 : Int) (v6_2 : List Int) : zq159.l6 x0 (n + 1) v6_1 v6_2 = zq159.g6 x0 (zq159.l6 x0 n) v6_1 v6_2 := rfl
noncomputable abbrev zq159.b (x0 : List TEntry) (L6 : Int → (List Int) → Option (List Int)) : Option (List Int) :=
  L6 (0 : Int) []
noncomputable def zq159 (x0 : List TEntry) : Option (List Int) :=
  zq159.b x0 (zq159.l6 x0 V.KK)
noncomputable abbrev zq173.g6 (x0 : List Int) (r6 : Int → (List Int) → Option (List Int)) (v6_1 : Int) (v6_2 : List Int) : Option (List Int) :=
  bif decide (v6_1 < (x0.length : Int)) then
  bif decide ((IntKind.i64.wrap (v6_1 + (1 : Int))) < (x0.length : Int)) then
    bif decide (0 ≤ v6_1) then
      bif decide (v6_1 < (x0.length : Int)) then
        bif decide (0 ≤ (IntKind.i64.wrap (v6_1 + (1 : Int)))) then
          bif decide ((IntKind.i64.wrap (v6_1 + (1 : Int))) < (x0.length : Int)) then
            (zq164 (x0.getD v6_1.toNat (0 : Int)) (x0.getD ((IntKind.i64.wrap (v6_1 + (1 : Int))).toNat) (0 : Int))).bind fun y1 =>
              bif decide (v6_2.length + [y1].length < 68719476736) then
                r6 (IntKind.i64.wrap (v6_1 + (2 : Int))) (v6_2 ++ [y1])
              else none
          else none
        else none
      else none
    else none
  else
    bif decide (0 ≤ v6_1) then
      bif decide (v6_1 < (x0.length : Int)) then
        bif decide (v6_2.length + [x0.getD v6_1.toNat (0 : Int)].length < 68719476736) then
          r6 (IntKind.i64.wrap (v6_1 + (2 : Int))) (v6_2 ++ [x0.getD v6_1.toNat (0 : Int)])
        else none
      else none
    else none
else some v6_2
noncomputable def zq173.l6 (x0 : List Int) (n : Nat) : Int → (List Int) → Option (List Int) :=
  V.iter (fun (r6 : Int → (List Int) → Option (List Int)) => fun v6_1 v6_2 => zq173.g6 x0 r6 v6_1 v6_2) (fun _ _ => none) n
theorem zq173.u6 (x0 : List Int) (n : Nat) (v6_1 : Int) (v6_2 : List Int) : zq173.l6 x0 (n + 1) v6_1 v6_2 = zq173.g6 x0 (zq173.l6 x0 n) v6_1 v6_2 := rfl
noncomputable abbrev zq173.b (x0 : List Int) (L6 : Int → (List Int) → Option (List Int)) : Option (List Int) :=
  L6 (0 : Int) []
noncomputable def zq173 (x0 : List Int) : Option (List Int) :=
  zq173.b x0 (zq173.l6 x0 V.KK)
noncomputable abbrev zq170.g8 (r8 : (List Int) → Option Int) (v8_0 : List Int) : Option Int :=
  bif decide ((v8_0.length : Int) > (1 : Int)) then
  (zq173 v8_0).bind fun y2 =>
    r8 y2
else
  bif decide (0 ≤ (0 : Int)) then
    bif decide ((0 : Int) < (v8_0.length : Int)) then
      some (v8_0.getD ((0 : Int).toNat) (0 : Int))
    else none
  else none
noncomputable def zq170.l8 (n : Nat) : (List Int) → Option Int :=
  V.iter (fun (r8 : (List Int) → Option Int) => fun v8_0 => zq170.g8 r8 v8_0) (fun _ => none) n
theorem zq170.u8 (n : Nat) (v8_0 : List Int) : zq170.l8 (n + 1) v8_0 = zq170.g8 (zq170.l8 n) v8_0 := rfl
noncomputable abbrev zq170.b (x0 : List Int) (L8 : (List Int) → Option Int) : Option Int :=
  bif (x0.length : Int) == (0 : Int) then
  (zq141 [(229 : Int)]).bind fun y1 =>
    some y1
else L8 x0
noncomputable def zq170 (x0 : List Int) : Option Int :=
  zq170.b x0 (zq170.l8 V.KK)
noncomputable def zq165 (x0 : List TEntry) : Option Int :=
  (zq159 x0).bind fun y1 =>
  (zq170 y1).bind fun y2 =>
    (zq172 (x0.length : Int) y2).bind fun y3 =>
      some y3
noncomputable def zq174 (x0 : TEntry) (x1 : TProof) : Option Bool :=
  (zq135 x0 ((⟨#[]⟩ : ByteArray), (0 : Int), (0 : Int), [])).bind fun y1 =>
  bif y1 then
    (zq139 x1 ((0 : Int), [])).bind fun y2 =>
      some y2
  else some false
noncomputable def zq131 (x0 : ByteArray) (x1 : ByteArray) : Option Int :=
  bif Op.bytesLess x0.toList x1.toList then
  some (-1 : Int)
else
  bif !(Op.bytesLess x0.toList x1.toList || x0.toList == x1.toList) then
    some (1 : Int)
  else some (0 : Int)
noncomputable abbrev zq128.g17 (x0 : Int) (x1 : Int) (x2 : ByteArray) (x3 : TGap) : Option Bool :=
  bif (Gap_At x3) == x1 then
  (zq174 (Gap_After x3) (Gap_Right x3)).bind fun y5 =>
    some y5
else
  (zq130 x0 x1 (Gap_After x3) (Gap_Right x3)).bind fun y6 =>
    bif y6 then
      bif (Gap_Right x3).1 == (Gap_At x3) then
        (zq131 (Gap_After x3).1 x2).bind fun y7 =>
          some (y7 == (1 : Int))
      else some false
    else some false
noncomputable def zq128.l17 (x0 : Int) (x1 : Int) (x2 : ByteArray) (x3 : TGap) : Option Bool :=
  zq128.g17 x0 x1 x2 x3
noncomputable abbrev zq128.g7 (x0 : Int) (x1 : Int) (x2 : ByteArray) (x3 : TGap) (L17 : Option Bool) : Option Bool :=
  bif (Gap_At x3) == (0 : Int) then
  (zq174 (Gap_Before x3) (Gap_Left x3)).bind fun y4 =>
    bif !y4 then
      some false
    else L17
else
  (zq130 x0 x1 (Gap_Before x3) (Gap_Left x3)).bind fun y8 =>
    bif !y8 then
      some false
    else
      bif (Gap_Left x3).1 != (IntKind.i64.wrap ((Gap_At x3) - (1 : Int))) then
        some false
      else
        (zq131 (Gap_Before x3).1 x2).bind fun y9 =>
          bif y9 != (-1 : Int) then
            some false
          else L17
noncomputable def zq128.l7 (x0 : Int) (x1 : Int) (x2 : ByteArray) (x3 : TGap) : Option Bool :=
  zq128.g7 x0 x1 x2 x3 (zq128.l17 x0 x1 x2 x3)
noncomputable abbrev zq128.b (x0 : Int) (x1 : Int) (x2 : ByteArray) (x3 : TGap) (L7 : Option Bool) : Option Bool :=
  (zq150 x2).bind fun y1 =>
  bif !y1 then
    some false
  else
    (zq179 (Gap_At x3) (0 : Int) x1).bind fun y2 =>
      bif !y2 then
        some false
      else
        bif x1 == (0 : Int) then
          (zq165 []).bind fun y3 =>
            bif x0 != y3 then
              some false
            else L7
        else L7
noncomputable def zq128 (x0 : Int) (x1 : Int) (x2 : ByteArray) (x3 : TGap) : Option Bool :=
  zq128.b x0 x1 x2 x3 (zq128.l7 x0 x1 x2 x3)
noncomputable def zq180 (x0 : THead) (x1 : ByteArray) (x2 : TAnswer) : Option Bool :=
  bif (Answer_Found x2) then
  bif (Answer_Entry x2).1.toList == x1.toList then
    (zq130 (Head_Root x0) (Head_Count x0) (Answer_Entry x2) (Answer_Proof x2)).bind fun y1 =>
      bif y1 then
        (zq136 (Answer_Gap x2) dGap).bind fun y2 =>
          some y2
      else some false
  else some false
else
  (zq128 (Head_Root x0) (Head_Count x0) x1 (Answer_Gap x2)).bind fun y3 =>
    bif y3 then
      (zq174 (Answer_Entry x2) (Answer_Proof x2)).bind fun y4 =>
        some y4
    else some false
noncomputable def zq129 (x0 : Int) (x1 : ByteArray) (x2 : TAnswer) (x3 : Int) : Option Int :=
  (zq157 (Answer_Chain x2)).bind fun y1 =>
  bif !(RHeadBool_r1 y1) then
    some (3 : Int)
  else
    bif (Head_Zone (RHeadBool_r0 y1)) != x0 then
      some (2 : Int)
    else
      (zq147 (RHeadBool_r0 y1) x3).bind fun y2 =>
        bif !y2 then
          some (4 : Int)
        else
          bif (Head_Frozen (RHeadBool_r0 y1)) then
            some (5 : Int)
          else
            (zq180 (RHeadBool_r0 y1) x1 x2).bind fun y3 =>
              bif !y3 then
                some (6 : Int)
              else some (1 : Int)
noncomputable def zq181 (x0 : List ByteArray) : Option (List ByteArray) :=
  bif decide (([] : List ByteArray).length + x0.length < 68719476736) then
  some ([] ++ x0)
else none
noncomputable def zq183 (x0 : TEntry) : Option TEntry :=
  (zq181 x0.2.2.2).bind fun y1 =>
  some (x0.1, x0.2.1, x0.2.2.1, y1)
noncomputable abbrev zq133.g5 (x2 : TAnswer) (v5_0 : Bool) : Option TREntryBool :=
  bif v5_0 then
  some dREntryBool
else
  (zq183 (Answer_Entry x2)).bind fun y2 =>
    some (REntryBool_mk y2 true)
noncomputable def zq133.l5 (x2 : TAnswer) (v5_0 : Bool) : Option TREntryBool :=
  zq133.g5 x2 v5_0
noncomputable abbrev zq133.b (x0 : Int) (x1 : ByteArray) (x2 : TAnswer) (x3 : Int) (L5 : Bool → Option TREntryBool) : Option TREntryBool :=
  (zq129 x0 x1 x2 x3).bind fun y1 =>
  bif y1 != (1 : Int) then
    L5 true
  else L5 (!(Answer_Found x2))
noncomputable def zq133 (x0 : Int) (x1 : ByteArray) (x2 : TAnswer) (x3 : Int) : Option TREntryBool :=
  zq133.b x0 x1 x2 x3 (zq133.l5 x2)
noncomputable def zq17 (x0 : Int) (x1 : Int) (x2 : Int) : Option Bool :=
  bif decide (x1 ≤ x0) then
  some (decide (x0 ≤ x2))
else some false
noncomputable def zq55 (x0 : Int) : Option Bool :=
  (zq17 x0 (0 : Int) (2147483646 : Int)).bind fun y1 =>
  some y1
noncomputable def zq60 (x0 : THead) : Option Bool :=
  bif decide ((Head_Time x0) ≥ (0 : Int)) then
  bif decide ((Head_Time x0) ≤ (Head_Until x0)) then
    bif decide ((Head_Until x0) ≤ (100000 : Int)) then
      some (decide ((IntKind.i64.wrap ((Head_Until x0) - (Head_Time x0))) ≤ (200 : Int)))
    else some false
  else some false
else some false
noncomputable abbrev zq48.g4 (x0 : List Int) (r4 : Int → Int → Option Bool) (v4_1 : Int) (v4_2 : Int) : Option Bool :=
  bif decide (v4_2 < v4_1) then
  bif decide (v4_2 > (0 : Int)) then
    bif decide (0 ≤ v4_2) then
      bif decide (v4_2 < (x0.length : Int)) then
        bif decide (0 ≤ (IntKind.i64.wrap (v4_2 - (1 : Int)))) then
          bif decide ((IntKind.i64.wrap (v4_2 - (1 : Int))) < (x0.length : Int)) then
            bif decide ((x0.getD v4_2.toNat (0 : Int)) ≤ (x0.getD ((IntKind.i64.wrap (v4_2 - (1 : Int))).toNat) (0 : Int))) then
              some false
            else r4 v4_1 (IntKind.i64.wrap (v4_2 + (1 : Int)))
          else none
        else none
      else none
    else none
  else r4 v4_1 (IntKind.i64.wrap (v4_2 + (1 : Int)))
else some true
noncomputable def zq48.l4 (x0 : List Int) (n : Nat) : Int → Int → Option Bool :=
  V.iter (fun (r4 : Int → Int → Option Bool) => fun v4_1 v4_2 => zq48.g4 x0 r4 v4_1 v4_2) (fun _ _ => none) n
theorem zq48.u4 (x0 : List Int) (n : Nat) (v4_1 : Int) (v4_2 : Int) : zq48.l4 x0 (n + 1) v4_1 v4_2 = zq48.g4 x0 (zq48.l4 x0 n) v4_1 v4_2 := rfl
noncomputable abbrev zq48.b (x0 : List Int) (L4 : Int → Int → Option Bool) : Option Bool :=
  L4 (x0.length : Int) (0 : Int)
noncomputable def zq48 (x0 : List Int) : Option Bool :=
  zq48.b x0 (zq48.l4 x0 V.KK)
noncomputable def zq56 (x0 : Int) : Option Bool :=
  (zq17 x0 (1 : Int) (99 : Int)).bind fun y1 =>
  some y1
noncomputable def zq23 (x0 : TKeys) : Option Bool :=
  (zq17 (x0.1.length : Int) (1 : Int) (4 : Int)).bind fun y1 =>
  bif y1 then
    (zq48 x0.1).bind fun y2 =>
      bif y2 then
        bif decide (0 ≤ (0 : Int)) then
          bif decide ((0 : Int) < (x0.1.length : Int)) then
            (zq56 (x0.1.getD ((0 : Int).toNat) (0 : Int))).bind fun y3 =>
              bif y3 then
                bif decide (0 ≤ (IntKind.i64.wrap ((x0.1.length : Int) - (1 : Int)))) then
                  bif decide ((IntKind.i64.wrap ((x0.1.length : Int) - (1 : Int))) < (x0.1.length : Int)) then
                    (zq56 (x0.1.getD ((IntKind.i64.wrap ((x0.1.length : Int) - (1 : Int))).toNat) (0 : Int))).bind fun y4 =>
                      bif y4 then
                        (zq17 x0.2 (1 : Int) (x0.1.length : Int)).bind fun y5 =>
                          some y5
                      else some false
                  else none
                else none
              else some false
          else none
        else none
      else some false
  else some false
noncomputable def zq38 (x0 : TKeys) : Option Bool :=
  bif x0.2 == (0 : Int) then
  some ((x0.1.length : Int) == (0 : Int))
else some false
noncomputable def zq57 (x0 : TKeys) : Option Bool :=
  (zq38 x0).bind fun y1 =>
  bif y1 then
    some true
  else
    (zq23 x0).bind fun y2 =>
      some y2
noncomputable def zq61 (x0 : Int) (x1 : TKeys) : Option Bool :=
  (zq38 x1).bind fun y1 =>
  bif y1 then
    some (x0 == (0 : Int))
  else
    (zq17 x0 (1 : Int) (500 : Int)).bind fun y2 =>
      some y2
noncomputable def zq22 (x0 : THead) : Option Bool :=
  (zq55 (Head_Zone x0)).bind fun y1 =>
  bif y1 then
    (zq55 (Head_Root x0)).bind fun y2 =>
      bif y2 then
        (zq55 (Head_Prev x0)).bind fun y3 =>
          bif y3 then
            (zq17 (Head_Epoch x0) (0 : Int) (200 : Int)).bind fun y4 =>
              bif y4 then
                (zq17 (Head_Kind x0) (1 : Int) (3 : Int)).bind fun y5 =>
                  bif y5 then
                    (zq60 x0).bind fun y6 =>
                      bif y6 then
                        (zq17 (Head_Count x0) (0 : Int) (12 : Int)).bind fun y7 =>
                          bif y7 then
                            (zq23 (Head_Keys x0)).bind fun y8 =>
                              bif y8 then
                                (zq57 (Head_Heirs x0)).bind fun y9 =>
                                  bif y9 then
                                    (zq57 (Head_Judge x0)).bind fun y10 =>
                                      bif y10 then
                                        (zq61 (Head_Wait x0) (Head_Heirs x0)).bind fun y11 =>
                                          bif y11 then
                                            bif (Head_Frozen x0) then
                                              (zq38 (Head_Judge x0)).bind fun y12 =>
                                                some (!y12)
                                            else some true
                                          else some false
                                      else some false
                                  else some false
                              else some false
                          else some false
                      else some false
                  else some false
              else some false
          else some false
      else some false
  else some false
noncomputable def zq30 (x0 : TKeys) : Option (List Int) :=
  bif decide ([x0.2, (x0.1.length : Int)].length + x0.1.length < 68719476736) then
  some ([x0.2, (x0.1.length : Int)] ++ x0.1)
else none
noncomputable def zq36 (x0 : Int) (x1 : Int) : Option Int :=
  (zq17 x1 (1 : Int) (1000000000000 : Int)).bind fun y1 =>
  bif !y1 then
    some (0 : Int)
  else
    bif (x1 == (0 : Int)) then
      none
    else
      bif (x1 == (0 : Int)) then
        none
      else some (Int.tmod (IntKind.i64.wrap ((Int.tmod x0 x1) + x1)) x1)
noncomputable abbrev zq14.g6 (x0 : List Int) (r6 : Int → Int → Int → Option Int) (v6_0 : Int) (v6_2 : Int) (v6_3 : Int) : Option Int :=
  bif decide (v6_3 < v6_2) then
  bif decide (0 ≤ v6_3) then
    bif decide (v6_3 < (x0.length : Int)) then
      (zq36 (x0.getD v6_3.toNat (0 : Int)) (2147483647 : Int)).bind fun y1 =>
        bif ((2147483647 : Int) == (0 : Int)) then
          none
        else r6 (Int.tmod (IntKind.i64.wrap ((IntKind.i64.wrap ((IntKind.i64.wrap (v6_0 * (1000003 : Int))) + y1)) + (13 : Int))) (2147483647 : Int)) v6_2 (IntKind.i64.wrap (v6_3 + (1 : Int)))
    else none
  else none
else some v6_0
noncomputable def zq14.l6 (x0 : List Int) (n : Nat) : Int → Int → Int → Option Int :=
  V.iter (fun (r6 : Int → Int → Int → Option Int) => fun v6_0 v6_2 v6_3 => zq14.g6 x0 r6 v6_0 v6_2 v6_3) (fun _ _ _ => none) n
theorem zq14.u6 (x0 : List Int) (n : Nat) (v6_0 : Int) (v6_2 : Int) (v6_3 : Int) : zq14.l6 x0 (n + 1) v6_0 v6_2 v6_3 = zq14.g6 x0 (zq14.l6 x0 n) v6_0 v6_2 v6_3 := rfl
noncomputable abbrev zq14.b (x0 : List Int) (L6 : Int → Int → Int → Option Int) : Option Int :=
  L6 (11 : Int) (x0.length : Int) (0 : Int)
noncomputable def zq14 (x0 : List Int) : Option Int :=
  zq14.b x0 (zq14.l6 x0 V.KK)
noncomputable def zq46 (x0 : TKeys) (x1 : Int) : Option Int :=
  (zq30 x0).bind fun y1 =>
  bif decide ([(239 : Int), x1].length + y1.length < 68719476736) then
    (zq14 ([(239 : Int), x1] ++ y1)).bind fun y2 =>
      some y2
  else none
noncomputable def zq49 (x0 : Bool) : Option Int :=
  bif x0 then
  some (1 : Int)
else some (0 : Int)
noncomputable abbrev zq124.g7 (x1 : Int) : Option (List Int) :=
  bif decide ((IntKind.i64.wrap (x1 - (IntKind.i64.wrap ((0 : Int) - ((0 : Nat) : Int))))) > (0 : Int)) then
  bif decide (0 ≤ (IntKind.i64.wrap (x1 - (IntKind.i64.wrap ((0 : Int) - ((0 : Nat) : Int)))))) then
    bif decide ((IntKind.i64.wrap (x1 - (IntKind.i64.wrap ((0 : Int) - ((0 : Nat) : Int))))) < (68719476736 : Int)) then
      bif decide (0 ≤ (0 : Int)) then
        bif decide ((0 : Int) ≤ ((0 : Nat) : Int)) then
          bif decide (((0 : Nat) : Int) ≤ (((List.replicate ((IntKind.i64.wrap (x1 - (IntKind.i64.wrap ((0 : Int) - ((0 : Nat) : Int))))).toNat) (0 : Int)).length) : Int)) then
            some ((List.replicate ((IntKind.i64.wrap (x1 - (IntKind.i64.wrap ((0 : Int) - ((0 : Nat) : Int))))).toNat) (0 : Int)).take (((0 : Nat) : Int).toNat))
          else none
        else none
      else none
    else none
  else none
else some []
noncomputable def zq124.l7 (x1 : Int) : Option (List Int) :=
  zq124.g7 x1
noncomputable abbrev zq124.b (x0 : List Int) (x1 : Int) (L7 : Option (List Int)) : Option (List Int) :=
  bif decide (x1 < (0 : Int)) then
  none
else L7
noncomputable def zq124 (x0 : List Int) (x1 : Int) : Option (List Int) :=
  zq124.b x0 x1 (zq124.l7 x1)
noncomputable abbrev zq119.g22 (x0 : List (List Int)) (r22 : Int → Int → (List Int) → Option (List Int)) (v22_1 : Int) (v22_2 : Int) (v22_3 : List Int) : Option (List Int) :=
  bif decide (v22_2 < v22_1) then
  bif decide (0 ≤ v22_2) then
    bif decide (v22_2 < (x0.length : Int)) then
      bif decide (v22_3.length + (x0.getD v22_2.toNat []).length < 68719476736) then
        r22 v22_1 (IntKind.i64.wrap (v22_2 + (1 : Int))) (v22_3 ++ (x0.getD v22_2.toNat []))
      else none
    else none
  else none
else some v22_3
noncomputable def zq119.l22 (x0 : List (List Int)) (n : Nat) : Int → Int → (List Int) → Option (List Int) :=
  V.iter (fun (r22 : Int → Int → (List Int) → Option (List Int)) => fun v22_1 v22_2 v22_3 => zq119.g22 x0 r22 v22_1 v22_2 v22_3) (fun _ _ _ => none) n
theorem zq119.u22 (x0 : List (List Int)) (n : Nat) (v22_1 : Int) (v22_2 : Int) (v22_3 : List Int) : zq119.l22 x0 (n + 1) v22_1 v22_2 v22_3 = zq119.g22 x0 (zq119.l22 x0 n) v22_1 v22_2 v22_3 := rfl
noncomputable abbrev zq119.g6 (x0 : List (List Int)) (r6 : Int → Int → Int → Option (List Int)) (L22 : Int → Int → (List Int) → Option (List Int)) (v6_1 : Int) (v6_3 : Int) (v6_4 : Int) : Option (List Int) :=
  bif decide (v6_4 < v6_3) then
  bif decide (0 ≤ v6_4) then
    bif decide (v6_4 < (x0.length : Int)) then
      bif decide ((IntKind.i64.wrap (v6_1 + ((x0.getD v6_4.toNat []).length : Int))) < (0 : Int)) then
        none
      else r6 (IntKind.i64.wrap (v6_1 + ((x0.getD v6_4.toNat []).length : Int))) v6_3 (IntKind.i64.wrap (v6_4 + (1 : Int)))
    else none
  else none
else
  (zq124 [] v6_1).bind fun y1 =>
    L22 (x0.length : Int) (0 : Int) y1
noncomputable def zq119.l6 (x0 : List (List Int)) (n : Nat) : Int → Int → Int → Option (List Int) :=
  V.iter (fun (r6 : Int → Int → Int → Option (List Int)) => fun v6_1 v6_3 v6_4 => zq119.g6 x0 r6 (zq119.l22 x0 V.KK) v6_1 v6_3 v6_4) (fun _ _ _ => none) n
theorem zq119.u6 (x0 : List (List Int)) (n : Nat) (v6_1 : Int) (v6_3 : Int) (v6_4 : Int) : zq119.l6 x0 (n + 1) v6_1 v6_3 v6_4 = zq119.g6 x0 (zq119.l6 x0 n) (zq119.l22 x0 V.KK) v6_1 v6_3 v6_4 := rfl
noncomputable abbrev zq119.b (x0 : List (List Int)) (L6 : Int → Int → Int → Option (List Int)) : Option (List Int) :=
  L6 (0 : Int) (x0.length : Int) (0 : Int)
noncomputable def zq119 (x0 : List (List Int)) : Option (List Int) :=
  zq119.b x0 (zq119.l6 x0 V.KK)
noncomputable def zq16 (x0 : THead) : Option (List Int) :=
  (zq30 (Head_Keys x0)).bind fun y1 =>
  (zq30 (Head_Heirs x0)).bind fun y2 =>
    (zq30 (Head_Judge x0)).bind fun y3 =>
      (zq49 (Head_Frozen x0)).bind fun y4 =>
        (zq119 [[(Head_Zone x0), (Head_Epoch x0), (Head_Kind x0), (Head_Time x0), (Head_Until x0), (Head_Count x0), (Head_Root x0), (Head_Prev x0)], y1, y2, [(Head_Wait x0)], y3, [y4]]).bind fun y5 =>
          some y5
noncomputable def zq29 (x0 : Int) (x1 : List Int) : Option Int :=
  (zq119 [[x0], x1, [x0]]).bind fun y1 =>
  (zq14 y1).bind fun y2 =>
    some y2
noncomputable def zq43 (x0 : Int) (x1 : List Int) : Option Int :=
  bif decide ([(223 : Int)].length + x1.length < 68719476736) then
  (zq29 x0 ([(223 : Int)] ++ x1)).bind fun y1 =>
    some y1
else none
noncomputable def zq27 (x0 : TSig) (x1 : List Int) : Option Bool :=
  (zq56 x0.1).bind fun y1 =>
  bif y1 then
    (zq43 x0.1 x1).bind fun y2 =>
      some (x0.2 == y2)
  else some false
noncomputable def zq6 (x0 : TSig) (x1 : Int) (x2 : List Int) : Option Bool :=
  bif x0.1 == x1 then
  (zq27 x0 x2).bind fun y1 =>
    some y1
else some false
noncomputable abbrev zq125.g4 (x0 : List TSig) (x1 : (Unit) × (Int × List Int)) (r4 : Int → Int → Option Int) (v4_2 : Int) (v4_3 : Int) : Option Int :=
  bif decide (v4_3 < v4_2) then
  bif decide (0 ≤ v4_3) then
    bif decide (v4_3 < (x0.length : Int)) then
      (zq6 (x0.getD v4_3.toNat dSig) x1.2.1 x1.2.2).bind fun y1 =>
        bif y1 then
          some v4_3
        else r4 v4_2 (IntKind.i64.wrap (v4_3 + (1 : Int)))
    else none
  else none
else some (-1 : Int)
noncomputable def zq125.l4 (x0 : List TSig) (x1 : (Unit) × (Int × List Int)) (n : Nat) : Int → Int → Option Int :=
  V.iter (fun (r4 : Int → Int → Option Int) => fun v4_2 v4_3 => zq125.g4 x0 x1 r4 v4_2 v4_3) (fun _ _ => none) n
theorem zq125.u4 (x0 : List TSig) (x1 : (Unit) × (Int × List Int)) (n : Nat) (v4_2 : Int) (v4_3 : Int) : zq125.l4 x0 x1 (n + 1) v4_2 v4_3 = zq125.g4 x0 x1 (zq125.l4 x0 x1 n) v4_2 v4_3 := rfl
noncomputable abbrev zq125.b (x0 : List TSig) (x1 : (Unit) × (Int × List Int)) (L4 : Int → Int → Option Int) : Option Int :=
  L4 (x0.length : Int) (0 : Int)
noncomputable def zq125 (x0 : List TSig) (x1 : (Unit) × (Int × List Int)) : Option Int :=
  zq125.b x0 x1 (zq125.l4 x0 x1 V.KK)
noncomputable def zq120 (x0 : List TSig) (x1 : (Unit) × (Int × List Int)) : Option Bool :=
  (zq125 x0 (x1.1, x1.2)).bind fun y1 =>
  some (decide (y1 ≥ (0 : Int)))
noncomputable abbrev zq5.g6 (x0 : TKeys) (x1 : List Int) (x2 : List TSig) (r6 : Int → Int → Int → Option Int) (v6_1 : Int) (v6_3 : Int) (v6_4 : Int) : Option Int :=
  bif decide (v6_4 < v6_3) then
  bif decide (0 ≤ v6_4) then
    bif decide (v6_4 < (x0.1.length : Int)) then
      (zq120 x2 ((), (x0.1.getD v6_4.toNat (0 : Int), x1))).bind fun y1 =>
        bif y1 then
          r6 (IntKind.i64.wrap (v6_1 + (1 : Int))) v6_3 (IntKind.i64.wrap (v6_4 + (1 : Int)))
        else r6 v6_1 v6_3 (IntKind.i64.wrap (v6_4 + (1 : Int)))
    else none
  else none
else some v6_1
noncomputable def zq5.l6 (x0 : TKeys) (x1 : List Int) (x2 : List TSig) (n : Nat) : Int → Int → Int → Option Int :=
  V.iter (fun (r6 : Int → Int → Int → Option Int) => fun v6_1 v6_3 v6_4 => zq5.g6 x0 x1 x2 r6 v6_1 v6_3 v6_4) (fun _ _ _ => none) n
theorem zq5.u6 (x0 : TKeys) (x1 : List Int) (x2 : List TSig) (n : Nat) (v6_1 : Int) (v6_3 : Int) (v6_4 : Int) : zq5.l6 x0 x1 x2 (n + 1) v6_1 v6_3 v6_4 = zq5.g6 x0 x1 x2 (zq5.l6 x0 x1 x2 n) v6_1 v6_3 v6_4 := rfl
noncomputable abbrev zq5.b (x0 : TKeys) (x1 : List Int) (x2 : List TSig) (L6 : Int → Int → Int → Option Int) : Option Int :=
  L6 (0 : Int) (x0.1.length : Int) (0 : Int)
noncomputable def zq5 (x0 : TKeys) (x1 : List Int) (x2 : List TSig) : Option Int :=
  zq5.b x0 x1 x2 (zq5.l6 x0 x1 x2 V.KK)
noncomputable def zq28 (x0 : TKeys) (x1 : List Int) (x2 : List TSig) : Option Bool :=
  (zq23 x0).bind fun y1 =>
  bif y1 then
    (zq5 x0 x1 x2).bind fun y2 =>
      some (decide (y2 ≥ x0.2))
  else some false
noncomputable def zq42 (x0 : TSigned) (x1 : TKeys) : Option Bool :=
  (zq16 (Signed_Head x0)).bind fun y1 =>
  (zq28 x1 y1 (Signed_Sigs x0)).bind fun y2 =>
    some y2
noncomputable def zq20 (x0 : TSigned) : Option Bool :=
  (zq22 (Signed_Head x0)).bind fun y1 =>
  bif y1 then
    bif (Head_Epoch (Signed_Head x0)) == (0 : Int) then
      bif (Head_Kind (Signed_Head x0)) == (1 : Int) then
        bif !(Head_Frozen (Signed_Head x0)) then
          (zq46 (Head_Keys (Signed_Head x0)) (Head_Prev (Signed_Head x0))).bind fun y2 =>
            bif (Head_Zone (Signed_Head x0)) == y2 then
              (zq42 x0 (Head_Keys (Signed_Head x0))).bind fun y3 =>
                some y3
            else some false
        else some false
      else some false
    else some false
  else some false
noncomputable def zq15 (x0 : THead) : Option Int :=
  (zq16 x0).bind fun y1 =>
  bif decide ([(233 : Int)].length + y1.length < 68719476736) then
    (zq14 ([(233 : Int)] ++ y1)).bind fun y2 =>
      some y2
  else none
noncomputable def zq58 (x0 : THead) (x1 : THead) : Option Bool :=
  bif (Head_Zone x1) == (Head_Zone x0) then
  bif (Head_Epoch x1) == (IntKind.i64.wrap ((Head_Epoch x0) + (1 : Int))) then
    (zq15 x0).bind fun y1 =>
      bif (Head_Prev x1) == y1 then
        some (decide ((Head_Time x1) ≥ (Head_Time x0)))
      else some false
  else some false
else some false
noncomputable def zq67 (x0 : THead) (x1 : TSigned) : Option Int :=
  bif (Head_Frozen x0) then
  some (4 : Int)
else
  bif (Head_Frozen (Signed_Head x1)) then
    some (6 : Int)
  else
    (zq42 x1 (Head_Keys x0)).bind fun y1 =>
      bif !y1 then
        some (7 : Int)
      else some (1 : Int)
noncomputable abbrev zq122.g8 (x0 : List Int) (x1 : List Int) (r8 : Int → Int → Option Bool) (v8_2 : Int) (v8_3 : Int) : Option Bool :=
  bif decide (v8_3 < v8_2) then
  bif decide (0 ≤ v8_3) then
    bif decide (v8_3 < (x0.length : Int)) then
      bif decide (0 ≤ v8_3) then
        bif decide (v8_3 < (x1.length : Int)) then
          bif (x0.getD v8_3.toNat (0 : Int)) != (x1.getD v8_3.toNat (0 : Int)) then
            some false
          else r8 v8_2 (IntKind.i64.wrap (v8_3 + (1 : Int)))
        else none
      else none
    else none
  else none
else some true
noncomputable def zq122.l8 (x0 : List Int) (x1 : List Int) (n : Nat) : Int → Int → Option Bool :=
  V.iter (fun (r8 : Int → Int → Option Bool) => fun v8_2 v8_3 => zq122.g8 x0 x1 r8 v8_2 v8_3) (fun _ _ => none) n
theorem zq122.u8 (x0 : List Int) (x1 : List Int) (n : Nat) (v8_2 : Int) (v8_3 : Int) : zq122.l8 x0 x1 (n + 1) v8_2 v8_3 = zq122.g8 x0 x1 (zq122.l8 x0 x1 n) v8_2 v8_3 := rfl
noncomputable abbrev zq122.b (x0 : List Int) (x1 : List Int) (L8 : Int → Int → Option Bool) : Option Bool :=
  bif (x0.length : Int) != (x1.length : Int) then
  some false
else L8 (x0.length : Int) (0 : Int)
noncomputable def zq122 (x0 : List Int) (x1 : List Int) : Option Bool :=
  zq122.b x0 x1 (zq122.l8 x0 x1 V.KK)
noncomputable def zq11 (x0 : TKeys) (x1 : TKeys) : Option Bool :=
  (zq122 x0.1 x1.1).bind fun y1 =>
  bif y1 then
    some (x0.2 == x1.2)
  else some false
noncomputable def zq41 (x0 : THead) (x1 : THead) : Option Bool :=
  bif (Head_Count x0) == (Head_Count x1) then
  some ((Head_Root x0) == (Head_Root x1))
else some false
noncomputable abbrev zq54.g15 (x0 : THead) (x1 : TSigned) (v15_0 : Bool) : Option Int :=
  bif v15_0 then
  some (6 : Int)
else
  (zq42 x1 (Head_Heirs x0)).bind fun y2 =>
    bif !y2 then
      some (7 : Int)
    else some (1 : Int)
noncomputable def zq54.l15 (x0 : THead) (x1 : TSigned) (v15_0 : Bool) : Option Int :=
  zq54.g15 x0 x1 v15_0
noncomputable abbrev zq54.g11 (x0 : THead) (x1 : TSigned) (L15 : Bool → Option Int) (v11_0 : Bool) : Option Int :=
  bif v11_0 then
  some (5 : Int)
else
  bif (Head_Frozen (Signed_Head x1)) then
    L15 true
  else
    (zq11 (Head_Keys (Signed_Head x1)) (Head_Heirs x0)).bind fun y3 =>
      bif !y3 then
        L15 true
      else
        (zq41 (Signed_Head x1) x0).bind fun y4 =>
          L15 (!y4)
noncomputable def zq54.l11 (x0 : THead) (x1 : TSigned) (v11_0 : Bool) : Option Int :=
  zq54.g11 x0 x1 (zq54.l15 x0 x1) v11_0
noncomputable abbrev zq54.b (x0 : THead) (x1 : TSigned) (L11 : Bool → Option Int) : Option Int :=
  bif (Head_Frozen x0) then
  some (4 : Int)
else
  (zq38 (Head_Heirs x0)).bind fun y1 =>
    bif y1 then
      L11 true
    else L11 (decide ((Head_Time (Signed_Head x1)) < (IntKind.i64.wrap ((Head_Until x0) + (Head_Wait x0)))))
noncomputable def zq54 (x0 : THead) (x1 : TSigned) : Option Int :=
  zq54.b x0 x1 (zq54.l11 x0 x1)
noncomputable abbrev zq64.g13 (x0 : THead) (x1 : TSigned) (v13_0 : Bool) : Option Int :=
  bif v13_0 then
  some (6 : Int)
else
  (zq42 x1 (Head_Judge x0)).bind fun y5 =>
    bif !y5 then
      some (7 : Int)
    else some (1 : Int)
noncomputable def zq64.l13 (x0 : THead) (x1 : TSigned) (v13_0 : Bool) : Option Int :=
  zq64.g13 x0 x1 v13_0
noncomputable abbrev zq64.g7 (x0 : THead) (x1 : TSigned) (L13 : Bool → Option Int) (v7_0 : Bool) : Option Int :=
  (zq38 (Head_Judge x0)).bind fun y4 =>
  bif y4 then
    some (5 : Int)
  else
    bif (Head_Frozen (Signed_Head x1)) == (Head_Frozen x0) then
      L13 true
    else
      bif !v7_0 then
        L13 true
      else
        bif (Head_Frozen (Signed_Head x1)) then
          (zq11 (Head_Keys (Signed_Head x1)) (Head_Keys x0)).bind fun y6 =>
            L13 (!y6)
        else L13 false
noncomputable def zq64.l7 (x0 : THead) (x1 : TSigned) (v7_0 : Bool) : Option Int :=
  zq64.g7 x0 x1 (zq64.l13 x0 x1) v7_0
noncomputable abbrev zq64.b (x0 : THead) (x1 : TSigned) (L7 : Bool → Option Int) : Option Int :=
  (zq41 (Signed_Head x1) x0).bind fun y1 =>
  bif y1 then
    (zq11 (Head_Judge (Signed_Head x1)) (Head_Judge x0)).bind fun y2 =>
      bif y2 then
        (zq11 (Head_Heirs (Signed_Head x1)) (Head_Heirs x0)).bind fun y3 =>
          bif y3 then
            L7 ((Head_Wait (Signed_Head x1)) == (Head_Wait x0))
          else L7 false
      else L7 false
  else L7 false
noncomputable def zq64 (x0 : THead) (x1 : TSigned) : Option Int :=
  zq64.b x0 x1 (zq64.l7 x0 x1)
noncomputable abbrev zq37.g5 (x0 : THead) (x1 : TSigned) (v5_0 : Bool) : Option Int :=
  bif v5_0 then
  some (2 : Int)
else
  (zq58 x0 (Signed_Head x1)).bind fun y2 =>
    bif !y2 then
      some (3 : Int)
    else
      bif (Head_Kind (Signed_Head x1)) == (1 : Int) then
        (zq67 x0 x1).bind fun y3 =>
          some y3
      else
        bif (Head_Kind (Signed_Head x1)) == (2 : Int) then
          (zq54 x0 x1).bind fun y4 =>
            some y4
        else
          (zq64 x0 x1).bind fun y5 =>
            some y5
noncomputable def zq37.l5 (x0 : THead) (x1 : TSigned) (v5_0 : Bool) : Option Int :=
  zq37.g5 x0 x1 v5_0
noncomputable abbrev zq37.b (x0 : THead) (x1 : TSigned) (L5 : Bool → Option Int) : Option Int :=
  (zq22 x0).bind fun y1 =>
  bif !y1 then
    L5 true
  else
    (zq22 (Signed_Head x1)).bind fun y6 =>
      L5 (!y6)
noncomputable def zq37 (x0 : THead) (x1 : TSigned) : Option Int :=
  zq37.b x0 x1 (zq37.l5 x0 x1)
noncomputable def zq35 (x0 : THead) (x1 : TSigned) : Option Bool :=
  (zq37 x0 x1).bind fun y1 =>
  some (y1 == (1 : Int))
noncomputable abbrev zq13.g4 (x0 : List TSigned) (r4 : Int → Int → Option Int) (v4_2 : Int) (v4_3 : Int) : Option Int :=
  bif decide (v4_3 < v4_2) then
  bif decide (0 ≤ v4_3) then
    bif decide (v4_3 < (x0.length : Int)) then
      bif v4_3 == (0 : Int) then
        (zq20 (x0.getD v4_3.toNat dSigned)).bind fun y1 =>
          bif !y1 then
            some v4_3
          else
            bif decide (v4_3 > (0 : Int)) then
              bif decide (0 ≤ (IntKind.i64.wrap (v4_3 - (1 : Int)))) then
                bif decide ((IntKind.i64.wrap (v4_3 - (1 : Int))) < (x0.length : Int)) then
                  (zq35 (Signed_Head (x0.getD ((IntKind.i64.wrap (v4_3 - (1 : Int))).toNat) dSigned)) (x0.getD v4_3.toNat dSigned)).bind fun y2 =>
                    bif !y2 then
                      some v4_3
                    else r4 v4_2 (IntKind.i64.wrap (v4_3 + (1 : Int)))
                else none
              else none
            else r4 v4_2 (IntKind.i64.wrap (v4_3 + (1 : Int)))
      else
        bif decide (v4_3 > (0 : Int)) then
          bif decide (0 ≤ (IntKind.i64.wrap (v4_3 - (1 : Int)))) then
            bif decide ((IntKind.i64.wrap (v4_3 - (1 : Int))) < (x0.length : Int)) then
              (zq35 (Signed_Head (x0.getD ((IntKind.i64.wrap (v4_3 - (1 : Int))).toNat) dSigned)) (x0.getD v4_3.toNat dSigned)).bind fun y3 =>
                bif !y3 then
                  some v4_3
                else r4 v4_2 (IntKind.i64.wrap (v4_3 + (1 : Int)))
            else none
          else none
        else r4 v4_2 (IntKind.i64.wrap (v4_3 + (1 : Int)))
    else none
  else none
else some (-1 : Int)
noncomputable def zq13.l4 (x0 : List TSigned) (n : Nat) : Int → Int → Option Int :=
  V.iter (fun (r4 : Int → Int → Option Int) => fun v4_2 v4_3 => zq13.g4 x0 r4 v4_2 v4_3) (fun _ _ => none) n
theorem zq13.u4 (x0 : List TSigned) (n : Nat) (v4_2 : Int) (v4_3 : Int) : zq13.l4 x0 (n + 1) v4_2 v4_3 = zq13.g4 x0 (zq13.l4 x0 n) v4_2 v4_3 := rfl
noncomputable abbrev zq13.b (x0 : List TSigned) (L4 : Int → Int → Option Int) : Option Int :=
  L4 (x0.length : Int) (0 : Int)
noncomputable def zq13 (x0 : List TSigned) : Option Int :=
  zq13.b x0 (zq13.l4 x0 V.KK)
noncomputable def zq18 (x0 : List TSigned) : Option Bool :=
  (zq17 (x0.length : Int) (1 : Int) (12 : Int)).bind fun y1 =>
  bif y1 then
    (zq13 x0).bind fun y2 =>
      some (decide (y2 < (0 : Int)))
  else some false
noncomputable def zq65 (x0 : List TSigned) : Option THead :=
  bif decide (0 ≤ (IntKind.i64.wrap ((x0.length : Int) - (1 : Int)))) then
  bif decide ((IntKind.i64.wrap ((x0.length : Int) - (1 : Int))) < (x0.length : Int)) then
    some (Signed_Head (x0.getD ((IntKind.i64.wrap ((x0.length : Int) - (1 : Int))).toNat) dSigned))
  else none
else none
noncomputable def zq117 (x0 : List Int) : Option (List Int) :=
  bif x0.isEmpty then
  V.both (some [])
    (bif decide (([] : List Int).length + x0.length < 68719476736) then
      some ([] ++ x0)
    else none)
else
  bif decide (([] : List Int).length + x0.length < 68719476736) then
    some ([] ++ x0)
  else none
noncomputable def zq52 (x0 : TKeys) : Option TKeys :=
  (zq117 x0.1).bind fun y1 =>
  some (y1, x0.2)
noncomputable def zq51 (x0 : THead) : Option THead :=
  (zq52 (Head_Keys x0)).bind fun y1 =>
  (zq52 (Head_Heirs x0)).bind fun y2 =>
    (zq52 (Head_Judge x0)).bind fun y3 =>
      some (Head_mk (Head_Zone x0) (Head_Epoch x0) (Head_Kind x0) (Head_Time x0) (Head_Until x0) (Head_Count x0) (Head_Root x0) (Head_Prev x0) y1 y2 (Head_Wait x0) y3 (Head_Frozen x0))
noncomputable def zq32 (x0 : List TSigned) : Option TRHeadBool :=
  (zq18 x0).bind fun y1 =>
  bif !y1 then
    some dRHeadBool
  else
    (zq65 x0).bind fun y2 =>
      (zq51 y2).bind fun y3 =>
        some (RHeadBool_mk y3 true)
noncomputable def zq21 (x0 : THead) (x1 : Int) : Option Bool :=
  (zq17 x1 (Head_Time x0) (Head_Until x0)).bind fun y1 =>
  some y1
noncomputable abbrev zq0.g6 (x0 : List Int) (r6 : Int → Int → (List Int) → Option (List Int)) (v6_1 : Int) (v6_2 : Int) (v6_3 : List Int) : Option (List Int) :=
  bif decide (v6_2 < v6_1) then
  bif decide (0 ≤ v6_2) then
    bif decide (v6_2 < (x0.length : Int)) then
      bif decide (v6_3.length + [IntKind.i64.wrap (x0.getD v6_2.toNat (0 : Int))].length < 68719476736) then
        r6 v6_1 (IntKind.i64.wrap (v6_2 + (1 : Int))) (v6_3 ++ [IntKind.i64.wrap (x0.getD v6_2.toNat (0 : Int))])
      else none
    else none
  else none
else some v6_3
noncomputable def zq0.l6 (x0 : List Int) (n : Nat) : Int → Int → (List Int) → Option (List Int) :=
  V.iter (fun (r6 : Int → Int → (List Int) → Option (List Int)) => fun v6_1 v6_2 v6_3 => zq0.g6 x0 r6 v6_1 v6_2 v6_3) (fun _ _ _ => none) n
theorem zq0.u6 (x0 : List Int) (n : Nat) (v6_1 : Int) (v6_2 : Int) (v6_3 : List Int) : zq0.l6 x0 (n + 1) v6_1 v6_2 v6_3 = zq0.g6 x0 (zq0.l6 x0 n) v6_1 v6_2 v6_3 := rfl
noncomputable abbrev zq0.b (x0 : List Int) (L6 : Int → Int → (List Int) → Option (List Int)) : Option (List Int) :=
  L6 (x0.length : Int) (0 : Int) [(x0.length : Int)]
noncomputable def zq0 (x0 : List Int) : Option (List Int) :=
  zq0.b x0 (zq0.l6 x0 V.KK)
noncomputable def zq31 (x0 : ByteArray) : Option (List Int) :=
  bif V.smallS x0 then
  (zq0 (V.bytesOf x0)).bind fun y1 =>
    some y1
else none
noncomputable abbrev zq8.g6 (x0 : TEntry) (r6 : Int → Int → (List Int) → Option (List Int)) (v6_1 : Int) (v6_2 : Int) (v6_3 : List Int) : Option (List Int) :=
  bif decide (v6_2 < v6_1) then
  bif decide (0 ≤ v6_2) then
    bif decide (v6_2 < (x0.2.2.2.length : Int)) then
      (zq31 (x0.2.2.2.getD v6_2.toNat (⟨#[]⟩ : ByteArray))).bind fun y2 =>
        bif decide (v6_3.length + y2.length < 68719476736) then
          r6 v6_1 (IntKind.i64.wrap (v6_2 + (1 : Int))) (v6_3 ++ y2)
        else none
    else none
  else none
else some v6_3
noncomputable def zq8.l6 (x0 : TEntry) (n : Nat) : Int → Int → (List Int) → Option (List Int) :=
  V.iter (fun (r6 : Int → Int → (List Int) → Option (List Int)) => fun v6_1 v6_2 v6_3 => zq8.g6 x0 r6 v6_1 v6_2 v6_3) (fun _ _ _ => none) n
theorem zq8.u6 (x0 : TEntry) (n : Nat) (v6_1 : Int) (v6_2 : Int) (v6_3 : List Int) : zq8.l6 x0 (n + 1) v6_1 v6_2 v6_3 = zq8.g6 x0 (zq8.l6 x0 n) v6_1 v6_2 v6_3 := rfl
noncomputable abbrev zq8.b (x0 : TEntry) (L6 : Int → Int → (List Int) → Option (List Int)) : Option (List Int) :=
  (zq31 x0.1).bind fun y1 =>
  bif decide (y1.length + [x0.2.1, x0.2.2.1, (x0.2.2.2.length : Int)].length < 68719476736) then
    L6 (x0.2.2.2.length : Int) (0 : Int) (y1 ++ [x0.2.1, x0.2.2.1, (x0.2.2.2.length : Int)])
  else none
noncomputable def zq8 (x0 : TEntry) : Option (List Int) :=
  zq8.b x0 (zq8.l6 x0 V.KK)
noncomputable def zq33 (x0 : TEntry) : Option Int :=
  (zq8 x0).bind fun y1 =>
  bif decide ([(227 : Int)].length + y1.length < 68719476736) then
    (zq14 ([(227 : Int)] ++ y1)).bind fun y2 =>
      some y2
  else none
noncomputable def zq53 (x0 : List Int) : Option Int :=
  (zq14 x0).bind fun y1 =>
  some y1
noncomputable def zq39 (x0 : Int) (x1 : Int) : Option Int :=
  (zq53 [(229 : Int), x0, x1]).bind fun y1 =>
  some y1
noncomputable abbrev zq44.g9 (v6_1 : Int) (v6_2 : Int) (r6 : Int → Int → Int → (List Int) → Option (Int × Bool)) (v9_0 : Int) (v9_3 : List Int) : Option (Int × Bool) :=
  bif ((2 : Int) == (0 : Int)) then
  none
else
  bif ((2 : Int) == (0 : Int)) then
    none
  else r6 v9_0 (IntKind.i64.wrap (Int.tdiv v6_1 (2 : Int))) (IntKind.i64.wrap (Int.tdiv (IntKind.i64.wrap (v6_2 + (1 : Int))) (2 : Int))) v9_3
noncomputable def zq44.l9 (v6_1 : Int) (v6_2 : Int) (r6 : Int → Int → Int → (List Int) → Option (Int × Bool)) (v9_0 : Int) (v9_3 : List Int) : Option (Int × Bool) :=
  zq44.g9 v6_1 v6_2 r6 v9_0 v9_3
noncomputable abbrev zq44.g6 (r6 : Int → Int → Int → (List Int) → Option (Int × Bool)) (L9 : Int → (List Int) → Option (Int × Bool)) (v6_0 : Int) (v6_1 : Int) (v6_2 : Int) (v6_3 : List Int) : Option (Int × Bool) :=
  bif decide (v6_2 > (1 : Int)) then
  bif decide ((IntKind.i64.wrap ((BitVec.ofInt IntKind.i64.bits v6_1 ^^^ BitVec.ofInt IntKind.i64.bits (1 : Int)).toNat : Int)) ≥ v6_2) then
    L9 v6_0 v6_3
  else
    bif (v6_3.length : Int) == (0 : Int) then
      some ((0 : Int), false)
    else
      bif ((2 : Int) == (0 : Int)) then
        none
      else
        bif (Int.tmod v6_1 (2 : Int)) == (0 : Int) then
          bif decide (0 ≤ (0 : Int)) then
            bif decide ((0 : Int) < (v6_3.length : Int)) then
              (zq39 v6_0 (v6_3.getD ((0 : Int).toNat) (0 : Int))).bind fun y2 =>
                bif decide (0 ≤ (1 : Int)) then
                  bif decide ((1 : Int) ≤ (v6_3.length : Int)) then
                    bif decide ((v6_3.length : Int) ≤ (v6_3.length : Int)) then
                      L9 y2 (v6_3.drop ((1 : Int).toNat))
                    else none
                  else none
                else none
            else none
          else none
        else
          bif decide (0 ≤ (0 : Int)) then
            bif decide ((0 : Int) < (v6_3.length : Int)) then
              (zq39 (v6_3.getD ((0 : Int).toNat) (0 : Int)) v6_0).bind fun y3 =>
                bif decide (0 ≤ (1 : Int)) then
                  bif decide ((1 : Int) ≤ (v6_3.length : Int)) then
                    bif decide ((v6_3.length : Int) ≤ (v6_3.length : Int)) then
                      L9 y3 (v6_3.drop ((1 : Int).toNat))
                    else none
                  else none
                else none
            else none
          else none
else
  bif decide ((v6_3.length : Int) > (0 : Int)) then
    some ((0 : Int), false)
  else some (v6_0, true)
noncomputable def zq44.l6 (n : Nat) : Int → Int → Int → (List Int) → Option (Int × Bool) :=
  V.iter (fun (r6 : Int → Int → Int → (List Int) → Option (Int × Bool)) => fun v6_0 v6_1 v6_2 v6_3 => zq44.g6 r6 (zq44.l9 v6_1 v6_2 r6) v6_0 v6_1 v6_2 v6_3) (fun _ _ _ _ => none) n
theorem zq44.u6 (n : Nat) (v6_0 : Int) (v6_1 : Int) (v6_2 : Int) (v6_3 : List Int) : zq44.l6 (n + 1) v6_0 v6_1 v6_2 v6_3 = zq44.g6 (zq44.l6 n) (zq44.l9 v6_1 v6_2 (zq44.l6 n)) v6_0 v6_1 v6_2 v6_3 := rfl
noncomputable abbrev zq44.g7 (x0 : Int) (x1 : Int) (x2 : Int) (x3 : List Int) (L6 : Int → Int → Int → (List Int) → Option (Int × Bool)) : Option (Int × Bool) :=
  L6 x0 x1 x2 x3
noncomputable def zq44.l7 (x0 : Int) (x1 : Int) (x2 : Int) (x3 : List Int) : Option (Int × Bool) :=
  zq44.g7 x0 x1 x2 x3 (zq44.l6 V.KK)
noncomputable abbrev zq44.b (x0 : Int) (x1 : Int) (x2 : Int) (x3 : List Int) (L7 : Option (Int × Bool)) : Option (Int × Bool) :=
  bif decide (x2 < (1 : Int)) then
  some ((0 : Int), false)
else
  bif decide (x2 > (12 : Int)) then
    some ((0 : Int), false)
  else
    (zq17 x1 (0 : Int) (IntKind.i64.wrap (x2 - (1 : Int)))).bind fun y1 =>
      bif !y1 then
        some ((0 : Int), false)
      else L7
noncomputable def zq44 (x0 : Int) (x1 : Int) (x2 : Int) (x3 : List Int) : Option (Int × Bool) :=
  zq44.b x0 x1 x2 x3 (zq44.l7 x0 x1 x2 x3)
noncomputable abbrev zq24.g4 (x0 : ByteArray) (r4 : Int → Int → Option Bool) (v4_1 : Int) (v4_2 : Int) : Option Bool :=
  bif decide (v4_2 < v4_1) then
  bif decide (0 ≤ v4_2) then
    bif decide (v4_2 < (x0.size : Int)) then
      bif decide ((V.bt x0 v4_2) ≥ (97 : Int)) then
        bif decide ((V.bt x0 v4_2) ≤ (122 : Int)) then
          r4 v4_1 (IntKind.i64.wrap (v4_2 + (1 : Int)))
        else
          bif decide ((V.bt x0 v4_2) ≥ (48 : Int)) then
            bif decide ((V.bt x0 v4_2) ≤ (57 : Int)) then
              r4 v4_1 (IntKind.i64.wrap (v4_2 + (1 : Int)))
            else
              bif (V.bt x0 v4_2) == (45 : Int) then
                bif decide (v4_2 > (0 : Int)) then
                  bif !(decide (v4_2 < (IntKind.i64.wrap ((x0.size : Int) - (1 : Int))))) then
                    some false
                  else r4 v4_1 (IntKind.i64.wrap (v4_2 + (1 : Int)))
                else some false
              else some false
          else
            bif (V.bt x0 v4_2) == (45 : Int) then
              bif decide (v4_2 > (0 : Int)) then
                bif !(decide (v4_2 < (IntKind.i64.wrap ((x0.size : Int) - (1 : Int))))) then
                  some false
                else r4 v4_1 (IntKind.i64.wrap (v4_2 + (1 : Int)))
              else some false
            else some false
      else
        bif decide ((V.bt x0 v4_2) ≥ (48 : Int)) then
          bif decide ((V.bt x0 v4_2) ≤ (57 : Int)) then
            r4 v4_1 (IntKind.i64.wrap (v4_2 + (1 : Int)))
          else
            bif (V.bt x0 v4_2) == (45 : Int) then
              bif decide (v4_2 > (0 : Int)) then
                bif !(decide (v4_2 < (IntKind.i64.wrap ((x0.size : Int) - (1 : Int))))) then
                  some false
                else r4 v4_1 (IntKind.i64.wrap (v4_2 + (1 : Int)))
              else some false
            else some false
        else
          bif (V.bt x0 v4_2) == (45 : Int) then
            bif decide (v4_2 > (0 : Int)) then
              bif !(decide (v4_2 < (IntKind.i64.wrap ((x0.size : Int) - (1 : Int))))) then
                some false
              else r4 v4_1 (IntKind.i64.wrap (v4_2 + (1 : Int)))
            else some false
          else some false
    else none
  else none
else
  (zq17 (x0.size : Int) (1 : Int) (8 : Int)).bind fun y1 =>
    some y1
noncomputable def zq24.l4 (x0 : ByteArray) (n : Nat) : Int → Int → Option Bool :=
  V.iter (fun (r4 : Int → Int → Option Bool) => fun v4_1 v4_2 => zq24.g4 x0 r4 v4_1 v4_2) (fun _ _ => none) n
theorem zq24.u4 (x0 : ByteArray) (n : Nat) (v4_1 : Int) (v4_2 : Int) : zq24.l4 x0 (n + 1) v4_1 v4_2 = zq24.g4 x0 (zq24.l4 x0 n) v4_1 v4_2 := rfl
noncomputable abbrev zq24.b (x0 : ByteArray) (L4 : Int → Int → Option Bool) : Option Bool :=
  L4 (x0.size : Int) (0 : Int)
noncomputable def zq24 (x0 : ByteArray) : Option Bool :=
  zq24.b x0 (zq24.l4 x0 V.KK)
noncomputable def zq26 (x0 : ByteArray) : Option Bool :=
  (zq24 x0).bind fun y1 =>
  some (!y1)
noncomputable abbrev zq126.g4 (x0 : List ByteArray) (r4 : Int → Int → Option Int) (v4_1 : Int) (v4_2 : Int) : Option Int :=
  bif decide (v4_2 < v4_1) then
  bif decide (0 ≤ v4_2) then
    bif decide (v4_2 < (x0.length : Int)) then
      (zq26 (x0.getD v4_2.toNat (⟨#[]⟩ : ByteArray))).bind fun y1 =>
        bif y1 then
          some v4_2
        else r4 v4_1 (IntKind.i64.wrap (v4_2 + (1 : Int)))
    else none
  else none
else some (-1 : Int)
noncomputable def zq126.l4 (x0 : List ByteArray) (n : Nat) : Int → Int → Option Int :=
  V.iter (fun (r4 : Int → Int → Option Int) => fun v4_1 v4_2 => zq126.g4 x0 r4 v4_1 v4_2) (fun _ _ => none) n
theorem zq126.u4 (x0 : List ByteArray) (n : Nat) (v4_1 : Int) (v4_2 : Int) : zq126.l4 x0 (n + 1) v4_1 v4_2 = zq126.g4 x0 (zq126.l4 x0 n) v4_1 v4_2 := rfl
noncomputable abbrev zq126.b (x0 : List ByteArray) (x1 : (Unit) × (Unit)) (L4 : Int → Int → Option Int) : Option Int :=
  L4 (x0.length : Int) (0 : Int)
noncomputable def zq126 (x0 : List ByteArray) (x1 : (Unit) × (Unit)) : Option Int :=
  zq126.b x0 x1 (zq126.l4 x0 V.KK)
noncomputable def zq121 (x0 : List ByteArray) (x1 : (Unit) × (Unit)) : Option Bool :=
  (zq126 x0 (x1.1, x1.2)).bind fun y1 =>
  some (decide (y1 ≥ (0 : Int)))
noncomputable def zq25 (x0 : List ByteArray) : Option Bool :=
  (zq17 (x0.length : Int) (1 : Int) (4 : Int)).bind fun y1 =>
  bif y1 then
    (zq121 x0 ((), ())).bind fun y2 =>
      some (!y2)
  else some false
noncomputable def zq19 (x0 : TEntry) : Option Bool :=
  (zq24 x0.1).bind fun y1 =>
  bif !y1 then
    some false
  else
    bif x0.2.1 == (1 : Int) then
      (zq17 x0.2.2.1 (0 : Int) (999999 : Int)).bind fun y2 =>
        bif y2 then
          some ((x0.2.2.2.length : Int) == (0 : Int))
        else some false
    else
      bif x0.2.1 == (2 : Int) then
        (zq55 x0.2.2.1).bind fun y3 =>
          bif y3 then
            some ((x0.2.2.2.length : Int) == (0 : Int))
          else some false
      else
        bif x0.2.1 == (3 : Int) then
          (zq55 x0.2.2.1).bind fun y4 =>
            bif y4 then
              (zq25 x0.2.2.2).bind fun y5 =>
                some y5
            else some false
        else some false
noncomputable def zq68 (x0 : Int) (x1 : Int) : Option Int :=
  (zq53 [(231 : Int), x0, x1]).bind fun y1 =>
  some y1
noncomputable def zq3 (x0 : Int) (x1 : Int) (x2 : TEntry) (x3 : TProof) : Option Bool :=
  (zq33 x2).bind fun y1 =>
  (zq44 y1 x3.1 x1 x3.2).bind fun y2 =>
    bif y2.2 then
      (zq19 x2).bind fun y3 =>
        bif y3 then
          (zq68 x1 y2.1).bind fun y4 =>
            some (y4 == x0)
        else some false
    else some false
noncomputable abbrev zq123.g8 (x0 : List ByteArray) (x1 : List ByteArray) (r8 : Int → Int → Option Bool) (v8_2 : Int) (v8_3 : Int) : Option Bool :=
  bif decide (v8_3 < v8_2) then
  bif decide (0 ≤ v8_3) then
    bif decide (v8_3 < (x0.length : Int)) then
      bif decide (0 ≤ v8_3) then
        bif decide (v8_3 < (x1.length : Int)) then
          bif !((x0.getD v8_3.toNat (⟨#[]⟩ : ByteArray)).toList == (x1.getD v8_3.toNat (⟨#[]⟩ : ByteArray)).toList) then
            some false
          else r8 v8_2 (IntKind.i64.wrap (v8_3 + (1 : Int)))
        else none
      else none
    else none
  else none
else some true
noncomputable def zq123.l8 (x0 : List ByteArray) (x1 : List ByteArray) (n : Nat) : Int → Int → Option Bool :=
  V.iter (fun (r8 : Int → Int → Option Bool) => fun v8_2 v8_3 => zq123.g8 x0 x1 r8 v8_2 v8_3) (fun _ _ => none) n
theorem zq123.u8 (x0 : List ByteArray) (x1 : List ByteArray) (n : Nat) (v8_2 : Int) (v8_3 : Int) : zq123.l8 x0 x1 (n + 1) v8_2 v8_3 = zq123.g8 x0 x1 (zq123.l8 x0 x1 n) v8_2 v8_3 := rfl
noncomputable abbrev zq123.b (x0 : List ByteArray) (x1 : List ByteArray) (L8 : Int → Int → Option Bool) : Option Bool :=
  bif (x0.length : Int) != (x1.length : Int) then
  some false
else L8 (x0.length : Int) (0 : Int)
noncomputable def zq123 (x0 : List ByteArray) (x1 : List ByteArray) : Option Bool :=
  zq123.b x0 x1 (zq123.l8 x0 x1 V.KK)
noncomputable def zq9 (x0 : TEntry) (x1 : TEntry) : Option Bool :=
  bif x0.1.toList == x1.1.toList then
  bif x0.2.1 == x1.2.1 then
    bif x0.2.2.1 == x1.2.2.1 then
      (zq123 x0.2.2.2 x1.2.2.2).bind fun y1 =>
        some y1
    else some false
  else some false
else some false
noncomputable def zq12 (x0 : TProof) (x1 : TProof) : Option Bool :=
  bif x0.1 == x1.1 then
  (zq122 x0.2 x1.2).bind fun y1 =>
    some y1
else some false
noncomputable def zq10 (x0 : TGap) (x1 : TGap) : Option Bool :=
  bif (Gap_At x0) == (Gap_At x1) then
  (zq9 (Gap_Before x0) (Gap_Before x1)).bind fun y1 =>
    bif y1 then
      (zq9 (Gap_After x0) (Gap_After x1)).bind fun y2 =>
        bif y2 then
          (zq12 (Gap_Left x0) (Gap_Left x1)).bind fun y3 =>
            bif y3 then
              (zq12 (Gap_Right x0) (Gap_Right x1)).bind fun y4 =>
                some y4
            else some false
        else some false
    else some false
else some false
noncomputable abbrev zq34.g6 (x0 : List TEntry) (r6 : Int → Int → (List Int) → Option (List Int)) (v6_1 : Int) (v6_2 : Int) (v6_3 : List Int) : Option (List Int) :=
  bif decide (v6_2 < v6_1) then
  bif decide (0 ≤ v6_2) then
    bif decide (v6_2 < (x0.length : Int)) then
      (zq33 (x0.getD v6_2.toNat dEntry)).bind fun y1 =>
        bif decide (v6_3.length + [y1].length < 68719476736) then
          r6 v6_1 (IntKind.i64.wrap (v6_2 + (1 : Int))) (v6_3 ++ [y1])
        else none
    else none
  else none
else some v6_3
noncomputable def zq34.l6 (x0 : List TEntry) (n : Nat) : Int → Int → (List Int) → Option (List Int) :=
  V.iter (fun (r6 : Int → Int → (List Int) → Option (List Int)) => fun v6_1 v6_2 v6_3 => zq34.g6 x0 r6 v6_1 v6_2 v6_3) (fun _ _ _ => none) n
theorem zq34.u6 (x0 : List TEntry) (n : Nat) (v6_1 : Int) (v6_2 : Int) (v6_3 : List Int) : zq34.l6 x0 (n + 1) v6_1 v6_2 v6_3 = zq34.g6 x0 (zq34.l6 x0 n) v6_1 v6_2 v6_3 := rfl
noncomputable abbrev zq34.b (x0 : List TEntry) (L6 : Int → Int → (List Int) → Option (List Int)) : Option (List Int) :=
  L6 (x0.length : Int) (0 : Int) []
noncomputable def zq34 (x0 : List TEntry) : Option (List Int) :=
  zq34.b x0 (zq34.l6 x0 V.KK)
noncomputable abbrev zq47.g6 (x0 : List Int) (r6 : Int → (List Int) → Option (List Int)) (v6_1 : Int) (v6_2 : List Int) : Option (List Int) :=
  bif decide (v6_1 < (x0.length : Int)) then
  bif decide ((IntKind.i64.wrap (v6_1 + (1 : Int))) < (x0.length : Int)) then
    bif decide (0 ≤ v6_1) then
      bif decide (v6_1 < (x0.length : Int)) then
        bif decide (0 ≤ (IntKind.i64.wrap (v6_1 + (1 : Int)))) then
          bif decide ((IntKind.i64.wrap (v6_1 + (1 : Int))) < (x0.length : Int)) then
            (zq39 (x0.getD v6_1.toNat (0 : Int)) (x0.getD ((IntKind.i64.wrap (v6_1 + (1 : Int))).toNat) (0 : Int))).bind fun y1 =>
              bif decide (v6_2.length + [y1].length < 68719476736) then
                r6 (IntKind.i64.wrap (v6_1 + (2 : Int))) (v6_2 ++ [y1])
              else none
          else none
        else none
      else none
    else none
  else
    bif decide (0 ≤ v6_1) then
      bif decide (v6_1 < (x0.length : Int)) then
        bif decide (v6_2.length + [x0.getD v6_1.toNat (0 : Int)].length < 68719476736) then
          r6 (IntKind.i64.wrap (v6_1 + (2 : Int))) (v6_2 ++ [x0.getD v6_1.toNat (0 : Int)])
        else none
      else none
    else none
else some v6_2
noncomputable def zq47.l6 (x0 : List Int) (n : Nat) : Int → (List Int) → Option (List Int) :=
  V.iter (fun (r6 : Int → (List Int) → Option (List Int)) => fun v6_1 v6_2 => zq47.g6 x0 r6 v6_1 v6_2) (fun _ _ => none) n
theorem zq47.u6 (x0 : List Int) (n : Nat) (v6_1 : Int) (v6_2 : List Int) : zq47.l6 x0 (n + 1) v6_1 v6_2 = zq47.g6 x0 (zq47.l6 x0 n) v6_1 v6_2 := rfl
noncomputable abbrev zq47.b (x0 : List Int) (L6 : Int → (List Int) → Option (List Int)) : Option (List Int) :=
  L6 (0 : Int) []
noncomputable def zq47 (x0 : List Int) : Option (List Int) :=
  zq47.b x0 (zq47.l6 x0 V.KK)
noncomputable abbrev zq45.g6 (r6 : (List Int) → Option Int) (v6_0 : List Int) : Option Int :=
  bif decide ((v6_0.length : Int) > (1 : Int)) then
  (zq47 v6_0).bind fun y2 =>
    r6 y2
else
  bif decide (0 ≤ (0 : Int)) then
    bif decide ((0 : Int) < (v6_0.length : Int)) then
      some (v6_0.getD ((0 : Int).toNat) (0 : Int))
    else none
  else none
noncomputable def zq45.l6 (n : Nat) : (List Int) → Option Int :=
  V.iter (fun (r6 : (List Int) → Option Int) => fun v6_0 => zq45.g6 r6 v6_0) (fun _ => none) n
theorem zq45.u6 (n : Nat) (v6_0 : List Int) : zq45.l6 (n + 1) v6_0 = zq45.g6 (zq45.l6 n) v6_0 := rfl
noncomputable abbrev zq45.b (x0 : List Int) (L6 : (List Int) → Option Int) : Option Int :=
  bif (x0.length : Int) == (0 : Int) then
  (zq53 [(229 : Int)]).bind fun y1 =>
    some y1
else L6 x0
noncomputable def zq45 (x0 : List Int) : Option Int :=
  zq45.b x0 (zq45.l6 V.KK)
noncomputable def zq40 (x0 : List TEntry) : Option Int :=
  (zq34 x0).bind fun y1 =>
  (zq45 y1).bind fun y2 =>
    (zq68 (x0.length : Int) y2).bind fun y3 =>
      some y3
noncomputable def zq62 (x0 : TEntry) : Option Bool :=
  (zq9 x0 ((⟨#[]⟩ : ByteArray), (0 : Int), (0 : Int), [])).bind fun y1 =>
  some y1
noncomputable def zq63 (x0 : TProof) : Option Bool :=
  (zq12 x0 ((0 : Int), [])).bind fun y1 =>
  some y1
noncomputable def zq66 (x0 : Int) (x1 : Int) (x2 : TEntry) (x3 : TProof) (x4 : Int) : Option Bool :=
  (zq17 x4 (0 : Int) (IntKind.i64.wrap (x1 - (1 : Int)))).bind fun y1 =>
  bif !y1 then
    (zq62 x2).bind fun y2 =>
      bif y2 then
        (zq63 x3).bind fun y3 =>
          some y3
      else some false
  else
    (zq3 x0 x1 x2 x3).bind fun y4 =>
      bif y4 then
        some (x3.1 == x4)
      else some false
noncomputable def zq69 (x0 : ByteArray) (x1 : ByteArray) : Option Int :=
  some (Go.Lib.compareBytes x0.data.toList x1.data.toList)
noncomputable def zq184 (x0 : ByteArray) (x1 : ByteArray) : Option Int :=
  (zq69 x0 x1).bind fun y1 =>
  some y1
noncomputable def zq4 (x0 : ByteArray) (x1 : ByteArray) : Option Int :=
  (zq184 x0 x1).bind fun y1 =>
  some y1
noncomputable abbrev zq1.g11 (x1 : Int) (x2 : ByteArray) (x3 : TGap) : Option Bool :=
  bif (Gap_At x3) == (0 : Int) then
  bif (Gap_At x3) == x1 then
    some true
  else
    (zq4 (Gap_After x3).1 x2).bind fun y6 =>
      some (decide (y6 > (0 : Int)))
else
  (zq4 (Gap_Before x3).1 x2).bind fun y7 =>
    bif decide (y7 < (0 : Int)) then
      bif (Gap_At x3) == x1 then
        some true
      else
        (zq4 (Gap_After x3).1 x2).bind fun y8 =>
          some (decide (y8 > (0 : Int)))
    else some false
noncomputable def zq1.l11 (x1 : Int) (x2 : ByteArray) (x3 : TGap) : Option Bool :=
  zq1.g11 x1 x2 x3
noncomputable abbrev zq1.g7 (x0 : Int) (x1 : Int) (x2 : ByteArray) (x3 : TGap) (L11 : Option Bool) : Option Bool :=
  (zq66 x0 x1 (Gap_Before x3) (Gap_Left x3) (IntKind.i64.wrap ((Gap_At x3) - (1 : Int)))).bind fun y4 =>
  bif !y4 then
    some false
  else
    (zq66 x0 x1 (Gap_After x3) (Gap_Right x3) (Gap_At x3)).bind fun y5 =>
      bif !y5 then
        some false
      else L11
noncomputable def zq1.l7 (x0 : Int) (x1 : Int) (x2 : ByteArray) (x3 : TGap) : Option Bool :=
  zq1.g7 x0 x1 x2 x3 (zq1.l11 x1 x2 x3)
noncomputable abbrev zq1.b (x0 : Int) (x1 : Int) (x2 : ByteArray) (x3 : TGap) (L7 : Option Bool) : Option Bool :=
  (zq24 x2).bind fun y1 =>
  bif !y1 then
    some false
  else
    (zq17 (Gap_At x3) (0 : Int) x1).bind fun y2 =>
      bif !y2 then
        some false
      else
        bif x1 == (0 : Int) then
          (zq40 []).bind fun y3 =>
            bif x0 != y3 then
              some false
            else L7
        else L7
noncomputable def zq1 (x0 : Int) (x1 : Int) (x2 : ByteArray) (x3 : TGap) : Option Bool :=
  zq1.b x0 x1 x2 x3 (zq1.l7 x0 x1 x2 x3)
noncomputable def zq59 (x0 : THead) (x1 : ByteArray) (x2 : TAnswer) : Option Bool :=
  bif (Answer_Found x2) then
  bif (Answer_Entry x2).1.toList == x1.toList then
    (zq3 (Head_Root x0) (Head_Count x0) (Answer_Entry x2) (Answer_Proof x2)).bind fun y1 =>
      bif y1 then
        (zq10 (Answer_Gap x2) dGap).bind fun y2 =>
          some y2
      else some false
  else some false
else
  (zq1 (Head_Root x0) (Head_Count x0) x1 (Answer_Gap x2)).bind fun y3 =>
    bif y3 then
      (zq62 (Answer_Entry x2)).bind fun y4 =>
        bif y4 then
          (zq63 (Answer_Proof x2)).bind fun y5 =>
            some y5
        else some false
    else some false
noncomputable def zq2 (x0 : Int) (x1 : ByteArray) (x2 : TAnswer) (x3 : Int) : Option Int :=
  (zq32 (Answer_Chain x2)).bind fun y1 =>
  bif !(RHeadBool_r1 y1) then
    some (3 : Int)
  else
    bif (Head_Zone (RHeadBool_r0 y1)) != x0 then
      some (2 : Int)
    else
      (zq21 (RHeadBool_r0 y1) x3).bind fun y2 =>
        bif !y2 then
          some (4 : Int)
        else
          bif (Head_Frozen (RHeadBool_r0 y1)) then
            some (5 : Int)
          else
            (zq59 (RHeadBool_r0 y1) x1 x2).bind fun y3 =>
              bif !y3 then
                some (6 : Int)
              else some (1 : Int)
noncomputable def zq118 (x0 : List ByteArray) : Option (List ByteArray) :=
  bif x0.isEmpty then
  V.both (some [])
    (bif decide (([] : List ByteArray).length + x0.length < 68719476736) then
      some ([] ++ x0)
    else none)
else
  bif decide (([] : List ByteArray).length + x0.length < 68719476736) then
    some ([] ++ x0)
  else none
noncomputable def zq50 (x0 : TEntry) : Option TEntry :=
  (zq118 x0.2.2.2).bind fun y1 =>
  some (x0.1, x0.2.1, x0.2.2.1, y1)
noncomputable abbrev zq7.g5 (x2 : TAnswer) (v5_0 : Bool) : Option TREntryBool :=
  bif v5_0 then
  some dREntryBool
else
  (zq50 (Answer_Entry x2)).bind fun y1 =>
    some (REntryBool_mk y1 true)
noncomputable def zq7.l5 (x2 : TAnswer) (v5_0 : Bool) : Option TREntryBool :=
  zq7.g5 x2 v5_0
noncomputable abbrev zq7.b (x0 : Int) (x1 : ByteArray) (x2 : TAnswer) (x3 : Int) (L5 : Bool → Option TREntryBool) : Option TREntryBool :=
  bif !(Answer_Found x2) then
  L5 true
else
  (zq2 x0 x1 x2 x3).bind fun y2 =>
    L5 (y2 != (1 : Int))
noncomputable def zq7 (x0 : Int) (x1 : ByteArray) (x2 : TAnswer) (x3 : Int) : Option TREntryBool :=
  zq7.b x0 x1 x2 x3 (zq7.l5 x2)
noncomputable abbrev zq82.g8 (x0 : List ByteArray) (x1 : List ByteArray) (r8 : Int → Option Bool) (v8_2 : Int) : Option Bool :=
  bif decide (v8_2 < (x0.length : Int)) then
  bif decide (0 ≤ v8_2) then
    bif decide (v8_2 < (x0.length : Int)) then
      bif decide (0 ≤ v8_2) then
        bif decide (v8_2 < (x1.length : Int)) then
          bif !((x0.getD v8_2.toNat (⟨#[]⟩ : ByteArray)).toList == (x1.getD v8_2.toNat (⟨#[]⟩ : ByteArray)).toList) then
            some false
          else r8 (IntKind.i64.wrap (v8_2 + (1 : Int)))
        else none
      else none
    else none
  else none
else some true
noncomputable def zq82.l8 (x0 : List ByteArray) (x1 : List ByteArray) (n : Nat) : Int → Option Bool :=
  V.iter (fun (r8 : Int → Option Bool) => fun v8_2 => zq82.g8 x0 x1 r8 v8_2) (fun _ => none) n
theorem zq82.u8 (x0 : List ByteArray) (x1 : List ByteArray) (n : Nat) (v8_2 : Int) : zq82.l8 x0 x1 (n + 1) v8_2 = zq82.g8 x0 x1 (zq82.l8 x0 x1 n) v8_2 := rfl
noncomputable abbrev zq82.b (x0 : List ByteArray) (x1 : List ByteArray) (L8 : Int → Option Bool) : Option Bool :=
  bif (x0.length : Int) != (x1.length : Int) then
  some false
else L8 (0 : Int)
noncomputable def zq82 (x0 : List ByteArray) (x1 : List ByteArray) : Option Bool :=
  zq82.b x0 x1 (zq82.l8 x0 x1 V.KK)
noncomputable def zq72 (x0 : TEntry) (x1 : TEntry) : Option Bool :=
  bif !(x0.1.toList == x1.1.toList) then
  some false
else
  bif x0.2.1 != x1.2.1 then
    some false
  else
    bif x0.2.2.1 != x1.2.2.1 then
      some false
    else
      (zq82 x0.2.2.2 x1.2.2.2).bind fun y1 =>
        bif !y1 then
          some false
        else some true
noncomputable abbrev zq75.g8 (x0 : List Int) (x1 : List Int) (r8 : Int → Option Bool) (v8_2 : Int) : Option Bool :=
  bif decide (v8_2 < (x0.length : Int)) then
  bif decide (0 ≤ v8_2) then
    bif decide (v8_2 < (x0.length : Int)) then
      bif decide (0 ≤ v8_2) then
        bif decide (v8_2 < (x1.length : Int)) then
          bif (x0.getD v8_2.toNat (0 : Int)) != (x1.getD v8_2.toNat (0 : Int)) then
            some false
          else r8 (IntKind.i64.wrap (v8_2 + (1 : Int)))
        else none
      else none
    else none
  else none
else some true
noncomputable def zq75.l8 (x0 : List Int) (x1 : List Int) (n : Nat) : Int → Option Bool :=
  V.iter (fun (r8 : Int → Option Bool) => fun v8_2 => zq75.g8 x0 x1 r8 v8_2) (fun _ => none) n
theorem zq75.u8 (x0 : List Int) (x1 : List Int) (n : Nat) (v8_2 : Int) : zq75.l8 x0 x1 (n + 1) v8_2 = zq75.g8 x0 x1 (zq75.l8 x0 x1 n) v8_2 := rfl
noncomputable abbrev zq75.b (x0 : List Int) (x1 : List Int) (L8 : Int → Option Bool) : Option Bool :=
  bif (x0.length : Int) != (x1.length : Int) then
  some false
else L8 (0 : Int)
noncomputable def zq75 (x0 : List Int) (x1 : List Int) : Option Bool :=
  zq75.b x0 x1 (zq75.l8 x0 x1 V.KK)
noncomputable def zq76 (x0 : TKeys) (x1 : TKeys) : Option Bool :=
  (zq75 x0.1 x1.1).bind fun y1 =>
  bif !y1 then
    some false
  else
    bif x0.2 != x1.2 then
      some false
    else some true
noncomputable def zq74 (x0 : THead) (x1 : THead) : Option Bool :=
  bif (Head_Zone x0) != (Head_Zone x1) then
  some false
else
  bif (Head_Epoch x0) != (Head_Epoch x1) then
    some false
  else
    bif (Head_Kind x0) != (Head_Kind x1) then
      some false
    else
      bif (Head_Time x0) != (Head_Time x1) then
        some false
      else
        bif (Head_Until x0) != (Head_Until x1) then
          some false
        else
          bif (Head_Count x0) != (Head_Count x1) then
            some false
          else
            bif (Head_Root x0) != (Head_Root x1) then
              some false
            else
              bif (Head_Prev x0) != (Head_Prev x1) then
                some false
              else
                (zq76 (Head_Keys x0) (Head_Keys x1)).bind fun y1 =>
                  bif !y1 then
                    some false
                  else
                    (zq76 (Head_Heirs x0) (Head_Heirs x1)).bind fun y2 =>
                      bif !y2 then
                        some false
                      else
                        bif (Head_Wait x0) != (Head_Wait x1) then
                          some false
                        else
                          (zq76 (Head_Judge x0) (Head_Judge x1)).bind fun y3 =>
                            bif !y3 then
                              some false
                            else
                              bif !((Head_Frozen x0) == (Head_Frozen x1)) then
                                some false
                              else some true
noncomputable def zq78 (x0 : TSig) (x1 : TSig) : Option Bool :=
  bif x0.1 != x1.1 then
  some false
else
  bif x0.2 != x1.2 then
    some false
  else some true
noncomputable abbrev zq79.g8 (x0 : List TSig) (x1 : List TSig) (r8 : Int → Option Bool) (v8_2 : Int) : Option Bool :=
  bif decide (v8_2 < (x0.length : Int)) then
  bif decide (0 ≤ v8_2) then
    bif decide (v8_2 < (x0.length : Int)) then
      bif decide (0 ≤ v8_2) then
        bif decide (v8_2 < (x1.length : Int)) then
          (zq78 (x0.getD v8_2.toNat dSig) (x1.getD v8_2.toNat dSig)).bind fun y1 =>
            bif !y1 then
              some false
            else r8 (IntKind.i64.wrap (v8_2 + (1 : Int)))
        else none
      else none
    else none
  else none
else some true
noncomputable def zq79.l8 (x0 : List TSig) (x1 : List TSig) (n : Nat) : Int → Option Bool :=
  V.iter (fun (r8 : Int → Option Bool) => fun v8_2 => zq79.g8 x0 x1 r8 v8_2) (fun _ => none) n
theorem zq79.u8 (x0 : List TSig) (x1 : List TSig) (n : Nat) (v8_2 : Int) : zq79.l8 x0 x1 (n + 1) v8_2 = zq79.g8 x0 x1 (zq79.l8 x0 x1 n) v8_2 := rfl
noncomputable abbrev zq79.b (x0 : List TSig) (x1 : List TSig) (L8 : Int → Option Bool) : Option Bool :=
  bif (x0.length : Int) != (x1.length : Int) then
  some false
else L8 (0 : Int)
noncomputable def zq79 (x0 : List TSig) (x1 : List TSig) : Option Bool :=
  zq79.b x0 x1 (zq79.l8 x0 x1 V.KK)
noncomputable def zq80 (x0 : TSigned) (x1 : TSigned) : Option Bool :=
  (zq74 (Signed_Head x0) (Signed_Head x1)).bind fun y1 =>
  bif !y1 then
    some false
  else
    (zq79 (Signed_Sigs x0) (Signed_Sigs x1)).bind fun y2 =>
      bif !y2 then
        some false
      else some true
noncomputable abbrev zq81.g8 (x0 : List TSigned) (x1 : List TSigned) (r8 : Int → Option Bool) (v8_2 : Int) : Option Bool :=
  bif decide (v8_2 < (x0.length : Int)) then
  bif decide (0 ≤ v8_2) then
    bif decide (v8_2 < (x0.length : Int)) then
      bif decide (0 ≤ v8_2) then
        bif decide (v8_2 < (x1.length : Int)) then
          (zq80 (x0.getD v8_2.toNat dSigned) (x1.getD v8_2.toNat dSigned)).bind fun y1 =>
            bif !y1 then
              some false
            else r8 (IntKind.i64.wrap (v8_2 + (1 : Int)))
        else none
      else none
    else none
  else none
else some true
noncomputable def zq81.l8 (x0 : List TSigned) (x1 : List TSigned) (n : Nat) : Int → Option Bool :=
  V.iter (fun (r8 : Int → Option Bool) => fun v8_2 => zq81.g8 x0 x1 r8 v8_2) (fun _ => none) n
theorem zq81.u8 (x0 : List TSigned) (x1 : List TSigned) (n : Nat) (v8_2 : Int) : zq81.l8 x0 x1 (n + 1) v8_2 = zq81.g8 x0 x1 (zq81.l8 x0 x1 n) v8_2 := rfl
noncomputable abbrev zq81.b (x0 : List TSigned) (x1 : List TSigned) (L8 : Int → Option Bool) : Option Bool :=
  bif (x0.length : Int) != (x1.length : Int) then
  some false
else L8 (0 : Int)
noncomputable def zq81 (x0 : List TSigned) (x1 : List TSigned) : Option Bool :=
  zq81.b x0 x1 (zq81.l8 x0 x1 V.KK)
noncomputable def zq77 (x0 : TProof) (x1 : TProof) : Option Bool :=
  bif x0.1 != x1.1 then
  some false
else
  (zq75 x0.2 x1.2).bind fun y1 =>
    bif !y1 then
      some false
    else some true
noncomputable def zq73 (x0 : TGap) (x1 : TGap) : Option Bool :=
  bif (Gap_At x0) != (Gap_At x1) then
  some false
else
  (zq72 (Gap_Before x0) (Gap_Before x1)).bind fun y1 =>
    bif !y1 then
      some false
    else
      (zq72 (Gap_After x0) (Gap_After x1)).bind fun y2 =>
        bif !y2 then
          some false
        else
          (zq77 (Gap_Left x0) (Gap_Left x1)).bind fun y3 =>
            bif !y3 then
              some false
            else
              (zq77 (Gap_Right x0) (Gap_Right x1)).bind fun y4 =>
                bif !y4 then
                  some false
                else some true
noncomputable def zq71 (x0 : TAnswer) (x1 : TAnswer) : Option Bool :=
  (zq81 (Answer_Chain x0) (Answer_Chain x1)).bind fun y1 =>
  bif !y1 then
    some false
  else
    bif !((Answer_Found x0) == (Answer_Found x1)) then
      some false
    else
      (zq72 (Answer_Entry x0) (Answer_Entry x1)).bind fun y2 =>
        bif !y2 then
          some false
        else
          (zq77 (Answer_Proof x0) (Answer_Proof x1)).bind fun y3 =>
            bif !y3 then
              some false
            else
              (zq73 (Answer_Gap x0) (Answer_Gap x1)).bind fun y4 =>
                bif !y4 then
                  some false
                else some true
noncomputable abbrev zq88.g4 (r4 : Int → Int → (List Int) → Option TKeys) (v4_0 : Int) (v4_1 : Int) (v4_2 : List Int) : Option TKeys :=
  bif decide (v4_1 < (v4_2.length : Int)) then
  bif decide (0 ≤ v4_1) then
    bif decide (v4_1 < (v4_2.length : Int)) then
      r4 (IntKind.i64.wrap (v4_0 + (1 : Int))) (IntKind.i64.wrap (v4_1 + (1 : Int))) (v4_2.set v4_1.toNat v4_0)
    else none
  else none
else some (v4_2, v4_0)
noncomputable def zq88.l4 (n : Nat) : Int → Int → (List Int) → Option TKeys :=
  V.iter (fun (r4 : Int → Int → (List Int) → Option TKeys) => fun v4_0 v4_1 v4_2 => zq88.g4 r4 v4_0 v4_1 v4_2) (fun _ _ _ => none) n
theorem zq88.u4 (n : Nat) (v4_0 : Int) (v4_1 : Int) (v4_2 : List Int) : zq88.l4 (n + 1) v4_0 v4_1 v4_2 = zq88.g4 (zq88.l4 n) v4_0 v4_1 v4_2 := rfl
noncomputable abbrev zq88.b (x0 : List Int) (x1 : Int) (L4 : Int → Int → (List Int) → Option TKeys) : Option TKeys :=
  L4 x1 (0 : Int) x0
noncomputable def zq88 (x0 : List Int) (x1 : Int) : Option TKeys :=
  zq88.b x0 x1 (zq88.l4 V.KK)
noncomputable abbrev zq90.w1 (v4_0 : Int) (v4_1 : Int) (v4_2 : List TSig) : List TSig :=
  V.upd (V.upd v4_2 v4_1.toNat (fun z => (v4_0, z.2))) v4_1.toNat (fun z => (z.1, IntKind.i64.wrap (v4_0 + (1 : Int))))
noncomputable abbrev zq90.g4 (r4 : Int → Int → (List TSig) → Option (List TSig × Int)) (v4_0 : Int) (v4_1 : Int) (v4_2 : List TSig) : Option (List TSig × Int) :=
  bif decide (v4_1 < (v4_2.length : Int)) then
  bif decide (0 ≤ v4_1) then
    bif decide (v4_1 < (v4_2.length : Int)) then
      bif decide (0 ≤ v4_1) then
        bif decide (v4_1 < (((V.upd v4_2 v4_1.toNat (fun z => (v4_0, z.2))).length) : Int)) then
          r4 (IntKind.i64.wrap ((IntKind.i64.wrap (v4_0 + (1 : Int))) + (1 : Int))) (IntKind.i64.wrap (v4_1 + (1 : Int))) (zq90.w1 v4_0 v4_1 v4_2)
        else none
      else none
    else none
  else none
else some (v4_2, v4_0)
noncomputable def zq90.l4 (n : Nat) : Int → Int → (List TSig) → Option (List TSig × Int) :=
  V.iter (fun (r4 : Int → Int → (List TSig) → Option (List TSig × Int)) => fun v4_0 v4_1 v4_2 => zq90.g4 r4 v4_0 v4_1 v4_2) (fun _ _ _ => none) n
theorem zq90.u4 (n : Nat) (v4_0 : Int) (v4_1 : Int) (v4_2 : List TSig) : zq90.l4 (n + 1) v4_0 v4_1 v4_2 = zq90.g4 (zq90.l4 n) v4_0 v4_1 v4_2 := rfl
noncomputable abbrev zq90.b (x0 : List TSig) (x1 : Int) (L4 : Int → Int → (List TSig) → Option (List TSig × Int)) : Option (List TSig × Int) :=
  L4 x1 (0 : Int) x0
noncomputable def zq90 (x0 : List TSig) (x1 : Int) : Option (List TSig × Int) :=
  zq90.b x0 x1 (zq90.l4 V.KK)
noncomputable abbrev zq91.w1 (v4_0 : Int) (v4_1 : Int) (v4_2 : List TSigned) : List TSigned :=
  V.upd (V.upd v4_2 v4_1.toNat (fun z => (v4_0, z.2))) v4_1.toNat (fun z => (z.1, IntKind.i64.wrap (v4_0 + (1 : Int)), z.2.2))
noncomputable abbrev zq91.w2 (v4_0 : Int) (v4_1 : Int) (v4_2 : List TSigned) : List TSigned :=
  V.upd (zq91.w1 v4_0 v4_1 v4_2) v4_1.toNat (fun z => (z.1, z.2.1, IntKind.i64.wrap ((IntKind.i64.wrap (v4_0 + (1 : Int))) + (1 : Int)), z.2.2.2))
noncomputable abbrev zq91.w3 (v4_0 : Int) (v4_1 : Int) (v4_2 : List TSigned) : List TSigned :=
  V.upd (zq91.w2 v4_0 v4_1 v4_2) v4_1.toNat (fun z => (z.1, z.2.1, z.2.2.1, IntKind.i64.wrap ((IntKind.i64.wrap ((IntKind.i64.wrap (v4_0 + (1 : Int))) + (1 : Int))) + (1 : Int)), z.2.2.2.2))
noncomputable abbrev zq91.w4 (v4_0 : Int) (v4_1 : Int) (v4_2 : List TSigned) : List TSigned :=
  V.upd (zq91.w3 v4_0 v4_1 v4_2) v4_1.toNat (fun z => (z.1, z.2.1, z.2.2.1, z.2.2.2.1, IntKind.i64.wrap ((IntKind.i64.wrap ((IntKind.i64.wrap ((IntKind.i64.wrap (v4_0 + (1 : Int))) + (1 : Int))) + (1 : Int))) + (1 : Int)), z.2.2.2.2.2))
noncomputable abbrev zq91.w5 (v4_0 : Int) (v4_1 : Int) (v4_2 : List TSigned) : List TSigned :=
  V.upd (zq91.w4 v4_0 v4_1 v4_2) v4_1.toNat (fun z => (z.1, z.2.1, z.2.2.1, z.2.2.2.1, z.2.2.2.2.1, IntKind.i64.wrap ((IntKind.i64.wrap ((IntKind.i64.wrap ((IntKind.i64.wrap ((IntKind.i64.wrap (v4_0 + (1 : Int))) + (1 : Int))) + (1 : Int))) + (1 : Int))) + (1 : Int)), z.2.2.2.2.2.2))
noncomputable abbrev zq91.w6 (v4_0 : Int) (v4_1 : Int) (v4_2 : List TSigned) : List TSigned :=
  V.upd (zq91.w5 v4_0 v4_1 v4_2) v4_1.toNat (fun z => (z.1, z.2.1, z.2.2.1, z.2.2.2.1, z.2.2.2.2.1, z.2.2.2.2.2.1, IntKind.i64.wrap ((IntKind.i64.wrap ((IntKind.i64.wrap ((IntKind.i64.wrap ((IntKind.i64.wrap ((IntKind.i64.wrap (v4_0 + (1 : Int))) + (1 : Int))) + (1 : Int))) + (1 : Int))) + (1 : Int))) + (1 : Int)), z.2.2.2.2.2.2.2))
noncomputable abbrev zq91.w7 (v4_0 : Int) (v4_1 : Int) (v4_2 : List TSigned) : List TSigned :=
  V.upd (zq91.w6 v4_0 v4_1 v4_2) v4_1.toNat (fun z => (z.1, z.2.1, z.2.2.1, z.2.2.2.1, z.2.2.2.2.1, z.2.2.2.2.2.1, z.2.2.2.2.2.2.1, IntKind.i64.wrap ((IntKind.i64.wrap ((IntKind.i64.wrap ((IntKind.i64.wrap ((IntKind.i64.wrap ((IntKind.i64.wrap ((IntKind.i64.wrap (v4_0 + (1 : Int))) + (1 : Int))) + (1 : Int))) + (1 : Int))) + (1 : Int))) + (1 : Int))) + (1 : Int)), z.2.2.2.2.2.2.2.2))
noncomputable abbrev zq91.w8 (v4_0 : Int) (v4_1 : Int) (v4_2 : List TSigned) (y1 : TKeys) : List TSigned :=
  V.upd (zq91.w7 v4_0 v4_1 v4_2) v4_1.toNat (fun z => (z.1, z.2.1, z.2.2.1, z.2.2.2.1, z.2.2.2.2.1, z.2.2.2.2.2.1, z.2.2.2.2.2.2.1, z.2.2.2.2.2.2.2.1, y1.1, z.2.2.2.2.2.2.2.2.2))
noncomputable abbrev zq91.w9 (v4_0 : Int) (v4_1 : Int) (v4_2 : List TSigned) (y1 : TKeys) : List TSigned :=
  V.upd (zq91.w8 v4_0 v4_1 v4_2 y1) v4_1.toNat (fun z => (z.1, z.2.1, z.2.2.1, z.2.2.2.1, z.2.2.2.2.1, z.2.2.2.2.2.1, z.2.2.2.2.2.2.1, z.2.2.2.2.2.2.2.1, z.2.2.2.2.2.2.2.2.1, y1.2, z.2.2.2.2.2.2.2.2.2.2))
noncomputable abbrev zq91.w10 (v4_0 : Int) (v4_1 : Int) (v4_2 : List TSigned) (y1 : TKeys) (y2 : TKeys) : List TSigned :=
  V.upd (zq91.w9 v4_0 v4_1 v4_2 y1) v4_1.toNat (fun z => (z.1, z.2.1, z.2.2.1, z.2.2.2.1, z.2.2.2.2.1, z.2.2.2.2.2.1, z.2.2.2.2.2.2.1, z.2.2.2.2.2.2.2.1, z.2.2.2.2.2.2.2.2.1, z.2.2.2.2.2.2.2.2.2.1, y2.1, z.2.2.2.2.2.2.2.2.2.2.2))
noncomputable abbrev zq91.w11 (v4_0 : Int) (v4_1 : Int) (v4_2 : List TSigned) (y1 : TKeys) (y2 : TKeys) : List TSigned :=
  V.upd (zq91.w10 v4_0 v4_1 v4_2 y1 y2) v4_1.toNat (fun z => (z.1, z.2.1, z.2.2.1, z.2.2.2.1, z.2.2.2.2.1, z.2.2.2.2.2.1, z.2.2.2.2.2.2.1, z.2.2.2.2.2.2.2.1, z.2.2.2.2.2.2.2.2.1, z.2.2.2.2.2.2.2.2.2.1, z.2.2.2.2.2.2.2.2.2.2.1, y2.2, z.2.2.2.2.2.2.2.2.2.2.2.2))
noncomputable abbrev zq91.w12 (v4_0 : Int) (v4_1 : Int) (v4_2 : List TSigned) (y1 : TKeys) (y2 : TKeys) : List TSigned :=
  V.upd (zq91.w11 v4_0 v4_1 v4_2 y1 y2) v4_1.toNat (fun z => (z.1, z.2.1, z.2.2.1, z.2.2.2.1, z.2.2.2.2.1, z.2.2.2.2.2.1, z.2.2.2.2.2.2.1, z.2.2.2.2.2.2.2.1, z.2.2.2.2.2.2.2.2.1, z.2.2.2.2.2.2.2.2.2.1, z.2.2.2.2.2.2.2.2.2.2.1, z.2.2.2.2.2.2.2.2.2.2.2.1, IntKind.i64.wrap (y2.2 + (1 : Int)), z.2.2.2.2.2.2.2.2.2.2.2.2.2))
noncomputable abbrev zq91.w13 (v4_0 : Int) (v4_1 : Int) (v4_2 : List TSigned) (y1 : TKeys) (y2 : TKeys) (y3 : TKeys) : List TSigned :=
  V.upd (zq91.w12 v4_0 v4_1 v4_2 y1 y2) v4_1.toNat (fun z => (z.1, z.2.1, z.2.2.1, z.2.2.2.1, z.2.2.2.2.1, z.2.2.2.2.2.1, z.2.2.2.2.2.2.1, z.2.2.2.2.2.2.2.1, z.2.2.2.2.2.2.2.2.1, z.2.2.2.2.2.2.2.2.2.1, z.2.2.2.2.2.2.2.2.2.2.1, z.2.2.2.2.2.2.2.2.2.2.2.1, z.2.2.2.2.2.2.2.2.2.2.2.2.1, y3.1, z.2.2.2.2.2.2.2.2.2.2.2.2.2.2))
noncomputable abbrev zq91.w14 (v4_0 : Int) (v4_1 : Int) (v4_2 : List TSigned) (y1 : TKeys) (y2 : TKeys) (y3 : TKeys) : List TSigned :=
  V.upd (zq91.w13 v4_0 v4_1 v4_2 y1 y2 y3) v4_1.toNat (fun z => (z.1, z.2.1, z.2.2.1, z.2.2.2.1, z.2.2.2.2.1, z.2.2.2.2.2.1, z.2.2.2.2.2.2.1, z.2.2.2.2.2.2.2.1, z.2.2.2.2.2.2.2.2.1, z.2.2.2.2.2.2.2.2.2.1, z.2.2.2.2.2.2.2.2.2.2.1, z.2.2.2.2.2.2.2.2.2.2.2.1, z.2.2.2.2.2.2.2.2.2.2.2.2.1, z.2.2.2.2.2.2.2.2.2.2.2.2.2.1, y3.2, z.2.2.2.2.2.2.2.2.2.2.2.2.2.2.2))
noncomputable abbrev zq91.w15 (v4_0 : Int) (v4_1 : Int) (v4_2 : List TSigned) (y1 : TKeys) (y2 : TKeys) (y3 : TKeys) : List TSigned :=
  V.upd (zq91.w14 v4_0 v4_1 v4_2 y1 y2 y3) v4_1.toNat (fun z => (z.1, z.2.1, z.2.2.1, z.2.2.2.1, z.2.2.2.2.1, z.2.2.2.2.2.1, z.2.2.2.2.2.2.1, z.2.2.2.2.2.2.2.1, z.2.2.2.2.2.2.2.2.1, z.2.2.2.2.2.2.2.2.2.1, z.2.2.2.2.2.2.2.2.2.2.1, z.2.2.2.2.2.2.2.2.2.2.2.1, z.2.2.2.2.2.2.2.2.2.2.2.2.1, z.2.2.2.2.2.2.2.2.2.2.2.2.2.1, z.2.2.2.2.2.2.2.2.2.2.2.2.2.2.1, (Int.tmod (IntKind.i64.wrap (y3.2 + (1 : Int))) (3 : Int)) == (0 : Int), z.2.2.2.2.2.2.2.2.2.2.2.2.2.2.2.2))
noncomputable abbrev zq91.w16 (v4_0 : Int) (v4_1 : Int) (v4_2 : List TSigned) (y1 : TKeys) (y2 : TKeys) (y3 : TKeys) (y4 : List TSig × Int) : List TSigned :=
  V.upd (zq91.w15 v4_0 v4_1 v4_2 y1 y2 y3) v4_1.toNat (fun z => (z.1, z.2.1, z.2.2.1, z.2.2.2.1, z.2.2.2.2.1, z.2.2.2.2.2.1, z.2.2.2.2.2.2.1, z.2.2.2.2.2.2.2.1, z.2.2.2.2.2.2.2.2.1, z.2.2.2.2.2.2.2.2.2.1, z.2.2.2.2.2.2.2.2.2.2.1, z.2.2.2.2.2.2.2.2.2.2.2.1, z.2.2.2.2.2.2.2.2.2.2.2.2.1, z.2.2.2.2.2.2.2.2.2.2.2.2.2.1, z.2.2.2.2.2.2.2.2.2.2.2.2.2.2.1, z.2.2.2.2.2.2.2.2.2.2.2.2.2.2.2.1, y4.1))
noncomputable abbrev zq91.g4 (r4 : Int → Int → (List TSigned) → Option (List TSigned × Int)) (v4_0 : Int) (v4_1 : Int) (v4_2 : List TSigned) : Option (List TSigned × Int) :=
  bif decide (v4_1 < (v4_2.length : Int)) then
  bif decide (0 ≤ v4_1) then
    bif decide (v4_1 < (v4_2.length : Int)) then
      bif decide (0 ≤ v4_1) then
        bif decide (v4_1 < (((V.upd v4_2 v4_1.toNat (fun z => (v4_0, z.2))).length) : Int)) then
          bif decide (0 ≤ v4_1) then
            bif decide (v4_1 < (((zq91.w1 v4_0 v4_1 v4_2).length) : Int)) then
              bif decide (0 ≤ v4_1) then
                bif decide (v4_1 < (((zq91.w2 v4_0 v4_1 v4_2).length) : Int)) then
                  bif decide (0 ≤ v4_1) then
                    bif decide (v4_1 < (((zq91.w3 v4_0 v4_1 v4_2).length) : Int)) then
                      bif decide (0 ≤ v4_1) then
                        bif decide (v4_1 < (((zq91.w4 v4_0 v4_1 v4_2).length) : Int)) then
                          bif decide (0 ≤ v4_1) then
                            bif decide (v4_1 < (((zq91.w5 v4_0 v4_1 v4_2).length) : Int)) then
                              bif decide (0 ≤ v4_1) then
                                bif decide (v4_1 < (((zq91.w6 v4_0 v4_1 v4_2).length) : Int)) then
                                  bif decide (0 ≤ v4_1) then
                                    bif decide (v4_1 < (((zq91.w7 v4_0 v4_1 v4_2).length) : Int)) then
                                      (zq88 (Head_Keys (Signed_Head ((zq91.w7 v4_0 v4_1 v4_2).getD v4_1.toNat dSigned))).1 (IntKind.i64.wrap ((IntKind.i64.wrap ((IntKind.i64.wrap ((IntKind.i64.wrap ((IntKind.i64.wrap ((IntKind.i64.wrap ((IntKind.i64.wrap ((IntKind.i64.wrap (v4_0 + (1 : Int))) + (1 : Int))) + (1 : Int))) + (1 : Int))) + (1 : Int))) + (1 : Int))) + (1 : Int))) + (1 : Int)))).bind fun y1 =>
                                        bif decide (0 ≤ v4_1) then
                                          bif decide (v4_1 < (((zq91.w8 v4_0 v4_1 v4_2 y1).length) : Int)) then
                                            bif decide (0 ≤ v4_1) then
                                              bif decide (v4_1 < (((zq91.w9 v4_0 v4_1 v4_2 y1).length) : Int)) then
                                                (zq88 (Head_Heirs (Signed_Head ((zq91.w9 v4_0 v4_1 v4_2 y1).getD v4_1.toNat dSigned))).1 (IntKind.i64.wrap (y1.2 + (1 : Int)))).bind fun y2 =>
                                                  bif decide (0 ≤ v4_1) then
                                                    bif decide (v4_1 < (((zq91.w10 v4_0 v4_1 v4_2 y1 y2).length) : Int)) then
                                                      bif decide (0 ≤ v4_1) then
                                                        bif decide (v4_1 < (((zq91.w11 v4_0 v4_1 v4_2 y1 y2).length) : Int)) then
                                                          bif decide (0 ≤ v4_1) then
                                                            bif decide (v4_1 < (((zq91.w12 v4_0 v4_1 v4_2 y1 y2).length) : Int)) then
                                                              (zq88 (Head_Judge (Signed_Head ((zq91.w12 v4_0 v4_1 v4_2 y1 y2).getD v4_1.toNat dSigned))).1 (IntKind.i64.wrap ((IntKind.i64.wrap (y2.2 + (1 : Int))) + (1 : Int)))).bind fun y3 =>
                                                                bif decide (0 ≤ v4_1) then
                                                                  bif decide (v4_1 < (((zq91.w13 v4_0 v4_1 v4_2 y1 y2 y3).length) : Int)) then
                                                                    bif ((3 : Int) == (0 : Int)) then
                                                                      none
                                                                    else
                                                                      bif decide (0 ≤ v4_1) then
                                                                        bif decide (v4_1 < (((zq91.w14 v4_0 v4_1 v4_2 y1 y2 y3).length) : Int)) then
                                                                          bif decide (0 ≤ v4_1) then
                                                                            bif decide (v4_1 < (((zq91.w15 v4_0 v4_1 v4_2 y1 y2 y3).length) : Int)) then
                                                                              (zq90 (Signed_Sigs ((zq91.w15 v4_0 v4_1 v4_2 y1 y2 y3).getD v4_1.toNat dSigned)) (IntKind.i64.wrap ((IntKind.i64.wrap (y3.2 + (1 : Int))) + (1 : Int)))).bind fun y4 =>
                                                                                r4 y4.2 (IntKind.i64.wrap (v4_1 + (1 : Int))) (zq91.w16 v4_0 v4_1 v4_2 y1 y2 y3 y4)
                                                                            else none
                                                                          else none
                                                                        else none
                                                                      else none
                                                                  else none
                                                                else none
                                                            else none
                                                          else none
                                                        else none
                                                      else none
                                                    else none
                                                  else none
                                              else none
                                            else none
                                          else none
                                        else none
                                    else none
                                  else none
                                else none
                              else none
                            else none
                          else none
                        else none
                      else none
                    else none
                  else none
                else none
              else none
            else none
          else none
        else none
      else none
    else none
  else none
else some (v4_2, v4_0)
noncomputable def zq91.l4 (n : Nat) : Int → Int → (List TSigned) → Option (List TSigned × Int) :=
  V.iter (fun (r4 : Int → Int → (List TSigned) → Option (List TSigned × Int)) => fun v4_0 v4_1 v4_2 => zq91.g4 r4 v4_0 v4_1 v4_2) (fun _ _ _ => none) n
theorem zq91.u4 (n : Nat) (v4_0 : Int) (v4_1 : Int) (v4_2 : List TSigned) : zq91.l4 (n + 1) v4_0 v4_1 v4_2 = zq91.g4 (zq91.l4 n) v4_0 v4_1 v4_2 := rfl
noncomputable abbrev zq91.b (x0 : List TSigned) (x1 : Int) (L4 : Int → Int → (List TSigned) → Option (List TSigned × Int)) : Option (List TSigned × Int) :=
  L4 x1 (0 : Int) x0
noncomputable def zq91 (x0 : List TSigned) (x1 : Int) : Option (List TSigned × Int) :=
  zq91.b x0 x1 (zq91.l4 V.KK)
noncomputable abbrev zq93.g8 (r8 : Int → ByteArray → Option ByteArray) (v8_0 : Int) (v8_1 : ByteArray) : Option ByteArray :=
  bif decide (v8_0 > (0 : Int)) then
  bif ((10 : Int) == (0 : Int)) then
    none
  else
    bif decide ((V.strOf [IntKind.u8.wrap (IntKind.i64.wrap ((48 : Int) + (Int.tmod v8_0 (10 : Int))))]).size + v8_1.size < 281474976710656) then
      bif ((10 : Int) == (0 : Int)) then
        none
      else r8 (IntKind.i64.wrap (Int.tdiv v8_0 (10 : Int))) ((V.strOf [IntKind.u8.wrap (IntKind.i64.wrap ((48 : Int) + (Int.tmod v8_0 (10 : Int))))]) ++ v8_1)
    else none
else
  bif decide ((⟨#[109]⟩ : ByteArray).size + v8_1.size < 281474976710656) then
    some ((⟨#[109]⟩ : ByteArray) ++ v8_1)
  else none
noncomputable def zq93.l8 (n : Nat) : Int → ByteArray → Option ByteArray :=
  V.iter (fun (r8 : Int → ByteArray → Option ByteArray) => fun v8_0 v8_1 => zq93.g8 r8 v8_0 v8_1) (fun _ _ => none) n
theorem zq93.u8 (n : Nat) (v8_0 : Int) (v8_1 : ByteArray) : zq93.l8 (n + 1) v8_0 v8_1 = zq93.g8 (zq93.l8 n) v8_0 v8_1 := rfl
noncomputable abbrev zq93.b (x0 : Int) (L8 : Int → ByteArray → Option ByteArray) : Option ByteArray :=
  bif decide (x0 ≤ (0 : Int)) then
  some (⟨#[109, 48]⟩ : ByteArray)
else L8 x0 (⟨#[]⟩ : ByteArray)
noncomputable def zq93 (x0 : Int) : Option ByteArray :=
  zq93.b x0 (zq93.l8 V.KK)
noncomputable abbrev zq92.g4 (r4 : Int → Int → (List ByteArray) → Option (List ByteArray × Int)) (v4_0 : Int) (v4_1 : Int) (v4_2 : List ByteArray) : Option (List ByteArray × Int) :=
  bif decide (v4_1 < (v4_2.length : Int)) then
  (zq93 v4_0).bind fun y1 =>
    bif decide (0 ≤ v4_1) then
      bif decide (v4_1 < (v4_2.length : Int)) then
        r4 (IntKind.i64.wrap (v4_0 + (1 : Int))) (IntKind.i64.wrap (v4_1 + (1 : Int))) (v4_2.set v4_1.toNat y1)
      else none
    else none
else some (v4_2, v4_0)
noncomputable def zq92.l4 (n : Nat) : Int → Int → (List ByteArray) → Option (List ByteArray × Int) :=
  V.iter (fun (r4 : Int → Int → (List ByteArray) → Option (List ByteArray × Int)) => fun v4_0 v4_1 v4_2 => zq92.g4 r4 v4_0 v4_1 v4_2) (fun _ _ _ => none) n
theorem zq92.u4 (n : Nat) (v4_0 : Int) (v4_1 : Int) (v4_2 : List ByteArray) : zq92.l4 (n + 1) v4_0 v4_1 v4_2 = zq92.g4 (zq92.l4 n) v4_0 v4_1 v4_2 := rfl
noncomputable abbrev zq92.b (x0 : List ByteArray) (x1 : Int) (L4 : Int → Int → (List ByteArray) → Option (List ByteArray × Int)) : Option (List ByteArray × Int) :=
  L4 x1 (0 : Int) x0
noncomputable def zq92 (x0 : List ByteArray) (x1 : Int) : Option (List ByteArray × Int) :=
  zq92.b x0 x1 (zq92.l4 V.KK)
noncomputable def zq86 (x0 : TEntry) (x1 : Int) : Option (List ByteArray × Int) :=
  (zq92 x0.2.2.2 x1).bind fun y1 =>
  some y1
noncomputable def zq89 (x0 : TProof) (x1 : Int) : Option TKeys :=
  (zq88 x0.2 x1).bind fun y1 =>
  some y1
noncomputable def zq87 (x0 : TGap) (x1 : Int) : Option (List ByteArray × List ByteArray × List Int × List Int × Int) :=
  (zq86 (Gap_Before x0) x1).bind fun y1 =>
  (zq86 (Gap_After x0) y1.2).bind fun y2 =>
    (zq89 (Gap_Left x0) y2.2).bind fun y3 =>
      (zq89 (Gap_Right x0) y3.2).bind fun y4 =>
        some (y1.1, y2.1, y3.1, y4.1, y4.2)
noncomputable def zq85 (x0 : TAnswer) (x1 : Int) : Option (List TSigned × List ByteArray × List Int × List ByteArray × List ByteArray × List Int × List Int × Int) :=
  (zq91 (Answer_Chain x0) x1).bind fun y1 =>
  (zq86 (Answer_Entry x0) y1.2).bind fun y2 =>
    (zq89 (Answer_Proof x0) y2.2).bind fun y3 =>
      (zq87 (Answer_Gap x0) y3.2).bind fun y4 =>
        some (y1.1, y2.1, y3.1, y4.1, y4.2.1, y4.2.2.1, y4.2.2.2.1, y4.2.2.2.2)
noncomputable abbrev zq84.g4 (x0 : List ByteArray) (r4 : Int → Int → Option Int) (v4_1 : Int) (v4_2 : Int) : Option Int :=
  bif decide (v4_2 < (x0.length : Int)) then
  bif decide (0 ≤ v4_2) then
    bif decide (v4_2 < (x0.length : Int)) then
      (zq93 v4_1).bind fun y1 =>
        bif !((x0.getD v4_2.toNat (⟨#[]⟩ : ByteArray)).toList == y1.toList) then
          some (-1 : Int)
        else r4 (IntKind.i64.wrap (v4_1 + (1 : Int))) (IntKind.i64.wrap (v4_2 + (1 : Int)))
    else none
  else none
else some v4_1
noncomputable def zq84.l4 (x0 : List ByteArray) (n : Nat) : Int → Int → Option Int :=
  V.iter (fun (r4 : Int → Int → Option Int) => fun v4_1 v4_2 => zq84.g4 x0 r4 v4_1 v4_2) (fun _ _ => none) n
theorem zq84.u4 (x0 : List ByteArray) (n : Nat) (v4_1 : Int) (v4_2 : Int) : zq84.l4 x0 (n + 1) v4_1 v4_2 = zq84.g4 x0 (zq84.l4 x0 n) v4_1 v4_2 := rfl
noncomputable abbrev zq84.b (x0 : List ByteArray) (x1 : Int) (L4 : Int → Int → Option Int) : Option Int :=
  L4 x1 (0 : Int)
noncomputable def zq84 (x0 : List ByteArray) (x1 : Int) : Option Int :=
  zq84.b x0 x1 (zq84.l4 x0 V.KK)
noncomputable def zq83 (x0 : TEntry) (x1 : Int) : Option Int :=
  (zq84 x0.2.2.2 x1).bind fun y1 =>
  bif decide (y1 < (0 : Int)) then
    some (-1 : Int)
  else some y1
noncomputable abbrev zq70.g59 (y5 : TREntryBool) (y11 : List ByteArray × Int) : Option Bool :=
  (zq83 ((REntryBool_r0 y5).1, (REntryBool_r0 y5).2.1, (REntryBool_r0 y5).2.2.1, y11.1) (1 : Int)).bind fun y16 =>
  bif decide (y16 < (0 : Int)) then
    some false
  else
    bif y16 != y11.2 then
      some false
    else some true
noncomputable def zq70.l59 (y5 : TREntryBool) (y11 : List ByteArray × Int) : Option Bool :=
  zq70.g59 y5 y11
noncomputable abbrev zq70.g37 (x0 : Int) (x1 : ByteArray) (x2 : TAnswer) (x3 : Int) (y3 : TREntryBool) (y5 : TREntryBool) (L59 : TREntryBool → (List ByteArray × Int) → Option Bool) : Option Bool :=
  (zq86 (REntryBool_r0 y5) (1 : Int)).bind fun y11 =>
  (zq83 ((REntryBool_r0 y5).1, (REntryBool_r0 y5).2.1, (REntryBool_r0 y5).2.2.1, y11.1) (1 : Int)).bind fun y12 =>
    bif decide (y12 < (0 : Int)) then
      some false
    else
      bif y12 != y11.2 then
        some false
      else
        (zq105 x2).bind fun y13 =>
          (zq7 x0 x1 y13 x3).bind fun y14 =>
            (zq72 (REntryBool_r0 y14) (REntryBool_r0 y3)).bind fun y15 =>
              bif !y15 then
                some false
              else
                bif !((REntryBool_r1 y14) == (REntryBool_r1 y3)) then
                  some false
                else L59 y5 y11
noncomputable def zq70.l37 (x0 : Int) (x1 : ByteArray) (x2 : TAnswer) (x3 : Int) (y3 : TREntryBool) (y5 : TREntryBool) : Option Bool :=
  zq70.g37 x0 x1 x2 x3 y3 y5 (fun y5 y11 => zq70.l59 y5 y11)
noncomputable abbrev zq70.g25 (x0 : Int) (x1 : ByteArray) (x2 : TAnswer) (x3 : Int) (y3 : TREntryBool) (y4 : TAnswer) (y5 : TREntryBool) (L37 : TREntryBool → TREntryBool → Option Bool) : Option Bool :=
  (zq105 x2).bind fun y7 =>
  (zq71 y4 y7).bind fun y8 =>
    bif !y8 then
      some false
    else
      (zq85 y4 (1 : Int)).bind fun y9 =>
        bif decide (y9.2.2.2.2.2.2.2 < (0 : Int)) then
          some false
        else
          (zq72 (REntryBool_r0 y5) (REntryBool_r0 y3)).bind fun y10 =>
            bif !y10 then
              some false
            else
              bif !((REntryBool_r1 y5) == (REntryBool_r1 y3)) then
                some false
              else L37 y3 y5
noncomputable def zq70.l25 (x0 : Int) (x1 : ByteArray) (x2 : TAnswer) (x3 : Int) (y3 : TREntryBool) (y4 : TAnswer) (y5 : TREntryBool) : Option Bool :=
  zq70.g25 x0 x1 x2 x3 y3 y4 y5 (fun y3 y5 => zq70.l37 x0 x1 x2 x3 y3 y5)
noncomputable abbrev zq70.b (x0 : Int) (x1 : ByteArray) (x2 : TAnswer) (x3 : Int) (L25 : TREntryBool → TAnswer → TREntryBool → Option Bool) : Option Bool :=
  bif decide ((x1.size : Int) > (1048576 : Int)) then
  some true
else
  (zq94 x2 (1048576 : Int)).bind fun y1 =>
    bif decide (y1 < (0 : Int)) then
      some true
    else
      (zq105 x2).bind fun y2 =>
        (zq133 x0 x1 y2 x3).bind fun y3 =>
          (zq105 x2).bind fun y4 =>
            (zq7 x0 x1 y4 x3).bind fun y5 =>
              (zq72 (REntryBool_r0 y5) (REntryBool_r0 y3)).bind fun y6 =>
                bif !y6 then
                  some false
                else
                  bif !((REntryBool_r1 y5) == (REntryBool_r1 y3)) then
                    some false
                  else L25 y3 y4 y5
noncomputable def zq70 (x0 : Int) (x1 : ByteArray) (x2 : TAnswer) (x3 : Int) : Option Bool :=
  zq70.b x0 x1 x2 x3 (fun y3 y4 y5 => zq70.l25 x0 x1 x2 x3 y3 y4 y5)
end Go.Proofs.YtpioofmdambjoaaGreat
