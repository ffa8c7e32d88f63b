/- What the functions compute: printed from their code by the evaluator. -/
import Derived.Test.YtbdifkeoiodalaaVE
namespace Go.Proofs.Ytbdifkeoiodalaa
set_option linter.unusedVariables false
abbrev TKeys : Type := List Int × Int
abbrev dKeys : TKeys := ([], (0 : Int))
abbrev THead : Type := Int × Int × Int × Int × Int × Int × Int × Int × List Int × Int × List Int × Int × Int × List Int × Int × Bool
abbrev dHead : THead := ((0 : Int), (0 : Int), (0 : Int), (0 : Int), (0 : Int), (0 : Int), (0 : Int), (0 : Int), [], (0 : Int), [], (0 : Int), (0 : Int), [], (0 : Int), false)
def Head_Zone (x : THead) : Int := x.1
def Head_Epoch (x : THead) : Int := x.2.1
def Head_Kind (x : THead) : Int := x.2.2.1
def Head_Time (x : THead) : Int := x.2.2.2.1
def Head_Until (x : THead) : Int := x.2.2.2.2.1
def Head_Count (x : THead) : Int := x.2.2.2.2.2.1
def Head_Root (x : THead) : Int := x.2.2.2.2.2.2.1
def Head_Prev (x : THead) : Int := x.2.2.2.2.2.2.2.1
def Head_Keys (x : THead) : TKeys := (x.2.2.2.2.2.2.2.2.1, x.2.2.2.2.2.2.2.2.2.1)
def Head_Heirs (x : THead) : TKeys := (x.2.2.2.2.2.2.2.2.2.2.1, x.2.2.2.2.2.2.2.2.2.2.2.1)
def Head_Wait (x : THead) : Int := x.2.2.2.2.2.2.2.2.2.2.2.2.1
def Head_Judge (x : THead) : TKeys := (x.2.2.2.2.2.2.2.2.2.2.2.2.2.1, x.2.2.2.2.2.2.2.2.2.2.2.2.2.2.1)
def Head_Frozen (x : THead) : Bool := x.2.2.2.2.2.2.2.2.2.2.2.2.2.2.2
def Head_mk (a0 : Int) (a1 : Int) (a2 : Int) (a3 : Int) (a4 : Int) (a5 : Int) (a6 : Int) (a7 : Int) (a8 : TKeys) (a9 : TKeys) (a10 : Int) (a11 : TKeys) (a12 : Bool) : THead := (a0, a1, a2, a3, a4, a5, a6, a7, a8.1, a8.2, a9.1, a9.2, a10, a11.1, a11.2, a12)
theorem Head_s : ∀ (a0 : Int) (a1 : Int) (a2 : Int) (a3 : Int) (a4 : Int) (a5 : Int) (a6 : Int) (a7 : Int) (a8 : TKeys) (a9 : TKeys) (a10 : Int) (a11 : TKeys) (a12 : Bool), Head_Zone (Head_mk a0 a1 a2 a3 a4 a5 a6 a7 a8 a9 a10 a11 a12) = a0 ∧ Head_Epoch (Head_mk a0 a1 a2 a3 a4 a5 a6 a7 a8 a9 a10 a11 a12) = a1 ∧ Head_Kind (Head_mk a0 a1 a2 a3 a4 a5 a6 a7 a8 a9 a10 a11 a12) = a2 ∧ Head_Time (Head_mk a0 a1 a2 a3 a4 a5 a6 a7 a8 a9 a10 a11 a12) = a3 ∧ Head_Until (Head_mk a0 a1 a2 a3 a4 a5 a6 a7 a8 a9 a10 a11 a12) = a4 ∧ Head_Count (Head_mk a0 a1 a2 a3 a4 a5 a6 a7 a8 a9 a10 a11 a12) = a5 ∧ Head_Root (Head_mk a0 a1 a2 a3 a4 a5 a6 a7 a8 a9 a10 a11 a12) = a6 ∧ Head_Prev (Head_mk a0 a1 a2 a3 a4 a5 a6 a7 a8 a9 a10 a11 a12) = a7 ∧ Head_Keys (Head_mk a0 a1 a2 a3 a4 a5 a6 a7 a8 a9 a10 a11 a12) = a8 ∧ Head_Heirs (Head_mk a0 a1 a2 a3 a4 a5 a6 a7 a8 a9 a10 a11 a12) = a9 ∧ Head_Wait (Head_mk a0 a1 a2 a3 a4 a5 a6 a7 a8 a9 a10 a11 a12) = a10 ∧ Head_Judge (Head_mk a0 a1 a2 a3 a4 a5 a6 a7 a8 a9 a10 a11 a12) = a11 ∧ Head_Frozen (Head_mk a0 a1 a2 a3 a4 a5 a6 a7 a8 a9 a10 a11 a12) = a12 := fun a0 a1 a2 a3 a4 a5 a6 a7 a8 a9 a10 a11 a12 => ⟨rfl, rfl, rfl, rfl, rfl, rfl, rfl, rfl, rfl, rfl, rfl, rfl, rfl⟩
theorem Head_e (x : THead) : Head_mk (Head_Zone x) (Head_Epoch x) (Head_Kind x) (Head_Time x) (Head_Until x) (Head_Count x) (Head_Root x) (Head_Prev x) (Head_Keys x) (Head_Heirs x) (Head_Wait x) (Head_Judge x) (Head_Frozen x) = x := id rfl
theorem Head_d : Head_Zone dHead = (0 : Int) ∧ Head_Epoch dHead = (0 : Int) ∧ Head_Kind dHead = (0 : Int) ∧ Head_Time dHead = (0 : Int) ∧ Head_Until dHead = (0 : Int) ∧ Head_Count dHead = (0 : Int) ∧ Head_Root dHead = (0 : Int) ∧ Head_Prev dHead = (0 : Int) ∧ Head_Keys dHead = dKeys ∧ Head_Heirs dHead = dKeys ∧ Head_Wait dHead = (0 : Int) ∧ Head_Judge dHead = dKeys ∧ Head_Frozen dHead = false := ⟨rfl, rfl, rfl, rfl, rfl, rfl, rfl, rfl, rfl, rfl, rfl, rfl, rfl⟩
abbrev TEntry : Type := ByteArray × Int × Int × List ByteArray
abbrev dEntry : TEntry := ((⟨#[]⟩ : ByteArray), (0 : Int), (0 : Int), [])
abbrev TProof : Type := Int × List Int
abbrev dProof : TProof := ((0 : Int), [])
abbrev TGap : Type := Int × ByteArray × Int × Int × List ByteArray × ByteArray × Int × Int × List ByteArray × Int × List Int × Int × List Int
abbrev dGap : TGap := ((0 : Int), (⟨#[]⟩ : ByteArray), (0 : Int), (0 : Int), [], (⟨#[]⟩ : ByteArray), (0 : Int), (0 : Int), [], (0 : Int), [], (0 : Int), [])
def Gap_At (x : TGap) : Int := x.1
def Gap_Before (x : TGap) : TEntry := (x.2.1, x.2.2.1, x.2.2.2.1, x.2.2.2.2.1)
def Gap_After (x : TGap) : TEntry := (x.2.2.2.2.2.1, x.2.2.2.2.2.2.1, x.2.2.2.2.2.2.2.1, x.2.2.2.2.2.2.2.2.1)
def Gap_Left (x : TGap) : TProof := (x.2.2.2.2.2.2.2.2.2.1, x.2.2.2.2.2.2.2.2.2.2.1)
def Gap_Right (x : TGap) : TProof := (x.2.2.2.2.2.2.2.2.2.2.2.1, x.2.2.2.2.2.2.2.2.2.2.2.2)
def Gap_mk (a0 : Int) (a1 : TEntry) (a2 : TEntry) (a3 : TProof) (a4 : TProof) : TGap := (a0, a1.1, a1.2.1, a1.2.2.1, a1.2.2.2, a2.1, a2.2.1, a2.2.2.1, a2.2.2.2, a3.1, a3.2, a4.1, a4.2)
theorem Gap_s : ∀ (a0 : Int) (a1 : TEntry) (a2 : TEntry) (a3 : TProof) (a4 : TProof), Gap_At (Gap_mk a0 a1 a2 a3 a4) = a0 ∧ Gap_Before (Gap_mk a0 a1 a2 a3 a4) = a1 ∧ Gap_After (Gap_mk a0 a1 a2 a3 a4) = a2 ∧ Gap_Left (Gap_mk a0 a1 a2 a3 a4) = a3 ∧ Gap_Right (Gap_mk a0 a1 a2 a3 a4) = a4 := fun a0 a1 a2 a3 a4 => ⟨rfl, rfl, rfl, rfl, rfl⟩
theorem Gap_e (x : TGap) : Gap_mk (Gap_At x) (Gap_Before x) (Gap_After x) (Gap_Left x) (Gap_Right x) = x := id rfl
theorem Gap_d : Gap_At dGap = (0 : Int) ∧ Gap_Before dGap = dEntry ∧ Gap_After dGap = dEntry ∧ Gap_Left dGap = dProof ∧ Gap_Right dGap = dProof := ⟨rfl, rfl, rfl, rfl, rfl⟩
abbrev TSig : Type := Int × Int
abbrev dSig : TSig := ((0 : Int), (0 : Int))
abbrev TSigned : Type := Int × Int × Int × Int × Int × Int × Int × Int × List Int × Int × List Int × Int × Int × List Int × Int × Bool × List TSig
abbrev dSigned : TSigned := ((0 : Int), (0 : Int), (0 : Int), (0 : Int), (0 : Int), (0 : Int), (0 : Int), (0 : Int), [], (0 : Int), [], (0 : Int), (0 : Int), [], (0 : Int), false, [])
def Signed_Head (x : TSigned) : THead := (x.1, x.2.1, x.2.2.1, x.2.2.2.1, x.2.2.2.2.1, x.2.2.2.2.2.1, x.2.2.2.2.2.2.1, x.2.2.2.2.2.2.2.1, x.2.2.2.2.2.2.2.2.1, x.2.2.2.2.2.2.2.2.2.1, x.2.2.2.2.2.2.2.2.2.2.1, x.2.2.2.2.2.2.2.2.2.2.2.1, x.2.2.2.2.2.2.2.2.2.2.2.2.1, x.2.2.2.2.2.2.2.2.2.2.2.2.2.1, x.2.2.2.2.2.2.2.2.2.2.2.2.2.2.1, x.2.2.2.2.2.2.2.2.2.2.2.2.2.2.2.1)
def Signed_Sigs (x : TSigned) : List TSig := x.2.2.2.2.2.2.2.2.2.2.2.2.2.2.2.2
def Signed_mk (a0 : THead) (a1 : List TSig) : TSigned := (a0.1, a0.2.1, a0.2.2.1, a0.2.2.2.1, a0.2.2.2.2.1, a0.2.2.2.2.2.1, a0.2.2.2.2.2.2.1, a0.2.2.2.2.2.2.2.1, a0.2.2.2.2.2.2.2.2.1, a0.2.2.2.2.2.2.2.2.2.1, a0.2.2.2.2.2.2.2.2.2.2.1, a0.2.2.2.2.2.2.2.2.2.2.2.1, a0.2.2.2.2.2.2.2.2.2.2.2.2.1, a0.2.2.2.2.2.2.2.2.2.2.2.2.2.1, a0.2.2.2.2.2.2.2.2.2.2.2.2.2.2.1, a0.2.2.2.2.2.2.2.2.2.2.2.2.2.2.2, a1)
theorem Signed_s : ∀ (a0 : THead) (a1 : List TSig), Signed_Head (Signed_mk a0 a1) = a0 ∧ Signed_Sigs (Signed_mk a0 a1) = a1 := fun a0 a1 => ⟨rfl, rfl⟩
theorem Signed_e (x : TSigned) : Signed_mk (Signed_Head x) (Signed_Sigs x) = x := id rfl
theorem Signed_d : Signed_Head dSigned = dHead ∧ Signed_Sigs dSigned = [] := ⟨rfl, rfl⟩
abbrev TAnswer : Type := List TSigned × Bool × ByteArray × Int × Int × List ByteArray × Int × List Int × Int × ByteArray × Int × Int × List ByteArray × ByteArray × Int × Int × List ByteArray × Int × List Int × Int × List Int
abbrev dAnswer : TAnswer := ([], false, (⟨#[]⟩ : ByteArray), (0 : Int), (0 : Int), [], (0 : Int), [], (0 : Int), (⟨#[]⟩ : ByteArray), (0 : Int), (0 : Int), [], (⟨#[]⟩ : ByteArray), (0 : Int), (0 : Int), [], (0 : Int), [], (0 : Int), [])
def Answer_Chain (x : TAnswer) : List TSigned := x.1
def Answer_Found (x : TAnswer) : Bool := x.2.1
def Answer_Entry (x : TAnswer) : TEntry := (x.2.2.1, x.2.2.2.1, x.2.2.2.2.1, x.2.2.2.2.2.1)
def Answer_Proof (x : TAnswer) : TProof := (x.2.2.2.2.2.2.1, x.2.2.2.2.2.2.2.1)
def Answer_Gap (x : TAnswer) : TGap := (x.2.2.2.2.2.2.2.2.1, x.2.2.2.2.2.2.2.2.2.1, x.2.2.2.2.2.2.2.2.2.2.1, x.2.2.2.2.2.2.2.2.2.2.2.1, x.2.2.2.2.2.2.2.2.2.2.2.2.1, x.2.2.2.2.2.2.2.2.2.2.2.2.2.1, x.2.2.2.2.2.2.2.2.2.2.2.2.2.2.1, x.2.2.2.2.2.2.2.2.2.2.2.2.2.2.2.1, x.2.2.2.2.2.2.2.2.2.2.2.2.2.2.2.2.1, x.2.2.2.2.2.2.2.2.2.2.2.2.2.2.2.2.2.1, x.2.2.2.2.2.2.2.2.2.2.2.2.2.2.2.2.2.2.1, x.2.2.2.2.2.2.2.2.2.2.2.2.2.2.2.2.2.2.2.1, x.2.2.2.2.2.2.2.2.2.2.2.2.2.2.2.2.2.2.2.2)
def Answer_mk (a0 : List TSigned) (a1 : Bool) (a2 : TEntry) (a3 : TProof) (a4 : TGap) : TAnswer := (a0, a1, a2.1, a2.2.1, a2.2.2.1, a2.2.2.2, a3.1, a3.2, a4.1, a4.2.1, a4.2.2.1, a4.2.2.2.1, a4.2.2.2.2.1, a4.2.2.2.2.2.1, a4.2.2.2.2.2.2.1, a4.2.2.2.2.2.2.2.1, a4.2.2.2.2.2.2.2.2.1, a4.2.2.2.2.2.2.2.2.2.1, a4.2.2.2.2.2.2.2.2.2.2.1, a4.2.2.2.2.2.2.2.2.2.2.2.1, a4.2.2.2.2.2.2.2.2.2.2.2.2)
theorem Answer_s : ∀ (a0 : List TSigned) (a1 : Bool) (a2 : TEntry) (a3 : TProof) (a4 : TGap), Answer_Chain (Answer_mk a0 a1 a2 a3 a4) = a0 ∧ Answer_Found (Answer_mk a0 a1 a2 a3 a4) = a1 ∧ Answer_Entry (Answer_mk a0 a1 a2 a3 a4) = a2 ∧ Answer_Proof (Answer_mk a0 a1 a2 a3 a4) = a3 ∧ Answer_Gap (Answer_mk a0 a1 a2 a3 a4) = a4 := fun a0 a1 a2 a3 a4 => ⟨rfl, rfl, rfl, rfl, rfl⟩
theorem Answer_e (x : TAnswer) : Answer_mk (Answer_Chain x) (Answer_Found x) (Answer_Entry x) (Answer_Proof x) (Answer_Gap x) = x := id rfl
theorem Answer_d : Answer_Chain dAnswer = [] ∧ Answer_Found dAnswer = false ∧ Answer_Entry dAnswer = dEntry ∧ Answer_Proof dAnswer = dProof ∧ Answer_Gap dAnswer = dGap := ⟨rfl, rfl, rfl, rfl, rfl⟩
abbrev TZone : Type := List TSigned × List TEntry
abbrev dZone : TZone := ([], [])
noncomputable def laws_szIntS (x0 : List Int) (x1 : Int) : Option Int :=
  bif decide ((IntKind.i64.wrap (x1 - (x0.length : Int))) < (0 : Int)) then
  some (-1 : Int)
else some (IntKind.i64.wrap (x1 - (x0.length : Int)))
noncomputable def laws_szKeys (x0 : TKeys) (x1 : Int) : Option Int :=
  (laws_szIntS x0.1 x1).bind fun y1 =>
  bif decide (y1 < (0 : Int)) then
    some (-1 : Int)
  else some y1
noncomputable def laws_szHead (x0 : THead) (x1 : Int) : Option Int :=
  (laws_szKeys (Head_Keys x0) x1).bind fun y1 =>
  bif decide (y1 < (0 : Int)) then
    some (-1 : Int)
  else
    (laws_szKeys (Head_Heirs x0) y1).bind fun y2 =>
      bif decide (y2 < (0 : Int)) then
        some (-1 : Int)
      else
        (laws_szKeys (Head_Judge x0) y2).bind fun y3 =>
          bif decide (y3 < (0 : Int)) then
            some (-1 : Int)
          else some y3
noncomputable def laws_szSigS (x0 : List TSig) (x1 : Int) : Option Int :=
  bif decide ((IntKind.i64.wrap (x1 - (x0.length : Int))) < (0 : Int)) then
  some (-1 : Int)
else some (IntKind.i64.wrap (x1 - (x0.length : Int)))
noncomputable def laws_szSigned (x0 : TSigned) (x1 : Int) : Option Int :=
  (laws_szHead (Signed_Head x0) x1).bind fun y1 =>
  bif decide (y1 < (0 : Int)) then
    some (-1 : Int)
  else
    (laws_szSigS (Signed_Sigs x0) y1).bind fun y2 =>
      bif decide (y2 < (0 : Int)) then
        some (-1 : Int)
      else some y2
noncomputable abbrev laws_szSignedS.g10 (x0 : List TSigned) (r10 : Int → Int → Option Int) (v10_1 : Int) (v10_2 : Int) : Option Int :=
  bif decide (v10_2 < (x0.length : Int)) then
  bif decide (0 ≤ v10_2) then
    bif decide (v10_2 < (x0.length : Int)) then
      (laws_szSigned (x0.getD v10_2.toNat dSigned) v10_1).bind fun y1 =>
        bif decide (y1 < (0 : Int)) then
          some (-1 : Int)
        else r10 y1 (IntKind.i64.wrap (v10_2 + (1 : Int)))
    else none
  else none
else some v10_1
noncomputable def laws_szSignedS.l10 (x0 : List TSigned) (n : Nat) : Int → Int → Option Int :=
  V.iter (fun (r10 : Int → Int → Option Int) => fun v10_1 v10_2 => laws_szSignedS.g10 x0 r10 v10_1 v10_2) (fun _ _ => none) n
theorem laws_szSignedS.u10 (x0 : List TSigned) (n : Nat) (v10_1 : Int) (v10_2 : Int) : laws_szSignedS.l10 x0 (n + 1) v10_1 v10_2 = laws_szSignedS.g10 x0 (laws_szSignedS.l10 x0 n) v10_1 v10_2 := rfl
noncomputable abbrev laws_szSignedS.b (x0 : List TSigned) (x1 : Int) (L10 : Int → Int → Option Int) : Option Int :=
  bif decide ((IntKind.i64.wrap (x1 - (x0.length : Int))) < (0 : Int)) then
  some (-1 : Int)
else L10 (IntKind.i64.wrap (x1 - (x0.length : Int))) (0 : Int)
noncomputable def laws_szSignedS (x0 : List TSigned) (x1 : Int) : Option Int :=
  laws_szSignedS.b x0 x1 (laws_szSignedS.l10 x0 V.KK)
noncomputable abbrev laws_szStringS.g10 (x0 : List ByteArray) (r10 : Int → Int → Option Int) (v10_1 : Int) (v10_2 : Int) : Option Int :=
  bif decide (v10_2 < (x0.length : Int)) then
  bif decide (0 ≤ v10_2) then
    bif decide (v10_2 < (x0.length : Int)) then
      bif decide ((IntKind.i64.wrap (v10_1 - ((x0.getD v10_2.toNat (⟨#[]⟩ : ByteArray)).size : Int))) < (0 : Int)) then
        some (-1 : Int)
      else r10 (IntKind.i64.wrap (v10_1 - ((x0.getD v10_2.toNat (⟨#[]⟩ : ByteArray)).size : Int))) (IntKind.i64.wrap (v10_2 + (1 : Int)))
    else none
  else none
else some v10_1
noncomputable def laws_szStringS.l10 (x0 : List ByteArray) (n : Nat) : Int → Int → Option Int :=
  V.iter (fun (r10 : Int → Int → Option Int) => fun v10_1 v10_2 => laws_szStringS.g10 x0 r10 v10_1 v10_2) (fun _ _ => none) n
theorem laws_szStringS.u10 (x0 : List ByteArray) (n : Nat) (v10_1 : Int) (v10_2 : Int) : laws_szStringS.l10 x0 (n + 1) v10_1 v10_2 = laws_szStringS.g10 x0 (laws_szStringS.l10 x0 n) v10_1 v10_2 := rfl
noncomputable abbrev laws_szStringS.b (x0 : List ByteArray) (x1 : Int) (L10 : Int → Int → Option Int) : Option Int :=
  bif decide ((IntKind.i64.wrap (x1 - (x0.length : Int))) < (0 : Int)) then
  some (-1 : Int)
else L10 (IntKind.i64.wrap (x1 - (x0.length : Int))) (0 : Int)
noncomputable def laws_szStringS (x0 : List ByteArray) (x1 : Int) : Option Int :=
  laws_szStringS.b x0 x1 (laws_szStringS.l10 x0 V.KK)
noncomputable def laws_szEntry (x0 : TEntry) (x1 : Int) : Option Int :=
  bif decide ((IntKind.i64.wrap (x1 - (x0.1.size : Int))) < (0 : Int)) then
  some (-1 : Int)
else
  (laws_szStringS x0.2.2.2 (IntKind.i64.wrap (x1 - (x0.1.size : Int)))).bind fun y1 =>
    bif decide (y1 < (0 : Int)) then
      some (-1 : Int)
    else some y1
noncomputable def laws_szProof (x0 : TProof) (x1 : Int) : Option Int :=
  (laws_szIntS x0.2 x1).bind fun y1 =>
  bif decide (y1 < (0 : Int)) then
    some (-1 : Int)
  else some y1
noncomputable def laws_szGap (x0 : TGap) (x1 : Int) : Option Int :=
  (laws_szEntry (Gap_Before x0) x1).bind fun y1 =>
  bif decide (y1 < (0 : Int)) then
    some (-1 : Int)
  else
    (laws_szEntry (Gap_After x0) y1).bind fun y2 =>
      bif decide (y2 < (0 : Int)) then
        some (-1 : Int)
      else
        (laws_szProof (Gap_Left x0) y2).bind fun y3 =>
          bif decide (y3 < (0 : Int)) then
            some (-1 : Int)
          else
            (laws_szProof (Gap_Right x0) y3).bind fun y4 =>
              bif decide (y4 < (0 : Int)) then
                some (-1 : Int)
              else some y4
noncomputable def laws_szAnswer (x0 : TAnswer) (x1 : Int) : Option Int :=
  (laws_szSignedS (Answer_Chain x0) x1).bind fun y1 =>
  bif decide (y1 < (0 : Int)) then
    some (-1 : Int)
  else
    (laws_szEntry (Answer_Entry x0) y1).bind fun y2 =>
      bif decide (y2 < (0 : Int)) then
        some (-1 : Int)
      else
        (laws_szProof (Answer_Proof x0) y2).bind fun y3 =>
          bif decide (y3 < (0 : Int)) then
            some (-1 : Int)
          else
            (laws_szGap (Answer_Gap x0) y3).bind fun y4 =>
              bif decide (y4 < (0 : Int)) then
                some (-1 : Int)
              else some y4
noncomputable abbrev laws_toIntS.g6 (x0 : List Int) (r6 : Int → (List Int) → Option (List Int)) (v6_1 : Int) (v6_2 : List Int) : Option (List Int) :=
  bif decide (v6_1 < (x0.length : Int)) then
  bif decide (0 ≤ v6_1) then
    bif decide (v6_1 < (x0.length : Int)) then
      bif decide (0 ≤ v6_1) then
        bif decide (v6_1 < (v6_2.length : Int)) then
          r6 (IntKind.i64.wrap (v6_1 + (1 : Int))) (v6_2.set v6_1.toNat (x0.getD v6_1.toNat (0 : Int)))
        else none
      else none
    else none
  else none
else some v6_2
noncomputable def laws_toIntS.l6 (x0 : List Int) (n : Nat) : Int → (List Int) → Option (List Int) :=
  V.iter (fun (r6 : Int → (List Int) → Option (List Int)) => fun v6_1 v6_2 => laws_toIntS.g6 x0 r6 v6_1 v6_2) (fun _ _ => none) n
theorem laws_toIntS.u6 (x0 : List Int) (n : Nat) (v6_1 : Int) (v6_2 : List Int) : laws_toIntS.l6 x0 (n + 1) v6_1 v6_2 = laws_toIntS.g6 x0 (laws_toIntS.l6 x0 n) v6_1 v6_2 := rfl
noncomputable abbrev laws_toIntS.b (x0 : List Int) (L6 : Int → (List Int) → Option (List Int)) : Option (List Int) :=
  bif ((x0.length : Int) == (x0.length : Int)) then
  bif decide (0 ≤ (x0.length : Int)) then
    bif decide ((x0.length : Int) < (68719476736 : Int)) then
      L6 (0 : Int) (List.replicate ((x0.length : Int).toNat) (0 : Int))
    else none
  else none
else none
noncomputable def laws_toIntS (x0 : List Int) : Option (List Int) :=
  laws_toIntS.b x0 (laws_toIntS.l6 x0 V.KK)
noncomputable def laws_toKeys (x0 : TKeys) : Option TKeys :=
  (laws_toIntS x0.1).bind fun y1 =>
  some (y1, x0.2)
noncomputable def laws_toHead (x0 : THead) : Option THead :=
  (laws_toKeys (Head_Keys x0)).bind fun y1 =>
  (laws_toKeys (Head_Heirs x0)).bind fun y2 =>
    (laws_toKeys (Head_Judge x0)).bind fun y3 =>
      some (Head_mk (Head_Zone x0) (Head_Epoch x0) (Head_Kind x0) (Head_Time x0) (Head_Until x0) (Head_Count x0) (Head_Root x0) (Head_Prev x0) y1 y2 (Head_Wait x0) y3 (Head_Frozen x0))
noncomputable def laws_toSig (x0 : TSig) : Option TSig :=
  some x0
noncomputable abbrev laws_toSigS.g6 (x0 : List TSig) (r6 : Int → (List TSig) → Option (List TSig)) (v6_1 : Int) (v6_2 : List TSig) : Option (List TSig) :=
  bif decide (v6_1 < (x0.length : Int)) then
  bif decide (0 ≤ v6_1) then
    bif decide (v6_1 < (x0.length : Int)) then
      (laws_toSig (x0.getD v6_1.toNat dSig)).bind fun y1 =>
        bif decide (0 ≤ v6_1) then
          bif decide (v6_1 < (v6_2.length : Int)) then
            r6 (IntKind.i64.wrap (v6_1 + (1 : Int))) (v6_2.set v6_1.toNat y1)
          else none
        else none
    else none
  else none
else some v6_2
noncomputable def laws_toSigS.l6 (x0 : List TSig) (n : Nat) : Int → (List TSig) → Option (List TSig) :=
  V.iter (fun (r6 : Int → (List TSig) → Option (List TSig)) => fun v6_1 v6_2 => laws_toSigS.g6 x0 r6 v6_1 v6_2) (fun _ _ => none) n
theorem laws_toSigS.u6 (x0 : List TSig) (n : Nat) (v6_1 : Int) (v6_2 : List TSig) : laws_toSigS.l6 x0 (n + 1) v6_1 v6_2 = laws_toSigS.g6 x0 (laws_toSigS.l6 x0 n) v6_1 v6_2 := rfl
noncomputable abbrev laws_toSigS.b (x0 : List TSig) (L6 : Int → (List TSig) → Option (List TSig)) : Option (List TSig) :=
  bif ((x0.length : Int) == (x0.length : Int)) then
  bif decide (0 ≤ (x0.length : Int)) then
    bif decide ((x0.length : Int) < (68719476736 : Int)) then
      L6 (0 : Int) (List.replicate ((x0.length : Int).toNat) dSig)
    else none
  else none
else none
noncomputable def laws_toSigS (x0 : List TSig) : Option (List TSig) :=
  laws_toSigS.b x0 (laws_toSigS.l6 x0 V.KK)
noncomputable def laws_toSigned (x0 : TSigned) : Option TSigned :=
  (laws_toHead (Signed_Head x0)).bind fun y1 =>
  (laws_toSigS (Signed_Sigs x0)).bind fun y2 =>
    some (Signed_mk y1 y2)
noncomputable abbrev laws_toSignedS.g6 (x0 : List TSigned) (r6 : Int → (List TSigned) → Option (List TSigned)) (v6_1 : Int) (v6_2 : List TSigned) : Option (List TSigned) :=
  bif decide (v6_1 < (x0.length : Int)) then
  bif decide (0 ≤ v6_1) then
    bif decide (v6_1 < (x0.length : Int)) then
      (laws_toSigned (x0.getD v6_1.toNat dSigned)).bind fun y1 =>
        bif decide (0 ≤ v6_1) then
          bif decide (v6_1 < (v6_2.length : Int)) then
            r6 (IntKind.i64.wrap (v6_1 + (1 : Int))) (v6_2.set v6_1.toNat y1)
          else none
        else none
    else none
  else none
else some v6_2
noncomputable def laws_toSignedS.l6 (x0 : List TSigned) (n : Nat) : Int → (List TSigned) → Option (List TSigned) :=
  V.iter (fun (r6 : Int → (List TSigned) → Option (List TSigned)) => fun v6_1 v6_2 => laws_toSignedS.g6 x0 r6 v6_1 v6_2) (fun _ _ => none) n
theorem laws_toSignedS.u6 (x0 : List TSigned) (n : Nat) (v6_1 : Int) (v6_2 : List TSigned) : laws_toSignedS.l6 x0 (n + 1) v6_1 v6_2 = laws_toSignedS.g6 x0 (laws_toSignedS.l6 x0 n) v6_1 v6_2 := rfl
noncomputable abbrev laws_toSignedS.b (x0 : List TSigned) (L6 : Int → (List TSigned) → Option (List TSigned)) : Option (List TSigned) :=
  bif ((x0.length : Int) == (x0.length : Int)) then
  bif decide (0 ≤ (x0.length : Int)) then
    bif decide ((x0.length : Int) < (68719476736 : Int)) then
      L6 (0 : Int) (List.replicate ((x0.length : Int).toNat) dSigned)
    else none
  else none
else none
noncomputable def laws_toSignedS (x0 : List TSigned) : Option (List TSigned) :=
  laws_toSignedS.b x0 (laws_toSignedS.l6 x0 V.KK)
noncomputable abbrev laws_toStringS.g6 (x0 : List ByteArray) (r6 : Int → (List ByteArray) → Option (List ByteArray)) (v6_1 : Int) (v6_2 : List ByteArray) : Option (List ByteArray) :=
  bif decide (v6_1 < (x0.length : Int)) then
  bif decide (0 ≤ v6_1) then
    bif decide (v6_1 < (x0.length : Int)) then
      bif decide (0 ≤ v6_1) then
        bif decide (v6_1 < (v6_2.length : Int)) then
          r6 (IntKind.i64.wrap (v6_1 + (1 : Int))) (v6_2.set v6_1.toNat (x0.getD v6_1.toNat (⟨#[]⟩ : ByteArray)))
        else none
      else none
    else none
  else none
else some v6_2
noncomputable def laws_toStringS.l6 (x0 : List ByteArray) (n : Nat) : Int → (List ByteArray) → Option (List ByteArray) :=
  V.iter (fun (r6 : Int → (List ByteArray) → Option (List ByteArray)) => fun v6_1 v6_2 => laws_toStringS.g6 x0 r6 v6_1 v6_2) (fun _ _ => none) n
theorem laws_toStringS.u6 (x0 : List ByteArray) (n : Nat) (v6_1 : Int) (v6_2 : List ByteArray) : laws_toStringS.l6 x0 (n + 1) v6_1 v6_2 = laws_toStringS.g6 x0 (laws_toStringS.l6 x0 n) v6_1 v6_2 := rfl
noncomputable abbrev laws_toStringS.b (x0 : List ByteArray) (L6 : Int → (List ByteArray) → Option (List ByteArray)) : Option (List ByteArray) :=
  bif ((x0.length : Int) == (x0.length : Int)) then
  bif decide (0 ≤ (x0.length : Int)) then
    bif decide ((x0.length : Int) < (68719476736 : Int)) then
      L6 (0 : Int) (List.replicate ((x0.length : Int).toNat) (⟨#[]⟩ : ByteArray))
    else none
  else none
else none
noncomputable def laws_toStringS (x0 : List ByteArray) : Option (List ByteArray) :=
  laws_toStringS.b x0 (laws_toStringS.l6 x0 V.KK)
noncomputable def laws_toEntry (x0 : TEntry) : Option TEntry :=
  (laws_toStringS x0.2.2.2).bind fun y1 =>
  some (x0.1, x0.2.1, x0.2.2.1, y1)
noncomputable def laws_toProof (x0 : TProof) : Option TProof :=
  (laws_toIntS x0.2).bind fun y1 =>
  some (x0.1, y1)
noncomputable def laws_toGap (x0 : TGap) : Option TGap :=
  (laws_toEntry (Gap_Before x0)).bind fun y1 =>
  (laws_toEntry (Gap_After x0)).bind fun y2 =>
    (laws_toProof (Gap_Left x0)).bind fun y3 =>
      (laws_toProof (Gap_Right x0)).bind fun y4 =>
        some (Gap_mk (Gap_At x0) y1 y2 y3 y4)
noncomputable def laws_toAnswer (x0 : TAnswer) : Option TAnswer :=
  (laws_toSignedS (Answer_Chain x0)).bind fun y1 =>
  (laws_toEntry (Answer_Entry x0)).bind fun y2 =>
    (laws_toProof (Answer_Proof x0)).bind fun y3 =>
      (laws_toGap (Answer_Gap x0)).bind fun y4 =>
        some (Answer_mk y1 (Answer_Found x0) y2 y3 y4)
noncomputable abbrev spec_SamePath.g8 (x0 : List ByteArray) (x1 : List ByteArray) (r8 : Int → Option Bool) (v8_2 : Int) : Option Bool :=
  bif decide (v8_2 < (x0.length : Int)) then
  bif decide (0 ≤ v8_2) then
    bif decide (v8_2 < (x0.length : Int)) then
      bif decide (0 ≤ v8_2) then
        bif decide (v8_2 < (x1.length : Int)) then
          bif !((x0.getD v8_2.toNat (⟨#[]⟩ : ByteArray)).toList == (x1.getD v8_2.toNat (⟨#[]⟩ : ByteArray)).toList) then
            some false
          else r8 (IntKind.i64.wrap (v8_2 + (1 : Int)))
        else none
      else none
    else none
  else none
else some true
noncomputable def spec_SamePath.l8 (x0 : List ByteArray) (x1 : List ByteArray) (n : Nat) : Int → Option Bool :=
  V.iter (fun (r8 : Int → Option Bool) => fun v8_2 => spec_SamePath.g8 x0 x1 r8 v8_2) (fun _ => none) n
theorem spec_SamePath.u8 (x0 : List ByteArray) (x1 : List ByteArray) (n : Nat) (v8_2 : Int) : spec_SamePath.l8 x0 x1 (n + 1) v8_2 = spec_SamePath.g8 x0 x1 (spec_SamePath.l8 x0 x1 n) v8_2 := rfl
noncomputable abbrev spec_SamePath.b (x0 : List ByteArray) (x1 : List ByteArray) (L8 : Int → Option Bool) : Option Bool :=
  bif (x0.length : Int) != (x1.length : Int) then
  some false
else L8 (0 : Int)
noncomputable def spec_SamePath (x0 : List ByteArray) (x1 : List ByteArray) : Option Bool :=
  spec_SamePath.b x0 x1 (spec_SamePath.l8 x0 x1 V.KK)
noncomputable def spec_EqualEntries (x0 : TEntry) (x1 : TEntry) : Option Bool :=
  bif x0.1.toList == x1.1.toList then
  bif x0.2.1 == x1.2.1 then
    bif x0.2.2.1 == x1.2.2.1 then
      (spec_SamePath x0.2.2.2 x1.2.2.2).bind fun y1 =>
        some y1
    else some false
  else some false
else some false
noncomputable abbrev spec_SameEntries.g8 (x0 : List TEntry) (x1 : List TEntry) (r8 : Int → Option Bool) (v8_2 : Int) : Option Bool :=
  bif decide (v8_2 < (x0.length : Int)) then
  bif decide (0 ≤ v8_2) then
    bif decide (v8_2 < (x0.length : Int)) then
      bif decide (0 ≤ v8_2) then
        bif decide (v8_2 < (x1.length : Int)) then
          (spec_EqualEntries (x0.getD v8_2.toNat dEntry) (x1.getD v8_2.toNat dEntry)).bind fun y1 =>
            bif !y1 then
              some false
            else r8 (IntKind.i64.wrap (v8_2 + (1 : Int)))
        else none
      else none
    else none
  else none
else some true
noncomputable def spec_SameEntries.l8 (x0 : List TEntry) (x1 : List TEntry) (n : Nat) : Int → Option Bool :=
  V.iter (fun (r8 : Int → Option Bool) => fun v8_2 => spec_SameEntries.g8 x0 x1 r8 v8_2) (fun _ => none) n
theorem spec_SameEntries.u8 (x0 : List TEntry) (x1 : List TEntry) (n : Nat) (v8_2 : Int) : spec_SameEntries.l8 x0 x1 (n + 1) v8_2 = spec_SameEntries.g8 x0 x1 (spec_SameEntries.l8 x0 x1 n) v8_2 := rfl
noncomputable abbrev spec_SameEntries.b (x0 : List TEntry) (x1 : List TEntry) (L8 : Int → Option Bool) : Option Bool :=
  bif (x0.length : Int) != (x1.length : Int) then
  some false
else L8 (0 : Int)
noncomputable def spec_SameEntries (x0 : List TEntry) (x1 : List TEntry) : Option Bool :=
  spec_SameEntries.b x0 x1 (spec_SameEntries.l8 x0 x1 V.KK)
noncomputable def spec_KeysInts (x0 : TKeys) : Option (List Int) :=
  bif decide ([x0.2, (x0.1.length : Int)].length + x0.1.length < 68719476736) then
  some ([x0.2, (x0.1.length : Int)] ++ x0.1)
else none
noncomputable def spec_HeadInts (x0 : THead) : Option (List Int) :=
  (spec_KeysInts (Head_Keys x0)).bind fun y1 =>
  bif decide ([(Head_Zone x0), (Head_Epoch x0), (Head_Kind x0), (Head_Time x0), (Head_Until x0), (Head_Count x0), (Head_Root x0), (Head_Prev x0)].length + y1.length < 68719476736) then
    (spec_KeysInts (Head_Heirs x0)).bind fun y2 =>
      bif decide (([(Head_Zone x0), (Head_Epoch x0), (Head_Kind x0), (Head_Time x0), (Head_Until x0), (Head_Count x0), (Head_Root x0), (Head_Prev x0)] ++ y1).length + y2.length < 68719476736) then
        bif decide ((([(Head_Zone x0), (Head_Epoch x0), (Head_Kind x0), (Head_Time x0), (Head_Until x0), (Head_Count x0), (Head_Root x0), (Head_Prev x0)] ++ y1) ++ y2).length + [(Head_Wait x0)].length < 68719476736) then
          (spec_KeysInts (Head_Judge x0)).bind fun y3 =>
            bif decide (((([(Head_Zone x0), (Head_Epoch x0), (Head_Kind x0), (Head_Time x0), (Head_Until x0), (Head_Count x0), (Head_Root x0), (Head_Prev x0)] ++ y1) ++ y2) ++ [(Head_Wait x0)]).length + y3.length < 68719476736) then
              bif (Head_Frozen x0) then
                bif decide ((((([(Head_Zone x0), (Head_Epoch x0), (Head_Kind x0), (Head_Time x0), (Head_Until x0), (Head_Count x0), (Head_Root x0), (Head_Prev x0)] ++ y1) ++ y2) ++ [(Head_Wait x0)]) ++ y3).length + [(1 : Int)].length < 68719476736) then
                  some ((((([(Head_Zone x0), (Head_Epoch x0), (Head_Kind x0), (Head_Time x0), (Head_Until x0), (Head_Count x0), (Head_Root x0), (Head_Prev x0)] ++ y1) ++ y2) ++ [(Head_Wait x0)]) ++ y3) ++ [(1 : Int)])
                else none
              else
                bif decide ((((([(Head_Zone x0), (Head_Epoch x0), (Head_Kind x0), (Head_Time x0), (Head_Until x0), (Head_Count x0), (Head_Root x0), (Head_Prev x0)] ++ y1) ++ y2) ++ [(Head_Wait x0)]) ++ y3).length + [(0 : Int)].length < 68719476736) then
                  some ((((([(Head_Zone x0), (Head_Epoch x0), (Head_Kind x0), (Head_Time x0), (Head_Until x0), (Head_Count x0), (Head_Root x0), (Head_Prev x0)] ++ y1) ++ y2) ++ [(Head_Wait x0)]) ++ y3) ++ [(0 : Int)])
                else none
            else none
        else none
      else none
  else none
noncomputable abbrev spec_EqualInts.g8 (x0 : List Int) (x1 : List Int) (r8 : Int → Option Bool) (v8_2 : Int) : Option Bool :=
  bif decide (v8_2 < (x0.length : Int)) then
  bif decide (0 ≤ v8_2) then
    bif decide (v8_2 < (x0.length : Int)) then
      bif decide (0 ≤ v8_2) then
        bif decide (v8_2 < (x1.length : Int)) then
          bif (x0.getD v8_2.toNat (0 : Int)) != (x1.getD v8_2.toNat (0 : Int)) then
            some false
          else r8 (IntKind.i64.wrap (v8_2 + (1 : Int)))
        else none
      else none
    else none
  else none
else some true
noncomputable def spec_EqualInts.l8 (x0 : List Int) (x1 : List Int) (n : Nat) : Int → Option Bool :=
  V.iter (fun (r8 : Int → Option Bool) => fun v8_2 => spec_EqualInts.g8 x0 x1 r8 v8_2) (fun _ => none) n
theorem spec_EqualInts.u8 (x0 : List Int) (x1 : List Int) (n : Nat) (v8_2 : Int) : spec_EqualInts.l8 x0 x1 (n + 1) v8_2 = spec_EqualInts.g8 x0 x1 (spec_EqualInts.l8 x0 x1 n) v8_2 := rfl
noncomputable abbrev spec_EqualInts.b (x0 : List Int) (x1 : List Int) (L8 : Int → Option Bool) : Option Bool :=
  bif (x0.length : Int) != (x1.length : Int) then
  some false
else L8 (0 : Int)
noncomputable def spec_EqualInts (x0 : List Int) (x1 : List Int) : Option Bool :=
  spec_EqualInts.b x0 x1 (spec_EqualInts.l8 x0 x1 V.KK)
noncomputable def spec_EqualHeads (x0 : THead) (x1 : THead) : Option Bool :=
  (spec_HeadInts x0).bind fun y1 =>
  (spec_HeadInts x1).bind fun y2 =>
    (spec_EqualInts y1 y2).bind fun y3 =>
      bif y3 then
        some ((Head_Frozen x0) == (Head_Frozen x1))
      else some false
noncomputable abbrev spec_EqualSigned.g8 (x0 : TSigned) (x1 : TSigned) (r8 : Int → Option Bool) (v8_0 : Int) : Option Bool :=
  bif decide (v8_0 < ((Signed_Sigs x0).length : Int)) then
  bif decide (0 ≤ v8_0) then
    bif decide (v8_0 < (((Signed_Sigs x0).length) : Int)) then
      bif decide (0 ≤ v8_0) then
        bif decide (v8_0 < (((Signed_Sigs x1).length) : Int)) then
          bif !((((Signed_Sigs x0).getD v8_0.toNat dSig).1 == ((Signed_Sigs x1).getD v8_0.toNat dSig).1) && ((((Signed_Sigs x0).getD v8_0.toNat dSig).2 == ((Signed_Sigs x1).getD v8_0.toNat dSig).2) && true)) then
            some false
          else r8 (IntKind.i64.wrap (v8_0 + (1 : Int)))
        else none
      else none
    else none
  else none
else some true
noncomputable def spec_EqualSigned.l8 (x0 : TSigned) (x1 : TSigned) (n : Nat) : Int → Option Bool :=
  V.iter (fun (r8 : Int → Option Bool) => fun v8_0 => spec_EqualSigned.g8 x0 x1 r8 v8_0) (fun _ => none) n
theorem spec_EqualSigned.u8 (x0 : TSigned) (x1 : TSigned) (n : Nat) (v8_0 : Int) : spec_EqualSigned.l8 x0 x1 (n + 1) v8_0 = spec_EqualSigned.g8 x0 x1 (spec_EqualSigned.l8 x0 x1 n) v8_0 := rfl
noncomputable abbrev spec_EqualSigned.g7 (x0 : TSigned) (x1 : TSigned) (L8 : Int → Option Bool) : Option Bool :=
  L8 (0 : Int)
noncomputable def spec_EqualSigned.l7 (x0 : TSigned) (x1 : TSigned) : Option Bool :=
  spec_EqualSigned.g7 x0 x1 (spec_EqualSigned.l8 x0 x1 V.KK)
noncomputable abbrev spec_EqualSigned.b (x0 : TSigned) (x1 : TSigned) (L7 : Option Bool) : Option Bool :=
  (spec_EqualHeads (Signed_Head x0) (Signed_Head x1)).bind fun y1 =>
  bif !y1 then
    some false
  else
    bif ((Signed_Sigs x0).length : Int) != ((Signed_Sigs x1).length : Int) then
      some false
    else L7
noncomputable def spec_EqualSigned (x0 : TSigned) (x1 : TSigned) : Option Bool :=
  spec_EqualSigned.b x0 x1 (spec_EqualSigned.l7 x0 x1)
noncomputable abbrev spec_EqualZones.g8 (x0 : TZone) (x1 : TZone) (r8 : Int → Option Bool) (v8_0 : Int) : Option Bool :=
  bif decide (v8_0 < (x0.1.length : Int)) then
  bif decide (0 ≤ v8_0) then
    bif decide (v8_0 < (x0.1.length : Int)) then
      bif decide (0 ≤ v8_0) then
        bif decide (v8_0 < (x1.1.length : Int)) then
          (spec_EqualSigned (x0.1.getD v8_0.toNat dSigned) (x1.1.getD v8_0.toNat dSigned)).bind fun y2 =>
            bif !y2 then
              some false
            else r8 (IntKind.i64.wrap (v8_0 + (1 : Int)))
        else none
      else none
    else none
  else none
else some true
noncomputable def spec_EqualZones.l8 (x0 : TZone) (x1 : TZone) (n : Nat) : Int → Option Bool :=
  V.iter (fun (r8 : Int → Option Bool) => fun v8_0 => spec_EqualZones.g8 x0 x1 r8 v8_0) (fun _ => none) n
theorem spec_EqualZones.u8 (x0 : TZone) (x1 : TZone) (n : Nat) (v8_0 : Int) : spec_EqualZones.l8 x0 x1 (n + 1) v8_0 = spec_EqualZones.g8 x0 x1 (spec_EqualZones.l8 x0 x1 n) v8_0 := rfl
noncomputable abbrev spec_EqualZones.g7 (x0 : TZone) (x1 : TZone) (L8 : Int → Option Bool) : Option Bool :=
  L8 (0 : Int)
noncomputable def spec_EqualZones.l7 (x0 : TZone) (x1 : TZone) : Option Bool :=
  spec_EqualZones.g7 x0 x1 (spec_EqualZones.l8 x0 x1 V.KK)
noncomputable abbrev spec_EqualZones.b (x0 : TZone) (x1 : TZone) (L7 : Option Bool) : Option Bool :=
  bif (x0.1.length : Int) != (x1.1.length : Int) then
  some false
else
  (spec_SameEntries x0.2 x1.2).bind fun y1 =>
    bif !y1 then
      some false
    else L7
noncomputable def spec_EqualZones (x0 : TZone) (x1 : TZone) : Option Bool :=
  spec_EqualZones.b x0 x1 (spec_EqualZones.l7 x0 x1)
noncomputable def spec_EqualProofs (x0 : TProof) (x1 : TProof) : Option Bool :=
  bif x0.1 == x1.1 then
  (spec_EqualInts x0.2 x1.2).bind fun y1 =>
    some y1
else some false
noncomputable def spec_EqualGaps (x0 : TGap) (x1 : TGap) : Option Bool :=
  bif (Gap_At x0) == (Gap_At x1) then
  (spec_EqualEntries (Gap_Before x0) (Gap_Before x1)).bind fun y1 =>
    bif y1 then
      (spec_EqualEntries (Gap_After x0) (Gap_After x1)).bind fun y2 =>
        bif y2 then
          (spec_EqualProofs (Gap_Left x0) (Gap_Left x1)).bind fun y3 =>
            bif y3 then
              (spec_EqualProofs (Gap_Right x0) (Gap_Right x1)).bind fun y4 =>
                some y4
            else some false
        else some false
    else some false
else some false
noncomputable def spec_EqualAnswers (x0 : TAnswer) (x1 : TAnswer) : Option Bool :=
  (spec_EqualZones ((Answer_Chain x0), []) ((Answer_Chain x1), [])).bind fun y1 =>
  bif y1 then
    bif (Answer_Found x0) == (Answer_Found x1) then
      (spec_EqualEntries (Answer_Entry x0) (Answer_Entry x1)).bind fun y2 =>
        bif y2 then
          (spec_EqualProofs (Answer_Proof x0) (Answer_Proof x1)).bind fun y3 =>
            bif y3 then
              (spec_EqualGaps (Answer_Gap x0) (Answer_Gap x1)).bind fun y4 =>
                some y4
            else some false
        else some false
    else some false
  else some false
noncomputable abbrev slices_Equal_int.g8 (x0 : List Int) (x1 : List Int) (r8 : Int → Int → Option Bool) (v8_2 : Int) (v8_3 : Int) : Option Bool :=
  bif decide (v8_3 < v8_2) then
  bif decide (0 ≤ v8_3) then
    bif decide (v8_3 < (x0.length : Int)) then
      bif decide (0 ≤ v8_3) then
        bif decide (v8_3 < (x1.length : Int)) then
          bif (x0.getD v8_3.toNat (0 : Int)) != (x1.getD v8_3.toNat (0 : Int)) then
            some false
          else r8 v8_2 (IntKind.i64.wrap (v8_3 + (1 : Int)))
        else none
      else none
    else none
  else none
else some true
noncomputable def slices_Equal_int.l8 (x0 : List Int) (x1 : List Int) (n : Nat) : Int → Int → Option Bool :=
  V.iter (fun (r8 : Int → Int → Option Bool) => fun v8_2 v8_3 => slices_Equal_int.g8 x0 x1 r8 v8_2 v8_3) (fun _ _ => none) n
theorem slices_Equal_int.u8 (x0 : List Int) (x1 : List Int) (n : Nat) (v8_2 : Int) (v8_3 : Int) : slices_Equal_int.l8 x0 x1 (n + 1) v8_2 v8_3 = slices_Equal_int.g8 x0 x1 (slices_Equal_int.l8 x0 x1 n) v8_2 v8_3 := rfl
noncomputable abbrev slices_Equal_int.b (x0 : List Int) (x1 : List Int) (L8 : Int → Int → Option Bool) : Option Bool :=
  bif (x0.length : Int) != (x1.length : Int) then
  some false
else L8 (x0.length : Int) (0 : Int)
noncomputable def slices_Equal_int (x0 : List Int) (x1 : List Int) : Option Bool :=
  slices_Equal_int.b x0 x1 (slices_Equal_int.l8 x0 x1 V.KK)
noncomputable def impl_EqualKeys (x0 : TKeys) (x1 : TKeys) : Option Bool :=
  (slices_Equal_int x0.1 x1.1).bind fun y1 =>
  bif y1 then
    some (x0.2 == x1.2)
  else some false
noncomputable def impl_KeysInts (x0 : TKeys) : Option (List Int) :=
  bif decide ([x0.2, (x0.1.length : Int)].length + x0.1.length < 68719476736) then
  some ([x0.2, (x0.1.length : Int)] ++ x0.1)
else none
noncomputable def impl_bit (x0 : Bool) : Option Int :=
  bif x0 then
  some (1 : Int)
else some (0 : Int)
noncomputable abbrev slices_Grow_int.g7 (x1 : Int) : Option (List Int) :=
  bif decide ((IntKind.i64.wrap (x1 - (IntKind.i64.wrap ((0 : Int) - ((0 : Nat) : Int))))) > (0 : Int)) then
  bif decide (0 ≤ (IntKind.i64.wrap (x1 - (IntKind.i64.wrap ((0 : Int) - ((0 : Nat) : Int)))))) then
    bif decide ((IntKind.i64.wrap (x1 - (IntKind.i64.wrap ((0 : Int) - ((0 : Nat) : Int))))) < (68719476736 : Int)) then
      bif decide (0 ≤ (0 : Int)) then
        bif decide ((0 : Int) ≤ ((0 : Nat) : Int)) then
          bif decide (((0 : Nat) : Int) ≤ (((List.replicate ((IntKind.i64.wrap (x1 - (IntKind.i64.wrap ((0 : Int) - ((0 : Nat) : Int))))).toNat) (0 : Int)).length) : Int)) then
            some ((List.replicate ((IntKind.i64.wrap (x1 - (IntKind.i64.wrap ((0 : Int) - ((0 : Nat) : Int))))).toNat) (0 : Int)).take (((0 : Nat) : Int).toNat))
          else none
        else none
      else none
    else none
  else none
else some []
noncomputable def slices_Grow_int.l7 (x1 : Int) : Option (List Int) :=
  slices_Grow_int.g7 x1
noncomputable abbrev slices_Grow_int.b (x0 : List Int) (x1 : Int) (L7 : Option (List Int)) : Option (List Int) :=
  bif decide (x1 < (0 : Int)) then
  none
else L7
noncomputable def slices_Grow_int (x0 : List Int) (x1 : Int) : Option (List Int) :=
  slices_Grow_int.b x0 x1 (slices_Grow_int.l7 x1)
noncomputable abbrev slices_Concat_int.g22 (x0 : List (List Int)) (r22 : Int → Int → (List Int) → Option (List Int)) (v22_1 : Int) (v22_2 : Int) (v22_3 : List Int) : Option (List Int) :=
  bif decide (v22_2 < v22_1) then
  bif decide (0 ≤ v22_2) then
    bif decide (v22_2 < (x0.length : Int)) then
      bif decide (v22_3.length + (x0.getD v22_2.toNat []).length < 68719476736) then
        r22 v22_1 (IntKind.i64.wrap (v22_2 + (1 : Int))) (v22_3 ++ (x0.getD v22_2.toNat []))
      else none
    else none
  else none
else some v22_3
noncomputable def slices_Concat_int.l22 (x0 : List (List Int)) (n : Nat) : Int → Int → (List Int) → Option (List Int) :=
  V.iter (fun (r22 : Int → Int → (List Int) → Option (List Int)) => fun v22_1 v22_2 v22_3 => slices_Concat_int.g22 x0 r22 v22_1 v22_2 v22_3) (fun _ _ _ => none) n
theorem slices_Concat_int.u22 (x0 : List (List Int)) (n : Nat) (v22_1 : Int) (v22_2 : Int) (v22_3 : List Int) : slices_Concat_int.l22 x0 (n + 1) v22_1 v22_2 v22_3 = slices_Concat_int.g22 x0 (slices_Concat_int.l22 x0 n) v22_1 v22_2 v22_3 := rfl
noncomputable abbrev slices_Concat_int.g6 (x0 : List (List Int)) (r6 : Int → Int → Int → Option (List Int)) (L22 : Int → Int → (List Int) → Option (List Int)) (v6_1 : Int) (v6_3 : Int) (v6_4 : Int) : Option (List Int) :=
  bif decide (v6_4 < v6_3) then
  bif decide (0 ≤ v6_4) then
    bif decide (v6_4 < (x0.length : Int)) then
      bif decide ((IntKind.i64.wrap (v6_1 + ((x0.getD v6_4.toNat []).length : Int))) < (0 : Int)) then
        none
      else r6 (IntKind.i64.wrap (v6_1 + ((x0.getD v6_4.toNat []).length : Int))) v6_3 (IntKind.i64.wrap (v6_4 + (1 : Int)))
    else none
  else none
else
  (slices_Grow_int [] v6_1).bind fun y1 =>
    L22 (x0.length : Int) (0 : Int) y1
noncomputable def slices_Concat_int.l6 (x0 : List (List Int)) (n : Nat) : Int → Int → Int → Option (List Int) :=
  V.iter (fun (r6 : Int → Int → Int → Option (List Int)) => fun v6_1 v6_3 v6_4 => slices_Concat_int.g6 x0 r6 (slices_Concat_int.l22 x0 V.KK) v6_1 v6_3 v6_4) (fun _ _ _ => none) n
theorem slices_Concat_int.u6 (x0 : List (List Int)) (n : Nat) (v6_1 : Int) (v6_3 : Int) (v6_4 : Int) : slices_Concat_int.l6 x0 (n + 1) v6_1 v6_3 v6_4 = slices_Concat_int.g6 x0 (slices_Concat_int.l6 x0 n) (slices_Concat_int.l22 x0 V.KK) v6_1 v6_3 v6_4 := rfl
noncomputable abbrev slices_Concat_int.b (x0 : List (List Int)) (L6 : Int → Int → Int → Option (List Int)) : Option (List Int) :=
  L6 (0 : Int) (x0.length : Int) (0 : Int)
noncomputable def slices_Concat_int (x0 : List (List Int)) : Option (List Int) :=
  slices_Concat_int.b x0 (slices_Concat_int.l6 x0 V.KK)
noncomputable def impl_HeadInts (x0 : THead) : Option (List Int) :=
  (impl_KeysInts (Head_Keys x0)).bind fun y1 =>
  (impl_KeysInts (Head_Heirs x0)).bind fun y2 =>
    (impl_KeysInts (Head_Judge x0)).bind fun y3 =>
      (impl_bit (Head_Frozen x0)).bind fun y4 =>
        (slices_Concat_int [[(Head_Zone x0), (Head_Epoch x0), (Head_Kind x0), (Head_Time x0), (Head_Until x0), (Head_Count x0), (Head_Root x0), (Head_Prev x0)], y1, y2, [(Head_Wait x0)], y3, [y4]]).bind fun y5 =>
          some y5
noncomputable def impl_EqualHeads (x0 : THead) (x1 : THead) : Option Bool :=
  (impl_EqualKeys (Head_Keys x0) (Head_Keys x1)).bind fun y1 =>
  bif y1 then
    (impl_EqualKeys (Head_Heirs x0) (Head_Heirs x1)).bind fun y2 =>
      bif y2 then
        (impl_EqualKeys (Head_Judge x0) (Head_Judge x1)).bind fun y3 =>
          bif y3 then
            (impl_HeadInts x0).bind fun y4 =>
              (impl_HeadInts x1).bind fun y5 =>
                (slices_Equal_int y4 y5).bind fun y6 =>
                  some y6
          else some false
      else some false
  else some false
noncomputable abbrev slices_Equal_impl_Sig.g8 (x0 : List TSig) (x1 : List TSig) (r8 : Int → Int → Option Bool) (v8_2 : Int) (v8_3 : Int) : Option Bool :=
  bif decide (v8_3 < v8_2) then
  bif decide (0 ≤ v8_3) then
    bif decide (v8_3 < (x0.length : Int)) then
      bif decide (0 ≤ v8_3) then
        bif decide (v8_3 < (x1.length : Int)) then
          bif !(((x0.getD v8_3.toNat dSig).1 == (x1.getD v8_3.toNat dSig).1) && (((x0.getD v8_3.toNat dSig).2 == (x1.getD v8_3.toNat dSig).2) && true)) then
            some false
          else r8 v8_2 (IntKind.i64.wrap (v8_3 + (1 : Int)))
        else none
      else none
    else none
  else none
else some true
noncomputable def slices_Equal_impl_Sig.l8 (x0 : List TSig) (x1 : List TSig) (n : Nat) : Int → Int → Option Bool :=
  V.iter (fun (r8 : Int → Int → Option Bool) => fun v8_2 v8_3 => slices_Equal_impl_Sig.g8 x0 x1 r8 v8_2 v8_3) (fun _ _ => none) n
theorem slices_Equal_impl_Sig.u8 (x0 : List TSig) (x1 : List TSig) (n : Nat) (v8_2 : Int) (v8_3 : Int) : slices_Equal_impl_Sig.l8 x0 x1 (n + 1) v8_2 v8_3 = slices_Equal_impl_Sig.g8 x0 x1 (slices_Equal_impl_Sig.l8 x0 x1 n) v8_2 v8_3 := rfl
noncomputable abbrev slices_Equal_impl_Sig.b (x0 : List TSig) (x1 : List TSig) (L8 : Int → Int → Option Bool) : Option Bool :=
  bif (x0.length : Int) != (x1.length : Int) then
  some false
else L8 (x0.length : Int) (0 : Int)
noncomputable def slices_Equal_impl_Sig (x0 : List TSig) (x1 : List TSig) : Option Bool :=
  slices_Equal_impl_Sig.b x0 x1 (slices_Equal_impl_Sig.l8 x0 x1 V.KK)
noncomputable def impl_EqualSigned (x0 : TSigned) (x1 : TSigned) : Option Bool :=
  (impl_EqualHeads (Signed_Head x0) (Signed_Head x1)).bind fun y1 =>
  bif y1 then
    (slices_Equal_impl_Sig (Signed_Sigs x0) (Signed_Sigs x1)).bind fun y2 =>
      some y2
  else some false
noncomputable abbrev slices_EqualFunc_impl_Signed.g8 (x0 : List TSigned) (x1 : List TSigned) (r8 : Int → Int → Option Bool) (v8_2 : Int) (v8_3 : Int) : Option Bool :=
  bif decide (v8_3 < v8_2) then
  bif decide (0 ≤ v8_3) then
    bif decide (v8_3 < (x0.length : Int)) then
      bif decide (0 ≤ v8_3) then
        bif decide (v8_3 < (x1.length : Int)) then
          (impl_EqualSigned (x0.getD v8_3.toNat dSigned) (x1.getD v8_3.toNat dSigned)).bind fun y1 =>
            bif !y1 then
              some false
            else r8 v8_2 (IntKind.i64.wrap (v8_3 + (1 : Int)))
        else none
      else none
    else none
  else none
else some true
noncomputable def slices_EqualFunc_impl_Signed.l8 (x0 : List TSigned) (x1 : List TSigned) (n : Nat) : Int → Int → Option Bool :=
  V.iter (fun (r8 : Int → Int → Option Bool) => fun v8_2 v8_3 => slices_EqualFunc_impl_Signed.g8 x0 x1 r8 v8_2 v8_3) (fun _ _ => none) n
theorem slices_EqualFunc_impl_Signed.u8 (x0 : List TSigned) (x1 : List TSigned) (n : Nat) (v8_2 : Int) (v8_3 : Int) : slices_EqualFunc_impl_Signed.l8 x0 x1 (n + 1) v8_2 v8_3 = slices_EqualFunc_impl_Signed.g8 x0 x1 (slices_EqualFunc_impl_Signed.l8 x0 x1 n) v8_2 v8_3 := rfl
noncomputable abbrev slices_EqualFunc_impl_Signed.b (x0 : List TSigned) (x1 : List TSigned) (x2 : (Unit) × (Unit)) (L8 : Int → Int → Option Bool) : Option Bool :=
  bif (x0.length : Int) != (x1.length : Int) then
  some false
else L8 (x0.length : Int) (0 : Int)
noncomputable def slices_EqualFunc_impl_Signed (x0 : List TSigned) (x1 : List TSigned) (x2 : (Unit) × (Unit)) : Option Bool :=
  slices_EqualFunc_impl_Signed.b x0 x1 x2 (slices_EqualFunc_impl_Signed.l8 x0 x1 V.KK)
noncomputable def impl_sameChain (x0 : List TSigned) (x1 : List TSigned) : Option Bool :=
  (slices_EqualFunc_impl_Signed x0 x1 ((), ())).bind fun y1 =>
  some y1
noncomputable abbrev slices_Equal_string.g8 (x0 : List ByteArray) (x1 : List ByteArray) (r8 : Int → Int → Option Bool) (v8_2 : Int) (v8_3 : Int) : Option Bool :=
  bif decide (v8_3 < v8_2) then
  bif decide (0 ≤ v8_3) then
    bif decide (v8_3 < (x0.length : Int)) then
      bif decide (0 ≤ v8_3) then
        bif decide (v8_3 < (x1.length : Int)) then
          bif !((x0.getD v8_3.toNat (⟨#[]⟩ : ByteArray)).toList == (x1.getD v8_3.toNat (⟨#[]⟩ : ByteArray)).toList) then
            some false
          else r8 v8_2 (IntKind.i64.wrap (v8_3 + (1 : Int)))
        else none
      else none
    else none
  else none
else some true
noncomputable def slices_Equal_string.l8 (x0 : List ByteArray) (x1 : List ByteArray) (n : Nat) : Int → Int → Option Bool :=
  V.iter (fun (r8 : Int → Int → Option Bool) => fun v8_2 v8_3 => slices_Equal_string.g8 x0 x1 r8 v8_2 v8_3) (fun _ _ => none) n
theorem slices_Equal_string.u8 (x0 : List ByteArray) (x1 : List ByteArray) (n : Nat) (v8_2 : Int) (v8_3 : Int) : slices_Equal_string.l8 x0 x1 (n + 1) v8_2 v8_3 = slices_Equal_string.g8 x0 x1 (slices_Equal_string.l8 x0 x1 n) v8_2 v8_3 := rfl
noncomputable abbrev slices_Equal_string.b (x0 : List ByteArray) (x1 : List ByteArray) (L8 : Int → Int → Option Bool) : Option Bool :=
  bif (x0.length : Int) != (x1.length : Int) then
  some false
else L8 (x0.length : Int) (0 : Int)
noncomputable def slices_Equal_string (x0 : List ByteArray) (x1 : List ByteArray) : Option Bool :=
  slices_Equal_string.b x0 x1 (slices_Equal_string.l8 x0 x1 V.KK)
noncomputable def impl_EqualEntries (x0 : TEntry) (x1 : TEntry) : Option Bool :=
  bif x0.1.toList == x1.1.toList then
  bif x0.2.1 == x1.2.1 then
    bif x0.2.2.1 == x1.2.2.1 then
      (slices_Equal_string x0.2.2.2 x1.2.2.2).bind fun y1 =>
        some y1
    else some false
  else some false
else some false
noncomputable def impl_EqualProofs (x0 : TProof) (x1 : TProof) : Option Bool :=
  bif x0.1 == x1.1 then
  (slices_Equal_int x0.2 x1.2).bind fun y1 =>
    some y1
else some false
noncomputable def impl_EqualGaps (x0 : TGap) (x1 : TGap) : Option Bool :=
  bif (Gap_At x0) == (Gap_At x1) then
  (impl_EqualEntries (Gap_Before x0) (Gap_Before x1)).bind fun y1 =>
    bif y1 then
      (impl_EqualEntries (Gap_After x0) (Gap_After x1)).bind fun y2 =>
        bif y2 then
          (impl_EqualProofs (Gap_Left x0) (Gap_Left x1)).bind fun y3 =>
            bif y3 then
              (impl_EqualProofs (Gap_Right x0) (Gap_Right x1)).bind fun y4 =>
                some y4
            else some false
        else some false
    else some false
else some false
noncomputable def impl_EqualAnswers (x0 : TAnswer) (x1 : TAnswer) : Option Bool :=
  (impl_sameChain (Answer_Chain x0) (Answer_Chain x1)).bind fun y1 =>
  bif y1 then
    bif (Answer_Found x0) == (Answer_Found x1) then
      (impl_EqualEntries (Answer_Entry x0) (Answer_Entry x1)).bind fun y2 =>
        bif y2 then
          (impl_EqualProofs (Answer_Proof x0) (Answer_Proof x1)).bind fun y3 =>
            bif y3 then
              (impl_EqualGaps (Answer_Gap x0) (Answer_Gap x1)).bind fun y4 =>
                some y4
            else some false
        else some false
    else some false
  else some false
noncomputable abbrev laws_eqIntS.g8 (x0 : List Int) (x1 : List Int) (r8 : Int → Option Bool) (v8_2 : Int) : Option Bool :=
  bif decide (v8_2 < (x0.length : Int)) then
  bif decide (0 ≤ v8_2) then
    bif decide (v8_2 < (x0.length : Int)) then
      bif decide (0 ≤ v8_2) then
        bif decide (v8_2 < (x1.length : Int)) then
          bif (x0.getD v8_2.toNat (0 : Int)) != (x1.getD v8_2.toNat (0 : Int)) then
            some false
          else r8 (IntKind.i64.wrap (v8_2 + (1 : Int)))
        else none
      else none
    else none
  else none
else some true
noncomputable def laws_eqIntS.l8 (x0 : List Int) (x1 : List Int) (n : Nat) : Int → Option Bool :=
  V.iter (fun (r8 : Int → Option Bool) => fun v8_2 => laws_eqIntS.g8 x0 x1 r8 v8_2) (fun _ => none) n
theorem laws_eqIntS.u8 (x0 : List Int) (x1 : List Int) (n : Nat) (v8_2 : Int) : laws_eqIntS.l8 x0 x1 (n + 1) v8_2 = laws_eqIntS.g8 x0 x1 (laws_eqIntS.l8 x0 x1 n) v8_2 := rfl
noncomputable abbrev laws_eqIntS.b (x0 : List Int) (x1 : List Int) (L8 : Int → Option Bool) : Option Bool :=
  bif (x0.length : Int) != (x1.length : Int) then
  some false
else L8 (0 : Int)
noncomputable def laws_eqIntS (x0 : List Int) (x1 : List Int) : Option Bool :=
  laws_eqIntS.b x0 x1 (laws_eqIntS.l8 x0 x1 V.KK)
noncomputable def laws_eqKeys (x0 : TKeys) (x1 : TKeys) : Option Bool :=
  (laws_eqIntS x0.1 x1.1).bind fun y1 =>
  bif !y1 then
    some false
  else
    bif x0.2 != x1.2 then
      some false
    else some true
noncomputable def laws_eqHead (x0 : THead) (x1 : THead) : Option Bool :=
  bif (Head_Zone x0) != (Head_Zone x1) then
  some false
else
  bif (Head_Epoch x0) != (Head_Epoch x1) then
    some false
  else
    bif (Head_Kind x0) != (Head_Kind x1) then
      some false
    else
      bif (Head_Time x0) != (Head_Time x1) then
        some false
      else
        bif (Head_Until x0) != (Head_Until x1) then
          some false
        else
          bif (Head_Count x0) != (Head_Count x1) then
            some false
          else
            bif (Head_Root x0) != (Head_Root x1) then
              some false
            else
              bif (Head_Prev x0) != (Head_Prev x1) then
                some false
              else
                (laws_eqKeys (Head_Keys x0) (Head_Keys x1)).bind fun y1 =>
                  bif !y1 then
                    some false
                  else
                    (laws_eqKeys (Head_Heirs x0) (Head_Heirs x1)).bind fun y2 =>
                      bif !y2 then
                        some false
                      else
                        bif (Head_Wait x0) != (Head_Wait x1) then
                          some false
                        else
                          (laws_eqKeys (Head_Judge x0) (Head_Judge x1)).bind fun y3 =>
                            bif !y3 then
                              some false
                            else
                              bif !((Head_Frozen x0) == (Head_Frozen x1)) then
                                some false
                              else some true
noncomputable def laws_eqSig (x0 : TSig) (x1 : TSig) : Option Bool :=
  bif x0.1 != x1.1 then
  some false
else
  bif x0.2 != x1.2 then
    some false
  else some true
noncomputable abbrev laws_eqSigS.g8 (x0 : List TSig) (x1 : List TSig) (r8 : Int → Option Bool) (v8_2 : Int) : Option Bool :=
  bif decide (v8_2 < (x0.length : Int)) then
  bif decide (0 ≤ v8_2) then
    bif decide (v8_2 < (x0.length : Int)) then
      bif decide (0 ≤ v8_2) then
        bif decide (v8_2 < (x1.length : Int)) then
          (laws_eqSig (x0.getD v8_2.toNat dSig) (x1.getD v8_2.toNat dSig)).bind fun y1 =>
            bif !y1 then
              some false
            else r8 (IntKind.i64.wrap (v8_2 + (1 : Int)))
        else none
      else none
    else none
  else none
else some true
noncomputable def laws_eqSigS.l8 (x0 : List TSig) (x1 : List TSig) (n : Nat) : Int → Option Bool :=
  V.iter (fun (r8 : Int → Option Bool) => fun v8_2 => laws_eqSigS.g8 x0 x1 r8 v8_2) (fun _ => none) n
theorem laws_eqSigS.u8 (x0 : List TSig) (x1 : List TSig) (n : Nat) (v8_2 : Int) : laws_eqSigS.l8 x0 x1 (n + 1) v8_2 = laws_eqSigS.g8 x0 x1 (laws_eqSigS.l8 x0 x1 n) v8_2 := rfl
noncomputable abbrev laws_eqSigS.b (x0 : List TSig) (x1 : List TSig) (L8 : Int → Option Bool) : Option Bool :=
  bif (x0.length : Int) != (x1.length : Int) then
  some false
else L8 (0 : Int)
noncomputable def laws_eqSigS (x0 : List TSig) (x1 : List TSig) : Option Bool :=
  laws_eqSigS.b x0 x1 (laws_eqSigS.l8 x0 x1 V.KK)
noncomputable def laws_eqSigned (x0 : TSigned) (x1 : TSigned) : Option Bool :=
  (laws_eqHead (Signed_Head x0) (Signed_Head x1)).bind fun y1 =>
  bif !y1 then
    some false
  else
    (laws_eqSigS (Signed_Sigs x0) (Signed_Sigs x1)).bind fun y2 =>
      bif !y2 then
        some false
      else some true
noncomputable abbrev laws_eqSignedS.g8 (x0 : List TSigned) (x1 : List TSigned) (r8 : Int → Option Bool) (v8_2 : Int) : Option Bool :=
  bif decide (v8_2 < (x0.length : Int)) then
  bif decide (0 ≤ v8_2) then
    bif decide (v8_2 < (x0.length : Int)) then
      bif decide (0 ≤ v8_2) then
        bif decide (v8_2 < (x1.length : Int)) then
          (laws_eqSigned (x0.getD v8_2.toNat dSigned) (x1.getD v8_2.toNat dSigned)).bind fun y1 =>
            bif !y1 then
              some false
            else r8 (IntKind.i64.wrap (v8_2 + (1 : Int)))
        else none
      else none
    else none
  else none
else some true
noncomputable def laws_eqSignedS.l8 (x0 : List TSigned) (x1 : List TSigned) (n : Nat) : Int → Option Bool :=
  V.iter (fun (r8 : Int → Option Bool) => fun v8_2 => laws_eqSignedS.g8 x0 x1 r8 v8_2) (fun _ => none) n
theorem laws_eqSignedS.u8 (x0 : List TSigned) (x1 : List TSigned) (n : Nat) (v8_2 : Int) : laws_eqSignedS.l8 x0 x1 (n + 1) v8_2 = laws_eqSignedS.g8 x0 x1 (laws_eqSignedS.l8 x0 x1 n) v8_2 := rfl
noncomputable abbrev laws_eqSignedS.b (x0 : List TSigned) (x1 : List TSigned) (L8 : Int → Option Bool) : Option Bool :=
  bif (x0.length : Int) != (x1.length : Int) then
  some false
else L8 (0 : Int)
noncomputable def laws_eqSignedS (x0 : List TSigned) (x1 : List TSigned) : Option Bool :=
  laws_eqSignedS.b x0 x1 (laws_eqSignedS.l8 x0 x1 V.KK)
noncomputable abbrev laws_eqStringS.g8 (x0 : List ByteArray) (x1 : List ByteArray) (r8 : Int → Option Bool) (v8_2 : Int) : Option Bool :=
  bif decide (v8_2 < (x0.length : Int)) then
  bif decide (0 ≤ v8_2) then
    bif decide (v8_2 < (x0.length : Int)) then
      bif decide (0 ≤ v8_2) then
        bif decide (v8_2 < (x1.length : Int)) then
          bif !((x0.getD v8_2.toNat (⟨#[]⟩ : ByteArray)).toList == (x1.getD v8_2.toNat (⟨#[]⟩ : ByteArray)).toList) then
            some false
          else r8 (IntKind.i64.wrap (v8_2 + (1 : Int)))
        else none
      else none
    else none
  else none
else some true
noncomputable def laws_eqStringS.l8 (x0 : List ByteArray) (x1 : List ByteArray) (n : Nat) : Int → Option Bool :=
  V.iter (fun (r8 : Int → Option Bool) => fun v8_2 => laws_eqStringS.g8 x0 x1 r8 v8_2) (fun _ => none) n
theorem laws_eqStringS.u8 (x0 : List ByteArray) (x1 : List ByteArray) (n : Nat) (v8_2 : Int) : laws_eqStringS.l8 x0 x1 (n + 1) v8_2 = laws_eqStringS.g8 x0 x1 (laws_eqStringS.l8 x0 x1 n) v8_2 := rfl
noncomputable abbrev laws_eqStringS.b (x0 : List ByteArray) (x1 : List ByteArray) (L8 : Int → Option Bool) : Option Bool :=
  bif (x0.length : Int) != (x1.length : Int) then
  some false
else L8 (0 : Int)
noncomputable def laws_eqStringS (x0 : List ByteArray) (x1 : List ByteArray) : Option Bool :=
  laws_eqStringS.b x0 x1 (laws_eqStringS.l8 x0 x1 V.KK)
noncomputable def laws_eqEntry (x0 : TEntry) (x1 : TEntry) : Option Bool :=
  bif !(x0.1.toList == x1.1.toList) then
  some false
else
  bif x0.2.1 != x1.2.1 then
    some false
  else
    bif x0.2.2.1 != x1.2.2.1 then
      some false
    else
      (laws_eqStringS x0.2.2.2 x1.2.2.2).bind fun y1 =>
        bif !y1 then
          some false
        else some true
noncomputable def laws_eqProof (x0 : TProof) (x1 : TProof) : Option Bool :=
  bif x0.1 != x1.1 then
  some false
else
  (laws_eqIntS x0.2 x1.2).bind fun y1 =>
    bif !y1 then
      some false
    else some true
noncomputable def laws_eqGap (x0 : TGap) (x1 : TGap) : Option Bool :=
  bif (Gap_At x0) != (Gap_At x1) then
  some false
else
  (laws_eqEntry (Gap_Before x0) (Gap_Before x1)).bind fun y1 =>
    bif !y1 then
      some false
    else
      (laws_eqEntry (Gap_After x0) (Gap_After x1)).bind fun y2 =>
        bif !y2 then
          some false
        else
          (laws_eqProof (Gap_Left x0) (Gap_Left x1)).bind fun y3 =>
            bif !y3 then
              some false
            else
              (laws_eqProof (Gap_Right x0) (Gap_Right x1)).bind fun y4 =>
                bif !y4 then
                  some false
                else some true
noncomputable def laws_eqAnswer (x0 : TAnswer) (x1 : TAnswer) : Option Bool :=
  (laws_eqSignedS (Answer_Chain x0) (Answer_Chain x1)).bind fun y1 =>
  bif !y1 then
    some false
  else
    bif !((Answer_Found x0) == (Answer_Found x1)) then
      some false
    else
      (laws_eqEntry (Answer_Entry x0) (Answer_Entry x1)).bind fun y2 =>
        bif !y2 then
          some false
        else
          (laws_eqProof (Answer_Proof x0) (Answer_Proof x1)).bind fun y3 =>
            bif !y3 then
              some false
            else
              (laws_eqGap (Answer_Gap x0) (Answer_Gap x1)).bind fun y4 =>
                bif !y4 then
                  some false
                else some true
noncomputable def laws_FnExactEqualAnswers (x0 : TAnswer) (x1 : TAnswer) : Option Bool :=
  (laws_szAnswer x0 (1048576 : Int)).bind fun y1 =>
  bif decide (y1 < (0 : Int)) then
    some true
  else
    (laws_szAnswer x1 y1).bind fun y2 =>
      bif decide (y2 < (0 : Int)) then
        some true
      else
        (laws_toAnswer x0).bind fun y3 =>
          (laws_toAnswer x1).bind fun y4 =>
            (spec_EqualAnswers y3 y4).bind fun y5 =>
              (laws_toAnswer x0).bind fun y6 =>
                (laws_toAnswer x1).bind fun y7 =>
                  (impl_EqualAnswers y6 y7).bind fun y8 =>
                    bif !(y8 == y5) then
                      some false
                    else
                      (laws_toAnswer x0).bind fun y9 =>
                        (laws_eqAnswer y6 y9).bind fun y10 =>
                          bif !y10 then
                            some false
                          else
                            (laws_toAnswer x1).bind fun y11 =>
                              (laws_eqAnswer y7 y11).bind fun y12 =>
                                bif !y12 then
                                  some false
                                else some true
end Go.Proofs.Ytbdifkeoiodalaa
