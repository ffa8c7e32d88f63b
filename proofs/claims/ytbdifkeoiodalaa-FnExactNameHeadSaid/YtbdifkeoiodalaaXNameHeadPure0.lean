/- What the functions compute: printed from their code by the evaluator. -/
import Derived.Test.YtbdifkeoiodalaaVE
namespace Go.Proofs.Ytbdifkeoiodalaa
set_option linter.unusedVariables false
abbrev TKeys : Type := List Int × Int
abbrev dKeys : TKeys := ([], (0 : Int))
abbrev THead : Type := Int × Int × Int × Int × Int × Int × Int × Int × List Int × Int × List Int × Int × Int × List Int × Int × Bool
abbrev dHead : THead := ((0 : Int), (0 : Int), (0 : Int), (0 : Int), (0 : Int), (0 : Int), (0 : Int), (0 : Int), [], (0 : Int), [], (0 : Int), (0 : Int), [], (0 : Int), false)
def Head_Zone (x : THead) : Int := x.1
def Head_Epoch (x : THead) : Int := x.2.1
def Head_Kind (x : THead) : Int := x.2.2.1
def Head_Time (x : THead) : Int := x.2.2.2.1
def Head_Until (x : THead) : Int := x.2.2.2.2.1
def Head_Count (x : THead) : Int := x.2.2.2.2.2.1
def Head_Root (x : THead) : Int := x.2.2.2.2.2.2.1
def Head_Prev (x : THead) : Int := x.2.2.2.2.2.2.2.1
def Head_Keys (x : THead) : TKeys := (x.2.2.2.2.2.2.2.2.1, x.2.2.2.2.2.2.2.2.2.1)
def Head_Heirs (x : THead) : TKeys := (x.2.2.2.2.2.2.2.2.2.2.1, x.2.2.2.2.2.2.2.2.2.2.2.1)
def Head_Wait (x : THead) : Int := x.2.2.2.2.2.2.2.2.2.2.2.2.1
def Head_Judge (x : THead) : TKeys := (x.2.2.2.2.2.2.2.2.2.2.2.2.2.1, x.2.2.2.2.2.2.2.2.2.2.2.2.2.2.1)
def Head_Frozen (x : THead) : Bool := x.2.2.2.2.2.2.2.2.2.2.2.2.2.2.2
def Head_mk (a0 : Int) (a1 : Int) (a2 : Int) (a3 : Int) (a4 : Int) (a5 : Int) (a6 : Int) (a7 : Int) (a8 : TKeys) (a9 : TKeys) (a10 : Int) (a11 : TKeys) (a12 : Bool) : THead := (a0, a1, a2, a3, a4, a5, a6, a7, a8.1, a8.2, a9.1, a9.2, a10, a11.1, a11.2, a12)
theorem Head_s : ∀ (a0 : Int) (a1 : Int) (a2 : Int) (a3 : Int) (a4 : Int) (a5 : Int) (a6 : Int) (a7 : Int) (a8 : TKeys) (a9 : TKeys) (a10 : Int) (a11 : TKeys) (a12 : Bool), Head_Zone (Head_mk a0 a1 a2 a3 a4 a5 a6 a7 a8 a9 a10 a11 a12) = a0 ∧ Head_Epoch (Head_mk a0 a1 a2 a3 a4 a5 a6 a7 a8 a9 a10 a11 a12) = a1 ∧ Head_Kind (Head_mk a0 a1 a2 a3 a4 a5 a6 a7 a8 a9 a10 a11 a12) = a2 ∧ Head_Time (Head_mk a0 a1 a2 a3 a4 a5 a6 a7 a8 a9 a10 a11 a12) = a3 ∧ Head_Until (Head_mk a0 a1 a2 a3 a4 a5 a6 a7 a8 a9 a10 a11 a12) = a4 ∧ Head_Count (Head_mk a0 a1 a2 a3 a4 a5 a6 a7 a8 a9 a10 a11 a12) = a5 ∧ Head_Root (Head_mk a0 a1 a2 a3 a4 a5 a6 a7 a8 a9 a10 a11 a12) = a6 ∧ Head_Prev (Head_mk a0 a1 a2 a3 a4 a5 a6 a7 a8 a9 a10 a11 a12) = a7 ∧ Head_Keys (Head_mk a0 a1 a2 a3 a4 a5 a6 a7 a8 a9 a10 a11 a12) = a8 ∧ Head_Heirs (Head_mk a0 a1 a2 a3 a4 a5 a6 a7 a8 a9 a10 a11 a12) = a9 ∧ Head_Wait (Head_mk a0 a1 a2 a3 a4 a5 a6 a7 a8 a9 a10 a11 a12) = a10 ∧ Head_Judge (Head_mk a0 a1 a2 a3 a4 a5 a6 a7 a8 a9 a10 a11 a12) = a11 ∧ Head_Frozen (Head_mk a0 a1 a2 a3 a4 a5 a6 a7 a8 a9 a10 a11 a12) = a12 := fun a0 a1 a2 a3 a4 a5 a6 a7 a8 a9 a10 a11 a12 => ⟨rfl, rfl, rfl, rfl, rfl, rfl, rfl, rfl, rfl, rfl, rfl, rfl, rfl⟩
theorem Head_e (x : THead) : Head_mk (Head_Zone x) (Head_Epoch x) (Head_Kind x) (Head_Time x) (Head_Until x) (Head_Count x) (Head_Root x) (Head_Prev x) (Head_Keys x) (Head_Heirs x) (Head_Wait x) (Head_Judge x) (Head_Frozen x) = x := id rfl
theorem Head_d : Head_Zone dHead = (0 : Int) ∧ Head_Epoch dHead = (0 : Int) ∧ Head_Kind dHead = (0 : Int) ∧ Head_Time dHead = (0 : Int) ∧ Head_Until dHead = (0 : Int) ∧ Head_Count dHead = (0 : Int) ∧ Head_Root dHead = (0 : Int) ∧ Head_Prev dHead = (0 : Int) ∧ Head_Keys dHead = dKeys ∧ Head_Heirs dHead = dKeys ∧ Head_Wait dHead = (0 : Int) ∧ Head_Judge dHead = dKeys ∧ Head_Frozen dHead = false := ⟨rfl, rfl, rfl, rfl, rfl, rfl, rfl, rfl, rfl, rfl, rfl, rfl, rfl⟩
abbrev TRHeadBool : Type := Int × Int × Int × Int × Int × Int × Int × Int × List Int × Int × List Int × Int × Int × List Int × Int × Bool × Bool
abbrev dRHeadBool : TRHeadBool := ((0 : Int), (0 : Int), (0 : Int), (0 : Int), (0 : Int), (0 : Int), (0 : Int), (0 : Int), [], (0 : Int), [], (0 : Int), (0 : Int), [], (0 : Int), false, false)
def RHeadBool_r0 (x : TRHeadBool) : THead := (x.1, x.2.1, x.2.2.1, x.2.2.2.1, x.2.2.2.2.1, x.2.2.2.2.2.1, x.2.2.2.2.2.2.1, x.2.2.2.2.2.2.2.1, x.2.2.2.2.2.2.2.2.1, x.2.2.2.2.2.2.2.2.2.1, x.2.2.2.2.2.2.2.2.2.2.1, x.2.2.2.2.2.2.2.2.2.2.2.1, x.2.2.2.2.2.2.2.2.2.2.2.2.1, x.2.2.2.2.2.2.2.2.2.2.2.2.2.1, x.2.2.2.2.2.2.2.2.2.2.2.2.2.2.1, x.2.2.2.2.2.2.2.2.2.2.2.2.2.2.2.1)
def RHeadBool_r1 (x : TRHeadBool) : Bool := x.2.2.2.2.2.2.2.2.2.2.2.2.2.2.2.2
def RHeadBool_mk (a0 : THead) (a1 : Bool) : TRHeadBool := (a0.1, a0.2.1, a0.2.2.1, a0.2.2.2.1, a0.2.2.2.2.1, a0.2.2.2.2.2.1, a0.2.2.2.2.2.2.1, a0.2.2.2.2.2.2.2.1, a0.2.2.2.2.2.2.2.2.1, a0.2.2.2.2.2.2.2.2.2.1, a0.2.2.2.2.2.2.2.2.2.2.1, a0.2.2.2.2.2.2.2.2.2.2.2.1, a0.2.2.2.2.2.2.2.2.2.2.2.2.1, a0.2.2.2.2.2.2.2.2.2.2.2.2.2.1, a0.2.2.2.2.2.2.2.2.2.2.2.2.2.2.1, a0.2.2.2.2.2.2.2.2.2.2.2.2.2.2.2, a1)
theorem RHeadBool_s : ∀ (a0 : THead) (a1 : Bool), RHeadBool_r0 (RHeadBool_mk a0 a1) = a0 ∧ RHeadBool_r1 (RHeadBool_mk a0 a1) = a1 := fun a0 a1 => ⟨rfl, rfl⟩
theorem RHeadBool_e (x : TRHeadBool) : RHeadBool_mk (RHeadBool_r0 x) (RHeadBool_r1 x) = x := id rfl
theorem RHeadBool_d : RHeadBool_r0 dRHeadBool = dHead ∧ RHeadBool_r1 dRHeadBool = false := ⟨rfl, rfl⟩
noncomputable def laws_szIntS (x0 : List Int) (x1 : Int) : Option Int :=
  bif decide ((IntKind.i64.wrap (x1 - (x0.length : Int))) < (0 : Int)) then
  some (-1 : Int)
else some (IntKind.i64.wrap (x1 - (x0.length : Int)))
noncomputable def laws_szKeys (x0 : TKeys) (x1 : Int) : Option Int :=
  (laws_szIntS x0.1 x1).bind fun y1 =>
  bif decide (y1 < (0 : Int)) then
    some (-1 : Int)
  else some y1
noncomputable def laws_szHead (x0 : THead) (x1 : Int) : Option Int :=
  (laws_szKeys (Head_Keys x0) x1).bind fun y1 =>
  bif decide (y1 < (0 : Int)) then
    some (-1 : Int)
  else
    (laws_szKeys (Head_Heirs x0) y1).bind fun y2 =>
      bif decide (y2 < (0 : Int)) then
        some (-1 : Int)
      else
        (laws_szKeys (Head_Judge x0) y2).bind fun y3 =>
          bif decide (y3 < (0 : Int)) then
            some (-1 : Int)
          else some y3
noncomputable abbrev laws_toIntS.g6 (x0 : List Int) (r6 : Int → (List Int) → Option (List Int)) (v6_1 : Int) (v6_2 : List Int) : Option (List Int) :=
  bif decide (v6_1 < (x0.length : Int)) then
  bif decide (0 ≤ v6_1) then
    bif decide (v6_1 < (x0.length : Int)) then
      bif decide (0 ≤ v6_1) then
        bif decide (v6_1 < (v6_2.length : Int)) then
          r6 (IntKind.i64.wrap (v6_1 + (1 : Int))) (v6_2.set v6_1.toNat (x0.getD v6_1.toNat (0 : Int)))
        else none
      else none
    else none
  else none
else some v6_2
noncomputable def laws_toIntS.l6 (x0 : List Int) (n : Nat) : Int → (List Int) → Option (List Int) :=
  V.iter (fun (r6 : Int → (List Int) → Option (List Int)) => fun v6_1 v6_2 => laws_toIntS.g6 x0 r6 v6_1 v6_2) (fun _ _ => none) n
theorem laws_toIntS.u6 (x0 : List Int) (n : Nat) (v6_1 : Int) (v6_2 : List Int) : laws_toIntS.l6 x0 (n + 1) v6_1 v6_2 = laws_toIntS.g6 x0 (laws_toIntS.l6 x0 n) v6_1 v6_2 := rfl
noncomputable abbrev laws_toIntS.b (x0 : List Int) (L6 : Int → (List Int) → Option (List Int)) : Option (List Int) :=
  bif ((x0.length : Int) == (x0.length : Int)) then
  bif decide (0 ≤ (x0.length : Int)) then
    bif decide ((x0.length : Int) < (68719476736 : Int)) then
      L6 (0 : Int) (List.replicate ((x0.length : Int).toNat) (0 : Int))
    else none
  else none
else none
noncomputable def laws_toIntS (x0 : List Int) : Option (List Int) :=
  laws_toIntS.b x0 (laws_toIntS.l6 x0 V.KK)
noncomputable def laws_toKeys (x0 : TKeys) : Option TKeys :=
  (laws_toIntS x0.1).bind fun y1 =>
  some (y1, x0.2)
noncomputable def laws_toHead (x0 : THead) : Option THead :=
  (laws_toKeys (Head_Keys x0)).bind fun y1 =>
  (laws_toKeys (Head_Heirs x0)).bind fun y2 =>
    (laws_toKeys (Head_Judge x0)).bind fun y3 =>
      some (Head_mk (Head_Zone x0) (Head_Epoch x0) (Head_Kind x0) (Head_Time x0) (Head_Until x0) (Head_Count x0) (Head_Root x0) (Head_Prev x0) y1 y2 (Head_Wait x0) y3 (Head_Frozen x0))
noncomputable def spec_l1In (x0 : Int) (x1 : Int) (x2 : Int) : Option Bool :=
  bif decide (x0 ≥ x1) then
  some (decide (x0 ≤ x2))
else some false
noncomputable abbrev spec_IsKeys.g4 (x0 : TKeys) (r4 : Int → Option Bool) (v4_0 : Int) : Option Bool :=
  bif decide (v4_0 < (x0.1.length : Int)) then
  bif decide (0 ≤ v4_0) then
    bif decide (v4_0 < (x0.1.length : Int)) then
      (spec_l1In (x0.1.getD v4_0.toNat (0 : Int)) (1 : Int) (99 : Int)).bind fun y1 =>
        bif !y1 then
          some false
        else
          bif decide (v4_0 > (0 : Int)) then
            bif decide (0 ≤ (IntKind.i64.wrap (v4_0 - (1 : Int)))) then
              bif decide ((IntKind.i64.wrap (v4_0 - (1 : Int))) < (x0.1.length : Int)) then
                bif decide (0 ≤ v4_0) then
                  bif decide (v4_0 < (x0.1.length : Int)) then
                    bif decide ((x0.1.getD ((IntKind.i64.wrap (v4_0 - (1 : Int))).toNat) (0 : Int)) ≥ (x0.1.getD v4_0.toNat (0 : Int))) then
                      some false
                    else r4 (IntKind.i64.wrap (v4_0 + (1 : Int)))
                  else none
                else none
              else none
            else none
          else r4 (IntKind.i64.wrap (v4_0 + (1 : Int)))
    else none
  else none
else
  (spec_l1In (x0.1.length : Int) (1 : Int) (4 : Int)).bind fun y2 =>
    bif y2 then
      (spec_l1In x0.2 (1 : Int) (x0.1.length : Int)).bind fun y3 =>
        some y3
    else some false
noncomputable def spec_IsKeys.l4 (x0 : TKeys) (n : Nat) : Int → Option Bool :=
  V.iter (fun (r4 : Int → Option Bool) => fun v4_0 => spec_IsKeys.g4 x0 r4 v4_0) (fun _ => none) n
theorem spec_IsKeys.u4 (x0 : TKeys) (n : Nat) (v4_0 : Int) : spec_IsKeys.l4 x0 (n + 1) v4_0 = spec_IsKeys.g4 x0 (spec_IsKeys.l4 x0 n) v4_0 := rfl
noncomputable abbrev spec_IsKeys.b (x0 : TKeys) (L4 : Int → Option Bool) : Option Bool :=
  L4 (0 : Int)
noncomputable def spec_IsKeys (x0 : TKeys) : Option Bool :=
  spec_IsKeys.b x0 (spec_IsKeys.l4 x0 V.KK)
noncomputable def spec_NoKeys (x0 : TKeys) : Option Bool :=
  bif x0.2 == (0 : Int) then
  some ((x0.1.length : Int) == (0 : Int))
else some false
noncomputable abbrev spec_IsHead.g21 (x0 : THead) : Option Bool :=
  (spec_IsKeys (Head_Judge x0)).bind fun y11 =>
  bif y11 then
    some true
  else
    (spec_NoKeys (Head_Judge x0)).bind fun y12 =>
      bif y12 then
        some (!(Head_Frozen x0))
      else some false
noncomputable def spec_IsHead.l21 (x0 : THead) : Option Bool :=
  spec_IsHead.g21 x0
noncomputable abbrev spec_IsHead.g11 (x0 : THead) (L21 : Option Bool) : Option Bool :=
  (spec_NoKeys (Head_Heirs x0)).bind fun y10 =>
  bif y10 then
    bif (Head_Wait x0) != (0 : Int) then
      some false
    else L21
  else
    (spec_IsKeys (Head_Heirs x0)).bind fun y13 =>
      bif !y13 then
        some false
      else
        (spec_l1In (Head_Wait x0) (1 : Int) (500 : Int)).bind fun y14 =>
          bif !y14 then
            some false
          else L21
noncomputable def spec_IsHead.l11 (x0 : THead) : Option Bool :=
  spec_IsHead.g11 x0 (spec_IsHead.l21 x0)
noncomputable abbrev spec_IsHead.g7 (x0 : THead) (L11 : Option Bool) : Option Bool :=
  (spec_l1In (Head_Time x0) (0 : Int) (100000 : Int)).bind fun y6 =>
  bif !y6 then
    some false
  else
    (spec_l1In (Head_Until x0) (Head_Time x0) (100000 : Int)).bind fun y7 =>
      bif !y7 then
        some false
      else
        bif decide ((IntKind.i64.wrap ((Head_Until x0) - (Head_Time x0))) > (200 : Int)) then
          some false
        else
          (spec_l1In (Head_Count x0) (0 : Int) (12 : Int)).bind fun y8 =>
            bif !y8 then
              some false
            else
              (spec_IsKeys (Head_Keys x0)).bind fun y9 =>
                bif !y9 then
                  some false
                else L11
noncomputable def spec_IsHead.l7 (x0 : THead) : Option Bool :=
  spec_IsHead.g7 x0 (spec_IsHead.l11 x0)
noncomputable abbrev spec_IsHead.b (x0 : THead) (L7 : Option Bool) : Option Bool :=
  (spec_l1In (Head_Zone x0) (0 : Int) (2147483646 : Int)).bind fun y1 =>
  bif !y1 then
    some false
  else
    (spec_l1In (Head_Root x0) (0 : Int) (2147483646 : Int)).bind fun y2 =>
      bif !y2 then
        some false
      else
        (spec_l1In (Head_Prev x0) (0 : Int) (2147483646 : Int)).bind fun y3 =>
          bif !y3 then
            some false
          else
            (spec_l1In (Head_Epoch x0) (0 : Int) (200 : Int)).bind fun y4 =>
              bif !y4 then
                some false
              else
                (spec_l1In (Head_Kind x0) (1 : Int) (3 : Int)).bind fun y5 =>
                  bif !y5 then
                    some false
                  else L7
noncomputable def spec_IsHead (x0 : THead) : Option Bool :=
  spec_IsHead.b x0 (spec_IsHead.l7 x0)
noncomputable def spec_l6Copy (x0 : TKeys) : Option TKeys :=
  bif decide (([] : List Int).length + x0.1.length < 68719476736) then
  some ([] ++ x0.1, x0.2)
else none
noncomputable def spec_l13Copy (x0 : THead) : Option THead :=
  (spec_l6Copy (Head_Keys x0)).bind fun y1 =>
  (spec_l6Copy (Head_Heirs x0)).bind fun y2 =>
    (spec_l6Copy (Head_Judge x0)).bind fun y3 =>
      some (Head_mk (Head_Zone x0) (Head_Epoch x0) (Head_Kind x0) (Head_Time x0) (Head_Until x0) (Head_Count x0) (Head_Root x0) (Head_Prev x0) y1 y2 (Head_Wait x0) y3 (Head_Frozen x0))
noncomputable def spec_KeysInts (x0 : TKeys) : Option (List Int) :=
  bif decide ([x0.2, (x0.1.length : Int)].length + x0.1.length < 68719476736) then
  some ([x0.2, (x0.1.length : Int)] ++ x0.1)
else none
noncomputable def spec_HeadInts (x0 : THead) : Option (List Int) :=
  (spec_KeysInts (Head_Keys x0)).bind fun y1 =>
  bif decide ([(Head_Zone x0), (Head_Epoch x0), (Head_Kind x0), (Head_Time x0), (Head_Until x0), (Head_Count x0), (Head_Root x0), (Head_Prev x0)].length + y1.length < 68719476736) then
    (spec_KeysInts (Head_Heirs x0)).bind fun y2 =>
      bif decide (([(Head_Zone x0), (Head_Epoch x0), (Head_Kind x0), (Head_Time x0), (Head_Until x0), (Head_Count x0), (Head_Root x0), (Head_Prev x0)] ++ y1).length + y2.length < 68719476736) then
        bif decide ((([(Head_Zone x0), (Head_Epoch x0), (Head_Kind x0), (Head_Time x0), (Head_Until x0), (Head_Count x0), (Head_Root x0), (Head_Prev x0)] ++ y1) ++ y2).length + [(Head_Wait x0)].length < 68719476736) then
          (spec_KeysInts (Head_Judge x0)).bind fun y3 =>
            bif decide (((([(Head_Zone x0), (Head_Epoch x0), (Head_Kind x0), (Head_Time x0), (Head_Until x0), (Head_Count x0), (Head_Root x0), (Head_Prev x0)] ++ y1) ++ y2) ++ [(Head_Wait x0)]).length + y3.length < 68719476736) then
              bif (Head_Frozen x0) then
                bif decide ((((([(Head_Zone x0), (Head_Epoch x0), (Head_Kind x0), (Head_Time x0), (Head_Until x0), (Head_Count x0), (Head_Root x0), (Head_Prev x0)] ++ y1) ++ y2) ++ [(Head_Wait x0)]) ++ y3).length + [(1 : Int)].length < 68719476736) then
                  some ((((([(Head_Zone x0), (Head_Epoch x0), (Head_Kind x0), (Head_Time x0), (Head_Until x0), (Head_Count x0), (Head_Root x0), (Head_Prev x0)] ++ y1) ++ y2) ++ [(Head_Wait x0)]) ++ y3) ++ [(1 : Int)])
                else none
              else
                bif decide ((((([(Head_Zone x0), (Head_Epoch x0), (Head_Kind x0), (Head_Time x0), (Head_Until x0), (Head_Count x0), (Head_Root x0), (Head_Prev x0)] ++ y1) ++ y2) ++ [(Head_Wait x0)]) ++ y3).length + [(0 : Int)].length < 68719476736) then
                  some ((((([(Head_Zone x0), (Head_Epoch x0), (Head_Kind x0), (Head_Time x0), (Head_Until x0), (Head_Count x0), (Head_Root x0), (Head_Prev x0)] ++ y1) ++ y2) ++ [(Head_Wait x0)]) ++ y3) ++ [(0 : Int)])
                else none
            else none
        else none
      else none
  else none
noncomputable def spec_Mod (x0 : Int) (x1 : Int) : Option Int :=
  (spec_l1In x1 (1 : Int) (1000000000000 : Int)).bind fun y1 =>
  bif !y1 then
    some (0 : Int)
  else
    bif (x1 == (0 : Int)) then
      none
    else
      bif (x1 == (0 : Int)) then
        none
      else some (Int.tmod (IntKind.i64.wrap ((Int.tmod x0 x1) + x1)) x1)
noncomputable abbrev spec_Hash.g6 (x0 : List Int) (r6 : Int → Int → Option Int) (v6_1 : Int) (v6_2 : Int) : Option Int :=
  bif decide (v6_2 < (x0.length : Int)) then
  bif decide (0 ≤ v6_2) then
    bif decide (v6_2 < (x0.length : Int)) then
      (spec_Mod (x0.getD v6_2.toNat (0 : Int)) (2147483647 : Int)).bind fun y1 =>
        bif ((2147483647 : Int) == (0 : Int)) then
          none
        else r6 (Int.tmod (IntKind.i64.wrap ((IntKind.i64.wrap ((IntKind.i64.wrap (v6_1 * (1000003 : Int))) + y1)) + (13 : Int))) (2147483647 : Int)) (IntKind.i64.wrap (v6_2 + (1 : Int)))
    else none
  else none
else some v6_1
noncomputable def spec_Hash.l6 (x0 : List Int) (n : Nat) : Int → Int → Option Int :=
  V.iter (fun (r6 : Int → Int → Option Int) => fun v6_1 v6_2 => spec_Hash.g6 x0 r6 v6_1 v6_2) (fun _ _ => none) n
theorem spec_Hash.u6 (x0 : List Int) (n : Nat) (v6_1 : Int) (v6_2 : Int) : spec_Hash.l6 x0 (n + 1) v6_1 v6_2 = spec_Hash.g6 x0 (spec_Hash.l6 x0 n) v6_1 v6_2 := rfl
noncomputable abbrev spec_Hash.b (x0 : List Int) (L6 : Int → Int → Option Int) : Option Int :=
  L6 (11 : Int) (0 : Int)
noncomputable def spec_Hash (x0 : List Int) : Option Int :=
  spec_Hash.b x0 (spec_Hash.l6 x0 V.KK)
noncomputable def spec_HeadDigest (x0 : THead) : Option Int :=
  (spec_HeadInts x0).bind fun y1 =>
  bif decide ([(233 : Int)].length + y1.length < 68719476736) then
    (spec_Hash ([(233 : Int)] ++ y1)).bind fun y2 =>
      some y2
  else none
noncomputable def spec_l17Valid (x0 : THead) : Option TRHeadBool :=
  (spec_IsHead x0).bind fun y1 =>
  bif !y1 then
    some dRHeadBool
  else some (RHeadBool_mk x0 true)
noncomputable abbrev spec_NextHead.g5 (x0 : THead) (x1 : Int) (x2 : Int) (x3 : Int) (v5_3 : Bool) : Option TRHeadBool :=
  bif v5_3 then
  some dRHeadBool
else
  (spec_l13Copy x0).bind fun y2 =>
    (spec_HeadDigest x0).bind fun y3 =>
      (spec_l17Valid (Head_mk (Head_Zone y2) (IntKind.i64.wrap ((Head_Epoch x0) + (1 : Int))) x1 x2 (IntKind.i64.wrap (x2 + x3)) (Head_Count y2) (Head_Root y2) y3 (Head_Keys y2) (Head_Heirs y2) (Head_Wait y2) (Head_Judge y2) (Head_Frozen y2))).bind fun y4 =>
        some y4
noncomputable def spec_NextHead.l5 (x0 : THead) (x1 : Int) (x2 : Int) (x3 : Int) (v5_3 : Bool) : Option TRHeadBool :=
  spec_NextHead.g5 x0 x1 x2 x3 v5_3
noncomputable abbrev spec_NextHead.b (x0 : THead) (x1 : Int) (x2 : Int) (x3 : Int) (L5 : Bool → Option TRHeadBool) : Option TRHeadBool :=
  (spec_IsHead x0).bind fun y1 =>
  bif !y1 then
    L5 true
  else
    (spec_l1In x2 (Head_Time x0) (100000 : Int)).bind fun y5 =>
      bif !y5 then
        L5 true
      else
        (spec_l1In x3 (0 : Int) (200 : Int)).bind fun y6 =>
          L5 (!y6)
noncomputable def spec_NextHead (x0 : THead) (x1 : Int) (x2 : Int) (x3 : Int) : Option TRHeadBool :=
  spec_NextHead.b x0 x1 x2 x3 (spec_NextHead.l5 x0 x1 x2 x3)
noncomputable def spec_NameHead (x0 : THead) (x1 : TKeys) (x2 : Int) (x3 : TKeys) (x4 : Int) (x5 : Int) : Option TRHeadBool :=
  (spec_NextHead x0 (1 : Int) x4 x5).bind fun y1 =>
  bif !(RHeadBool_r1 y1) then
    some dRHeadBool
  else
    (spec_l6Copy x1).bind fun y2 =>
      (spec_l6Copy x3).bind fun y3 =>
        (spec_l17Valid (Head_mk (Head_Zone (RHeadBool_r0 y1)) (Head_Epoch (RHeadBool_r0 y1)) (Head_Kind (RHeadBool_r0 y1)) (Head_Time (RHeadBool_r0 y1)) (Head_Until (RHeadBool_r0 y1)) (Head_Count (RHeadBool_r0 y1)) (Head_Root (RHeadBool_r0 y1)) (Head_Prev (RHeadBool_r0 y1)) (Head_Keys (RHeadBool_r0 y1)) y2 x2 y3 (Head_Frozen (RHeadBool_r0 y1)))).bind fun y4 =>
          some y4
noncomputable def impl_InRange (x0 : Int) (x1 : Int) (x2 : Int) : Option Bool :=
  bif decide (x1 ≤ x0) then
  some (decide (x0 ≤ x2))
else some false
noncomputable def impl_isDigest (x0 : Int) : Option Bool :=
  (impl_InRange x0 (0 : Int) (2147483646 : Int)).bind fun y1 =>
  some y1
noncomputable def impl_isSpan (x0 : THead) : Option Bool :=
  bif decide ((Head_Time x0) ≥ (0 : Int)) then
  bif decide ((Head_Time x0) ≤ (Head_Until x0)) then
    bif decide ((Head_Until x0) ≤ (100000 : Int)) then
      some (decide ((IntKind.i64.wrap ((Head_Until x0) - (Head_Time x0))) ≤ (200 : Int)))
    else some false
  else some false
else some false
noncomputable abbrev impl_ascending.g4 (x0 : List Int) (r4 : Int → Int → Option Bool) (v4_1 : Int) (v4_2 : Int) : Option Bool :=
  bif decide (v4_2 < v4_1) then
  bif decide (v4_2 > (0 : Int)) then
    bif decide (0 ≤ v4_2) then
      bif decide (v4_2 < (x0.length : Int)) then
        bif decide (0 ≤ (IntKind.i64.wrap (v4_2 - (1 : Int)))) then
          bif decide ((IntKind.i64.wrap (v4_2 - (1 : Int))) < (x0.length : Int)) then
            bif decide ((x0.getD v4_2.toNat (0 : Int)) ≤ (x0.getD ((IntKind.i64.wrap (v4_2 - (1 : Int))).toNat) (0 : Int))) then
              some false
            else r4 v4_1 (IntKind.i64.wrap (v4_2 + (1 : Int)))
          else none
        else none
      else none
    else none
  else r4 v4_1 (IntKind.i64.wrap (v4_2 + (1 : Int)))
else some true
noncomputable def impl_ascending.l4 (x0 : List Int) (n : Nat) : Int → Int → Option Bool :=
  V.iter (fun (r4 : Int → Int → Option Bool) => fun v4_1 v4_2 => impl_ascending.g4 x0 r4 v4_1 v4_2) (fun _ _ => none) n
theorem impl_ascending.u4 (x0 : List Int) (n : Nat) (v4_1 : Int) (v4_2 : Int) : impl_ascending.l4 x0 (n + 1) v4_1 v4_2 = impl_ascending.g4 x0 (impl_ascending.l4 x0 n) v4_1 v4_2 := rfl
noncomputable abbrev impl_ascending.b (x0 : List Int) (L4 : Int → Int → Option Bool) : Option Bool :=
  L4 (x0.length : Int) (0 : Int)
noncomputable def impl_ascending (x0 : List Int) : Option Bool :=
  impl_ascending.b x0 (impl_ascending.l4 x0 V.KK)
noncomputable def impl_isKey (x0 : Int) : Option Bool :=
  (impl_InRange x0 (1 : Int) (99 : Int)).bind fun y1 =>
  some y1
noncomputable def impl_IsKeys (x0 : TKeys) : Option Bool :=
  (impl_InRange (x0.1.length : Int) (1 : Int) (4 : Int)).bind fun y1 =>
  bif y1 then
    (impl_ascending x0.1).bind fun y2 =>
      bif y2 then
        bif decide (0 ≤ (0 : Int)) then
          bif decide ((0 : Int) < (x0.1.length : Int)) then
            (impl_isKey (x0.1.getD ((0 : Int).toNat) (0 : Int))).bind fun y3 =>
              bif y3 then
                bif decide (0 ≤ (IntKind.i64.wrap ((x0.1.length : Int) - (1 : Int)))) then
                  bif decide ((IntKind.i64.wrap ((x0.1.length : Int) - (1 : Int))) < (x0.1.length : Int)) then
                    (impl_isKey (x0.1.getD ((IntKind.i64.wrap ((x0.1.length : Int) - (1 : Int))).toNat) (0 : Int))).bind fun y4 =>
                      bif y4 then
                        (impl_InRange x0.2 (1 : Int) (x0.1.length : Int)).bind fun y5 =>
                          some y5
                      else some false
                  else none
                else none
              else some false
          else none
        else none
      else some false
  else some false
noncomputable def impl_NoKeys (x0 : TKeys) : Option Bool :=
  bif x0.2 == (0 : Int) then
  some ((x0.1.length : Int) == (0 : Int))
else some false
noncomputable def impl_isMaybe (x0 : TKeys) : Option Bool :=
  (impl_NoKeys x0).bind fun y1 =>
  bif y1 then
    some true
  else
    (impl_IsKeys x0).bind fun y2 =>
      some y2
noncomputable def impl_isWait (x0 : Int) (x1 : TKeys) : Option Bool :=
  (impl_NoKeys x1).bind fun y1 =>
  bif y1 then
    some (x0 == (0 : Int))
  else
    (impl_InRange x0 (1 : Int) (500 : Int)).bind fun y2 =>
      some y2
noncomputable def impl_IsHead (x0 : THead) : Option Bool :=
  (impl_isDigest (Head_Zone x0)).bind fun y1 =>
  bif y1 then
    (impl_isDigest (Head_Root x0)).bind fun y2 =>
      bif y2 then
        (impl_isDigest (Head_Prev x0)).bind fun y3 =>
          bif y3 then
            (impl_InRange (Head_Epoch x0) (0 : Int) (200 : Int)).bind fun y4 =>
              bif y4 then
                (impl_InRange (Head_Kind x0) (1 : Int) (3 : Int)).bind fun y5 =>
                  bif y5 then
                    (impl_isSpan x0).bind fun y6 =>
                      bif y6 then
                        (impl_InRange (Head_Count x0) (0 : Int) (12 : Int)).bind fun y7 =>
                          bif y7 then
                            (impl_IsKeys (Head_Keys x0)).bind fun y8 =>
                              bif y8 then
                                (impl_isMaybe (Head_Heirs x0)).bind fun y9 =>
                                  bif y9 then
                                    (impl_isMaybe (Head_Judge x0)).bind fun y10 =>
                                      bif y10 then
                                        (impl_isWait (Head_Wait x0) (Head_Heirs x0)).bind fun y11 =>
                                          bif y11 then
                                            bif (Head_Frozen x0) then
                                              (impl_NoKeys (Head_Judge x0)).bind fun y12 =>
                                                some (!y12)
                                            else some true
                                          else some false
                                      else some false
                                  else some false
                              else some false
                          else some false
                      else some false
                  else some false
              else some false
          else some false
      else some false
  else some false
noncomputable def slices_Clone_int (x0 : List Int) : Option (List Int) :=
  bif x0.isEmpty then
  V.both (some [])
    (bif decide (([] : List Int).length + x0.length < 68719476736) then
      some ([] ++ x0)
    else none)
else
  bif decide (([] : List Int).length + x0.length < 68719476736) then
    some ([] ++ x0)
  else none
noncomputable def impl_copyKeys (x0 : TKeys) : Option TKeys :=
  (slices_Clone_int x0.1).bind fun y1 =>
  some (y1, x0.2)
noncomputable def impl_copyHead (x0 : THead) : Option THead :=
  (impl_copyKeys (Head_Keys x0)).bind fun y1 =>
  (impl_copyKeys (Head_Heirs x0)).bind fun y2 =>
    (impl_copyKeys (Head_Judge x0)).bind fun y3 =>
      some (Head_mk (Head_Zone x0) (Head_Epoch x0) (Head_Kind x0) (Head_Time x0) (Head_Until x0) (Head_Count x0) (Head_Root x0) (Head_Prev x0) y1 y2 (Head_Wait x0) y3 (Head_Frozen x0))
noncomputable abbrev impl_until.g7 (x0 : Int) (x1 : Int) : Option Int :=
  some (IntKind.i64.wrap (x0 + x1))
noncomputable def impl_until.l7 (x0 : Int) (x1 : Int) : Option Int :=
  impl_until.g7 x0 x1
noncomputable abbrev impl_until.b (x0 : Int) (x1 : Int) (L7 : Option Int) : Option Int :=
  (impl_InRange x0 (0 : Int) (100000 : Int)).bind fun y1 =>
  bif !y1 then
    some (100001 : Int)
  else
    (impl_InRange x1 (0 : Int) (200 : Int)).bind fun y2 =>
      bif !y2 then
        some (100001 : Int)
      else L7
noncomputable def impl_until (x0 : Int) (x1 : Int) : Option Int :=
  impl_until.b x0 x1 (impl_until.l7 x0 x1)
noncomputable def impl_KeysInts (x0 : TKeys) : Option (List Int) :=
  bif decide ([x0.2, (x0.1.length : Int)].length + x0.1.length < 68719476736) then
  some ([x0.2, (x0.1.length : Int)] ++ x0.1)
else none
noncomputable def impl_bit (x0 : Bool) : Option Int :=
  bif x0 then
  some (1 : Int)
else some (0 : Int)
noncomputable abbrev slices_Grow_int.g7 (x1 : Int) : Option (List Int) :=
  bif decide ((IntKind.i64.wrap (x1 - (IntKind.i64.wrap ((0 : Int) - ((0 : Nat) : Int))))) > (0 : Int)) then
  bif decide (0 ≤ (IntKind.i64.wrap (x1 - (IntKind.i64.wrap ((0 : Int) - ((0 : Nat) : Int)))))) then
    bif decide ((IntKind.i64.wrap (x1 - (IntKind.i64.wrap ((0 : Int) - ((0 : Nat) : Int))))) < (68719476736 : Int)) then
      bif decide (0 ≤ (0 : Int)) then
        bif decide ((0 : Int) ≤ ((0 : Nat) : Int)) then
          bif decide (((0 : Nat) : Int) ≤ (((List.replicate ((IntKind.i64.wrap (x1 - (IntKind.i64.wrap ((0 : Int) - ((0 : Nat) : Int))))).toNat) (0 : Int)).length) : Int)) then
            some ((List.replicate ((IntKind.i64.wrap (x1 - (IntKind.i64.wrap ((0 : Int) - ((0 : Nat) : Int))))).toNat) (0 : Int)).take (((0 : Nat) : Int).toNat))
          else none
        else none
      else none
    else none
  else none
else some []
noncomputable def slices_Grow_int.l7 (x1 : Int) : Option (List Int) :=
  slices_Grow_int.g7 x1
noncomputable abbrev slices_Grow_int.b (x0 : List Int) (x1 : Int) (L7 : Option (List Int)) : Option (List Int) :=
  bif decide (x1 < (0 : Int)) then
  none
else L7
noncomputable def slices_Grow_int (x0 : List Int) (x1 : Int) : Option (List Int) :=
  slices_Grow_int.b x0 x1 (slices_Grow_int.l7 x1)
noncomputable abbrev slices_Concat_int.g22 (x0 : List (List Int)) (r22 : Int → Int → (List Int) → Option (List Int)) (v22_1 : Int) (v22_2 : Int) (v22_3 : List Int) : Option (List Int) :=
  bif decide (v22_2 < v22_1) then
  bif decide (0 ≤ v22_2) then
    bif decide (v22_2 < (x0.length : Int)) then
      bif decide (v22_3.length + (x0.getD v22_2.toNat []).length < 68719476736) then
        r22 v22_1 (IntKind.i64.wrap (v22_2 + (1 : Int))) (v22_3 ++ (x0.getD v22_2.toNat []))
      else none
    else none
  else none
else some v22_3
noncomputable def slices_Concat_int.l22 (x0 : List (List Int)) (n : Nat) : Int → Int → (List Int) → Option (List Int) :=
  V.iter (fun (r22 : Int → Int → (List Int) → Option (List Int)) => fun v22_1 v22_2 v22_3 => slices_Concat_int.g22 x0 r22 v22_1 v22_2 v22_3) (fun _ _ _ => none) n
theorem slices_Concat_int.u22 (x0 : List (List Int)) (n : Nat) (v22_1 : Int) (v22_2 : Int) (v22_3 : List Int) : slices_Concat_int.l22 x0 (n + 1) v22_1 v22_2 v22_3 = slices_Concat_int.g22 x0 (slices_Concat_int.l22 x0 n) v22_1 v22_2 v22_3 := rfl
noncomputable abbrev slices_Concat_int.g6 (x0 : List (List Int)) (r6 : Int → Int → Int → Option (List Int)) (L22 : Int → Int → (List Int) → Option (List Int)) (v6_1 : Int) (v6_3 : Int) (v6_4 : Int) : Option (List Int) :=
  bif decide (v6_4 < v6_3) then
  bif decide (0 ≤ v6_4) then
    bif decide (v6_4 < (x0.length : Int)) then
      bif decide ((IntKind.i64.wrap (v6_1 + ((x0.getD v6_4.toNat []).length : Int))) < (0 : Int)) then
        none
      else r6 (IntKind.i64.wrap (v6_1 + ((x0.getD v6_4.toNat []).length : Int))) v6_3 (IntKind.i64.wrap (v6_4 + (1 : Int)))
    else none
  else none
else
  (slices_Grow_int [] v6_1).bind fun y1 =>
    L22 (x0.length : Int) (0 : Int) y1
noncomputable def slices_Concat_int.l6 (x0 : List (List Int)) (n : Nat) : Int → Int → Int → Option (List Int) :=
  V.iter (fun (r6 : Int → Int → Int → Option (List Int)) => fun v6_1 v6_3 v6_4 => slices_Concat_int.g6 x0 r6 (slices_Concat_int.l22 x0 V.KK) v6_1 v6_3 v6_4) (fun _ _ _ => none) n
theorem slices_Concat_int.u6 (x0 : List (List Int)) (n : Nat) (v6_1 : Int) (v6_3 : Int) (v6_4 : Int) : slices_Concat_int.l6 x0 (n + 1) v6_1 v6_3 v6_4 = slices_Concat_int.g6 x0 (slices_Concat_int.l6 x0 n) (slices_Concat_int.l22 x0 V.KK) v6_1 v6_3 v6_4 := rfl
noncomputable abbrev slices_Concat_int.b (x0 : List (List Int)) (L6 : Int → Int → Int → Option (List Int)) : Option (List Int) :=
  L6 (0 : Int) (x0.length : Int) (0 : Int)
noncomputable def slices_Concat_int (x0 : List (List Int)) : Option (List Int) :=
  slices_Concat_int.b x0 (slices_Concat_int.l6 x0 V.KK)
noncomputable def impl_HeadInts (x0 : THead) : Option (List Int) :=
  (impl_KeysInts (Head_Keys x0)).bind fun y1 =>
  (impl_KeysInts (Head_Heirs x0)).bind fun y2 =>
    (impl_KeysInts (Head_Judge x0)).bind fun y3 =>
      (impl_bit (Head_Frozen x0)).bind fun y4 =>
        (slices_Concat_int [[(Head_Zone x0), (Head_Epoch x0), (Head_Kind x0), (Head_Time x0), (Head_Until x0), (Head_Count x0), (Head_Root x0), (Head_Prev x0)], y1, y2, [(Head_Wait x0)], y3, [y4]]).bind fun y5 =>
          some y5
noncomputable def impl_Mod (x0 : Int) (x1 : Int) : Option Int :=
  (impl_InRange x1 (1 : Int) (1000000000000 : Int)).bind fun y1 =>
  bif !y1 then
    some (0 : Int)
  else
    bif (x1 == (0 : Int)) then
      none
    else
      bif (x1 == (0 : Int)) then
        none
      else some (Int.tmod (IntKind.i64.wrap ((Int.tmod x0 x1) + x1)) x1)
noncomputable abbrev impl_Hash.g6 (x0 : List Int) (r6 : Int → Int → Int → Option Int) (v6_0 : Int) (v6_2 : Int) (v6_3 : Int) : Option Int :=
  bif decide (v6_3 < v6_2) then
  bif decide (0 ≤ v6_3) then
    bif decide (v6_3 < (x0.length : Int)) then
      (impl_Mod (x0.getD v6_3.toNat (0 : Int)) (2147483647 : Int)).bind fun y1 =>
        bif ((2147483647 : Int) == (0 : Int)) then
          none
        else r6 (Int.tmod (IntKind.i64.wrap ((IntKind.i64.wrap ((IntKind.i64.wrap (v6_0 * (1000003 : Int))) + y1)) + (13 : Int))) (2147483647 : Int)) v6_2 (IntKind.i64.wrap (v6_3 + (1 : Int)))
    else none
  else none
else some v6_0
noncomputable def impl_Hash.l6 (x0 : List Int) (n : Nat) : Int → Int → Int → Option Int :=
  V.iter (fun (r6 : Int → Int → Int → Option Int) => fun v6_0 v6_2 v6_3 => impl_Hash.g6 x0 r6 v6_0 v6_2 v6_3) (fun _ _ _ => none) n
theorem impl_Hash.u6 (x0 : List Int) (n : Nat) (v6_0 : Int) (v6_2 : Int) (v6_3 : Int) : impl_Hash.l6 x0 (n + 1) v6_0 v6_2 v6_3 = impl_Hash.g6 x0 (impl_Hash.l6 x0 n) v6_0 v6_2 v6_3 := rfl
noncomputable abbrev impl_Hash.b (x0 : List Int) (L6 : Int → Int → Int → Option Int) : Option Int :=
  L6 (11 : Int) (x0.length : Int) (0 : Int)
noncomputable def impl_Hash (x0 : List Int) : Option Int :=
  impl_Hash.b x0 (impl_Hash.l6 x0 V.KK)
noncomputable def impl_HeadDigest (x0 : THead) : Option Int :=
  (impl_HeadInts x0).bind fun y1 =>
  bif decide ([(233 : Int)].length + y1.length < 68719476736) then
    (impl_Hash ([(233 : Int)] ++ y1)).bind fun y2 =>
      some y2
  else none
noncomputable def impl_NameHead_1 (x0 : (THead)) (x1 : (TKeys)) (x2 : Int) (x3 : (TKeys)) : Option ((THead)) :=
  (impl_copyKeys x1).bind fun y1 =>
  (impl_copyKeys x3).bind fun y2 =>
    V.both (some (Head_mk (Head_Zone x0) (Head_Epoch x0) (Head_Kind x0) (Head_Time x0) (Head_Until x0) (Head_Count x0) (Head_Root x0) (Head_Prev x0) (Head_Keys x0) y1 x2 y2 (Head_Frozen x0)))
      (V.both (some (Head_mk (Head_Zone x0) (Head_Epoch x0) (Head_Kind x0) (Head_Time x0) (Head_Until x0) (Head_Count x0) (Head_Root x0) (Head_Prev x0) (Head_Keys x0) y1 x2 y2 (Head_Frozen x0)))
        (some (Head_mk (Head_Zone x0) (Head_Epoch x0) (Head_Kind x0) (Head_Time x0) (Head_Until x0) (Head_Count x0) (Head_Root x0) (Head_Prev x0) (Head_Keys x0) y1 x2 y2 (Head_Frozen x0))))
noncomputable abbrev impl_nextWith__NameHead_1.g17 (y6 : (THead)) (v17_0 : Bool) : Option TRHeadBool :=
  bif v17_0 then
  some dRHeadBool
else some (RHeadBool_mk y6 true)
noncomputable def impl_nextWith__NameHead_1.l17 (y6 : (THead)) (v17_0 : Bool) : Option TRHeadBool :=
  impl_nextWith__NameHead_1.g17 y6 v17_0
noncomputable abbrev impl_nextWith__NameHead_1.g5 (x0 : THead) (x1 : Int) (x2 : Int) (x3 : Int) (x4 : (Unit) × ((TKeys) × Int × (TKeys))) (L17 : ((THead)) → Bool → Option TRHeadBool) (v5_4 : Bool) : Option TRHeadBool :=
  bif v5_4 then
  some dRHeadBool
else
  (impl_copyHead x0).bind fun y2 =>
    (impl_until x2 x3).bind fun y3 =>
      (impl_HeadDigest x0).bind fun y4 =>
        (impl_copyHead (Head_mk (Head_Zone y2) (IntKind.i64.wrap ((Head_Epoch x0) + (1 : Int))) x1 x2 y3 (Head_Count y2) (Head_Root y2) y4 (Head_Keys y2) (Head_Heirs y2) (Head_Wait y2) (Head_Judge y2) (Head_Frozen y2))).bind fun y5 =>
          (impl_NameHead_1 (Head_mk (Head_Zone y2) (IntKind.i64.wrap ((Head_Epoch x0) + (1 : Int))) x1 x2 y3 (Head_Count y2) (Head_Root y2) y4 (Head_Keys y2) (Head_Heirs y2) (Head_Wait y2) (Head_Judge y2) (Head_Frozen y2)) x4.2.1 x4.2.2.1 x4.2.2.2).bind fun y6 =>
            (impl_IsHead y5).bind fun y7 =>
              bif !y7 then
                L17 y6 true
              else
                (impl_IsHead y6).bind fun y8 =>
                  L17 y6 (!y8)
noncomputable def impl_nextWith__NameHead_1.l5 (x0 : THead) (x1 : Int) (x2 : Int) (x3 : Int) (x4 : (Unit) × ((TKeys) × Int × (TKeys))) (v5_4 : Bool) : Option TRHeadBool :=
  impl_nextWith__NameHead_1.g5 x0 x1 x2 x3 x4 (fun y6 => impl_nextWith__NameHead_1.l17 y6) v5_4
noncomputable abbrev impl_nextWith__NameHead_1.b (x0 : THead) (x1 : Int) (x2 : Int) (x3 : Int) (x4 : (Unit) × ((TKeys) × Int × (TKeys))) (L5 : Bool → Option TRHeadBool) : Option TRHeadBool :=
  (impl_IsHead x0).bind fun y1 =>
  bif !y1 then
    L5 true
  else
    (impl_InRange x3 (0 : Int) (200 : Int)).bind fun y9 =>
      bif !y9 then
        L5 true
      else L5 (decide (x2 < (Head_Time x0)))
noncomputable def impl_nextWith__NameHead_1 (x0 : THead) (x1 : Int) (x2 : Int) (x3 : Int) (x4 : (Unit) × ((TKeys) × Int × (TKeys))) : Option TRHeadBool :=
  impl_nextWith__NameHead_1.b x0 x1 x2 x3 x4 (impl_nextWith__NameHead_1.l5 x0 x1 x2 x3 x4)
noncomputable def impl_NameHead (x0 : THead) (x1 : TKeys) (x2 : Int) (x3 : TKeys) (x4 : Int) (x5 : Int) : Option TRHeadBool :=
  (impl_nextWith__NameHead_1 x0 (1 : Int) x4 x5 ((), (x1, x2, x3))).bind fun y1 =>
  some y1
noncomputable abbrev laws_eqIntS.g8 (x0 : List Int) (x1 : List Int) (r8 : Int → Option Bool) (v8_2 : Int) : Option Bool :=
  bif decide (v8_2 < (x0.length : Int)) then
  bif decide (0 ≤ v8_2) then
    bif decide (v8_2 < (x0.length : Int)) then
      bif decide (0 ≤ v8_2) then
        bif decide (v8_2 < (x1.length : Int)) then
          bif (x0.getD v8_2.toNat (0 : Int)) != (x1.getD v8_2.toNat (0 : Int)) then
            some false
          else r8 (IntKind.i64.wrap (v8_2 + (1 : Int)))
        else none
      else none
    else none
  else none
else some true
noncomputable def laws_eqIntS.l8 (x0 : List Int) (x1 : List Int) (n : Nat) : Int → Option Bool :=
  V.iter (fun (r8 : Int → Option Bool) => fun v8_2 => laws_eqIntS.g8 x0 x1 r8 v8_2) (fun _ => none) n
theorem laws_eqIntS.u8 (x0 : List Int) (x1 : List Int) (n : Nat) (v8_2 : Int) : laws_eqIntS.l8 x0 x1 (n + 1) v8_2 = laws_eqIntS.g8 x0 x1 (laws_eqIntS.l8 x0 x1 n) v8_2 := rfl
noncomputable abbrev laws_eqIntS.b (x0 : List Int) (x1 : List Int) (L8 : Int → Option Bool) : Option Bool :=
  bif (x0.length : Int) != (x1.length : Int) then
  some false
else L8 (0 : Int)
noncomputable def laws_eqIntS (x0 : List Int) (x1 : List Int) : Option Bool :=
  laws_eqIntS.b x0 x1 (laws_eqIntS.l8 x0 x1 V.KK)
noncomputable def laws_eqKeys (x0 : TKeys) (x1 : TKeys) : Option Bool :=
  (laws_eqIntS x0.1 x1.1).bind fun y1 =>
  bif !y1 then
    some false
  else
    bif x0.2 != x1.2 then
      some false
    else some true
noncomputable def laws_eqHead (x0 : THead) (x1 : THead) : Option Bool :=
  bif (Head_Zone x0) != (Head_Zone x1) then
  some false
else
  bif (Head_Epoch x0) != (Head_Epoch x1) then
    some false
  else
    bif (Head_Kind x0) != (Head_Kind x1) then
      some false
    else
      bif (Head_Time x0) != (Head_Time x1) then
        some false
      else
        bif (Head_Until x0) != (Head_Until x1) then
          some false
        else
          bif (Head_Count x0) != (Head_Count x1) then
            some false
          else
            bif (Head_Root x0) != (Head_Root x1) then
              some false
            else
              bif (Head_Prev x0) != (Head_Prev x1) then
                some false
              else
                (laws_eqKeys (Head_Keys x0) (Head_Keys x1)).bind fun y1 =>
                  bif !y1 then
                    some false
                  else
                    (laws_eqKeys (Head_Heirs x0) (Head_Heirs x1)).bind fun y2 =>
                      bif !y2 then
                        some false
                      else
                        bif (Head_Wait x0) != (Head_Wait x1) then
                          some false
                        else
                          (laws_eqKeys (Head_Judge x0) (Head_Judge x1)).bind fun y3 =>
                            bif !y3 then
                              some false
                            else
                              bif !((Head_Frozen x0) == (Head_Frozen x1)) then
                                some false
                              else some true
noncomputable abbrev laws_markIntS.g4 (r4 : Int → Int → (List Int) → Option TKeys) (v4_0 : Int) (v4_1 : Int) (v4_2 : List Int) : Option TKeys :=
  bif decide (v4_1 < (v4_2.length : Int)) then
  bif decide (0 ≤ v4_1) then
    bif decide (v4_1 < (v4_2.length : Int)) then
      r4 (IntKind.i64.wrap (v4_0 + (1 : Int))) (IntKind.i64.wrap (v4_1 + (1 : Int))) (v4_2.set v4_1.toNat v4_0)
    else none
  else none
else some (v4_2, v4_0)
noncomputable def laws_markIntS.l4 (n : Nat) : Int → Int → (List Int) → Option TKeys :=
  V.iter (fun (r4 : Int → Int → (List Int) → Option TKeys) => fun v4_0 v4_1 v4_2 => laws_markIntS.g4 r4 v4_0 v4_1 v4_2) (fun _ _ _ => none) n
theorem laws_markIntS.u4 (n : Nat) (v4_0 : Int) (v4_1 : Int) (v4_2 : List Int) : laws_markIntS.l4 (n + 1) v4_0 v4_1 v4_2 = laws_markIntS.g4 (laws_markIntS.l4 n) v4_0 v4_1 v4_2 := rfl
noncomputable abbrev laws_markIntS.b (x0 : List Int) (x1 : Int) (L4 : Int → Int → (List Int) → Option TKeys) : Option TKeys :=
  L4 x1 (0 : Int) x0
noncomputable def laws_markIntS (x0 : List Int) (x1 : Int) : Option TKeys :=
  laws_markIntS.b x0 x1 (laws_markIntS.l4 V.KK)
noncomputable def laws_markKeys (x0 : TKeys) (x1 : Int) : Option TKeys :=
  (laws_markIntS x0.1 x1).bind fun y1 =>
  some y1
noncomputable def laws_markHead (x0 : THead) (x1 : Int) : Option (List Int × List Int × List Int × Int) :=
  (laws_markKeys (Head_Keys x0) x1).bind fun y1 =>
  (laws_markKeys (Head_Heirs x0) y1.2).bind fun y2 =>
    (laws_markKeys (Head_Judge x0) y2.2).bind fun y3 =>
      some (y1.1, y2.1, y3.1, y3.2)
noncomputable abbrev laws_heldIntS.g4 (x0 : List Int) (r4 : Int → Int → Option Int) (v4_1 : Int) (v4_2 : Int) : Option Int :=
  bif decide (v4_2 < (x0.length : Int)) then
  bif decide (0 ≤ v4_2) then
    bif decide (v4_2 < (x0.length : Int)) then
      bif (x0.getD v4_2.toNat (0 : Int)) != v4_1 then
        some (-1 : Int)
      else r4 (IntKind.i64.wrap (v4_1 + (1 : Int))) (IntKind.i64.wrap (v4_2 + (1 : Int)))
    else none
  else none
else some v4_1
noncomputable def laws_heldIntS.l4 (x0 : List Int) (n : Nat) : Int → Int → Option Int :=
  V.iter (fun (r4 : Int → Int → Option Int) => fun v4_1 v4_2 => laws_heldIntS.g4 x0 r4 v4_1 v4_2) (fun _ _ => none) n
theorem laws_heldIntS.u4 (x0 : List Int) (n : Nat) (v4_1 : Int) (v4_2 : Int) : laws_heldIntS.l4 x0 (n + 1) v4_1 v4_2 = laws_heldIntS.g4 x0 (laws_heldIntS.l4 x0 n) v4_1 v4_2 := rfl
noncomputable abbrev laws_heldIntS.b (x0 : List Int) (x1 : Int) (L4 : Int → Int → Option Int) : Option Int :=
  L4 x1 (0 : Int)
noncomputable def laws_heldIntS (x0 : List Int) (x1 : Int) : Option Int :=
  laws_heldIntS.b x0 x1 (laws_heldIntS.l4 x0 V.KK)
noncomputable def laws_heldKeys (x0 : TKeys) (x1 : Int) : Option Int :=
  (laws_heldIntS x0.1 x1).bind fun y1 =>
  bif decide (y1 < (0 : Int)) then
    some (-1 : Int)
  else some y1
noncomputable def laws_heldHead (x0 : THead) (x1 : Int) : Option Int :=
  (laws_heldKeys (Head_Keys x0) x1).bind fun y1 =>
  bif decide (y1 < (0 : Int)) then
    some (-1 : Int)
  else
    (laws_heldKeys (Head_Heirs x0) y1).bind fun y2 =>
      bif decide (y2 < (0 : Int)) then
        some (-1 : Int)
      else
        (laws_heldKeys (Head_Judge x0) y2).bind fun y3 =>
          bif decide (y3 < (0 : Int)) then
            some (-1 : Int)
          else some y3
noncomputable abbrev laws_FnExactNameHead.g83 (y11 : TRHeadBool) (y23 : List Int × List Int × List Int × Int) : Option Bool :=
  (laws_heldHead (Head_mk (Head_Zone (RHeadBool_r0 y11)) (Head_Epoch (RHeadBool_r0 y11)) (Head_Kind (RHeadBool_r0 y11)) (Head_Time (RHeadBool_r0 y11)) (Head_Until (RHeadBool_r0 y11)) (Head_Count (RHeadBool_r0 y11)) (Head_Root (RHeadBool_r0 y11)) (Head_Prev (RHeadBool_r0 y11)) (y23.1, (Head_Keys (RHeadBool_r0 y11)).2) (y23.2.1, (Head_Heirs (RHeadBool_r0 y11)).2) (Head_Wait (RHeadBool_r0 y11)) (y23.2.2.1, (Head_Judge (RHeadBool_r0 y11)).2) (Head_Frozen (RHeadBool_r0 y11))) (1 : Int)).bind fun y30 =>
  bif decide (y30 < (0 : Int)) then
    some false
  else
    bif y30 != y23.2.2.2 then
      some false
    else some true
noncomputable def laws_FnExactNameHead.l83 (y11 : TRHeadBool) (y23 : List Int × List Int × List Int × Int) : Option Bool :=
  laws_FnExactNameHead.g83 y11 y23
noncomputable abbrev laws_FnExactNameHead.g61 (x0 : THead) (x1 : TKeys) (x2 : Int) (x3 : TKeys) (x4 : Int) (x5 : Int) (y7 : TRHeadBool) (y11 : TRHeadBool) (L83 : TRHeadBool → (List Int × List Int × List Int × Int) → Option Bool) : Option Bool :=
  (laws_markHead (RHeadBool_r0 y11) (1 : Int)).bind fun y23 =>
  (laws_heldHead (Head_mk (Head_Zone (RHeadBool_r0 y11)) (Head_Epoch (RHeadBool_r0 y11)) (Head_Kind (RHeadBool_r0 y11)) (Head_Time (RHeadBool_r0 y11)) (Head_Until (RHeadBool_r0 y11)) (Head_Count (RHeadBool_r0 y11)) (Head_Root (RHeadBool_r0 y11)) (Head_Prev (RHeadBool_r0 y11)) (y23.1, (Head_Keys (RHeadBool_r0 y11)).2) (y23.2.1, (Head_Heirs (RHeadBool_r0 y11)).2) (Head_Wait (RHeadBool_r0 y11)) (y23.2.2.1, (Head_Judge (RHeadBool_r0 y11)).2) (Head_Frozen (RHeadBool_r0 y11))) (1 : Int)).bind fun y24 =>
    bif decide (y24 < (0 : Int)) then
      some false
    else
      bif y24 != y23.2.2.2 then
        some false
      else
        (laws_toHead x0).bind fun y25 =>
          (laws_toKeys x1).bind fun y26 =>
            (laws_toKeys x3).bind fun y27 =>
              (impl_NameHead y25 y26 x2 y27 x4 x5).bind fun y28 =>
                (laws_eqHead (RHeadBool_r0 y28) (RHeadBool_r0 y7)).bind fun y29 =>
                  bif !y29 then
                    some false
                  else
                    bif !((RHeadBool_r1 y28) == (RHeadBool_r1 y7)) then
                      some false
                    else L83 y11 y23
noncomputable def laws_FnExactNameHead.l61 (x0 : THead) (x1 : TKeys) (x2 : Int) (x3 : TKeys) (x4 : Int) (x5 : Int) (y7 : TRHeadBool) (y11 : TRHeadBool) : Option Bool :=
  laws_FnExactNameHead.g61 x0 x1 x2 x3 x4 x5 y7 y11 (fun y11 y23 => laws_FnExactNameHead.l83 y11 y23)
noncomputable abbrev laws_FnExactNameHead.g37 (x0 : THead) (x1 : TKeys) (x2 : Int) (x3 : TKeys) (x4 : Int) (x5 : Int) (y7 : TRHeadBool) (y8 : THead) (y9 : TKeys) (y10 : TKeys) (y11 : TRHeadBool) (L61 : TRHeadBool → TRHeadBool → Option Bool) : Option Bool :=
  (laws_toHead x0).bind fun y13 =>
  (laws_eqHead y8 y13).bind fun y14 =>
    bif !y14 then
      some false
    else
      (laws_toKeys x1).bind fun y15 =>
        (laws_eqKeys y9 y15).bind fun y16 =>
          bif !y16 then
            some false
          else
            (laws_toKeys x3).bind fun y17 =>
              (laws_eqKeys y10 y17).bind fun y18 =>
                bif !y18 then
                  some false
                else
                  (laws_markHead y8 (1 : Int)).bind fun y19 =>
                    (laws_markKeys y9 y19.2.2.2).bind fun y20 =>
                      (laws_markKeys y10 y20.2).bind fun y21 =>
                        bif decide (y21.2 < (0 : Int)) then
                          some false
                        else
                          (laws_eqHead (RHeadBool_r0 y11) (RHeadBool_r0 y7)).bind fun y22 =>
                            bif !y22 then
                              some false
                            else
                              bif !((RHeadBool_r1 y11) == (RHeadBool_r1 y7)) then
                                some false
                              else L61 y7 y11
noncomputable def laws_FnExactNameHead.l37 (x0 : THead) (x1 : TKeys) (x2 : Int) (x3 : TKeys) (x4 : Int) (x5 : Int) (y7 : TRHeadBool) (y8 : THead) (y9 : TKeys) (y10 : TKeys) (y11 : TRHeadBool) : Option Bool :=
  laws_FnExactNameHead.g37 x0 x1 x2 x3 x4 x5 y7 y8 y9 y10 y11 (fun y7 y11 => laws_FnExactNameHead.l61 x0 x1 x2 x3 x4 x5 y7 y11)
noncomputable abbrev laws_FnExactNameHead.b (x0 : THead) (x1 : TKeys) (x2 : Int) (x3 : TKeys) (x4 : Int) (x5 : Int) (L37 : TRHeadBool → THead → TKeys → TKeys → TRHeadBool → Option Bool) : Option Bool :=
  (laws_szHead x0 (1048576 : Int)).bind fun y1 =>
  bif decide (y1 < (0 : Int)) then
    some true
  else
    (laws_szKeys x1 y1).bind fun y2 =>
      bif decide (y2 < (0 : Int)) then
        some true
      else
        (laws_szKeys x3 y2).bind fun y3 =>
          bif decide (y3 < (0 : Int)) then
            some true
          else
            (laws_toHead x0).bind fun y4 =>
              (laws_toKeys x1).bind fun y5 =>
                (laws_toKeys x3).bind fun y6 =>
                  (spec_NameHead y4 y5 x2 y6 x4 x5).bind fun y7 =>
                    (laws_toHead x0).bind fun y8 =>
                      (laws_toKeys x1).bind fun y9 =>
                        (laws_toKeys x3).bind fun y10 =>
                          (impl_NameHead y8 y9 x2 y10 x4 x5).bind fun y11 =>
                            (laws_eqHead (RHeadBool_r0 y11) (RHeadBool_r0 y7)).bind fun y12 =>
                              bif !y12 then
                                some false
                              else
                                bif !((RHeadBool_r1 y11) == (RHeadBool_r1 y7)) then
                                  some false
                                else L37 y7 y8 y9 y10 y11
noncomputable def laws_FnExactNameHead (x0 : THead) (x1 : TKeys) (x2 : Int) (x3 : TKeys) (x4 : Int) (x5 : Int) : Option Bool :=
  laws_FnExactNameHead.b x0 x1 x2 x3 x4 x5 (fun y7 y8 y9 y10 y11 => laws_FnExactNameHead.l37 x0 x1 x2 x3 x4 x5 y7 y8 y9 y10 y11)
end Go.Proofs.Ytbdifkeoiodalaa
