/- What the functions compute: printed from their code by the evaluator. -/
import Derived.Test.YtdfchkmfamnocaaVE
namespace Go.Proofs.Ytdfchkmfamnocaa
set_option linter.unusedVariables false
abbrev TKeys : Type := List Int × Int
abbrev dKeys : TKeys := ([], (0 : Int))
abbrev THead : Type := Int × Int × Int × Int × Int × Int × Int × Int × List Int × Int × List Int × Int × Int × List Int × Int × Bool
abbrev dHead : THead := ((0 : Int), (0 : Int), (0 : Int), (0 : Int), (0 : Int), (0 : Int), (0 : Int), (0 : Int), [], (0 : Int), [], (0 : Int), (0 : Int), [], (0 : Int), false)
abbrev TSig : Type := Int × Int
abbrev dSig : TSig := ((0 : Int), (0 : Int))
abbrev TSigned : Type := Int × Int × Int × Int × Int × Int × Int × Int × List Int × Int × List Int × Int × Int × List Int × Int × Bool × List TSig
abbrev dSigned : TSigned := ((0 : Int), (0 : Int), (0 : Int), (0 : Int), (0 : Int), (0 : Int), (0 : Int), (0 : Int), [], (0 : Int), [], (0 : Int), (0 : Int), [], (0 : Int), false, [])
noncomputable def laws_szIntS (x0 : List Int) (x1 : Int) : Option Int :=
  bif decide ((IntKind.i64.wrap (x1 - (x0.length : Int))) < (0 : Int)) then
  some (-1 : Int)
else some (IntKind.i64.wrap (x1 - (x0.length : Int)))
noncomputable def laws_szKeys (x0 : TKeys) (x1 : Int) : Option Int :=
  (laws_szIntS x0.1 x1).bind fun y1 =>
  bif decide (y1 < (0 : Int)) then
    some (-1 : Int)
  else some y1
noncomputable def laws_szHead (x0 : THead) (x1 : Int) : Option Int :=
  (laws_szKeys (x0.2.2.2.2.2.2.2.2.1, x0.2.2.2.2.2.2.2.2.2.1) x1).bind fun y1 =>
  bif decide (y1 < (0 : Int)) then
    some (-1 : Int)
  else
    (laws_szKeys (x0.2.2.2.2.2.2.2.2.2.2.1, x0.2.2.2.2.2.2.2.2.2.2.2.1) y1).bind fun y2 =>
      bif decide (y2 < (0 : Int)) then
        some (-1 : Int)
      else
        (laws_szKeys (x0.2.2.2.2.2.2.2.2.2.2.2.2.2.1, x0.2.2.2.2.2.2.2.2.2.2.2.2.2.2.1) y2).bind fun y3 =>
          bif decide (y3 < (0 : Int)) then
            some (-1 : Int)
          else some y3
noncomputable abbrev laws_toIntS.g6 (x0 : List Int) (r6 : Int → (List Int) → Option (List Int)) (v6_1 : Int) (v6_2 : List Int) : Option (List Int) :=
  bif decide (v6_1 < (x0.length : Int)) then
  bif decide (0 ≤ v6_1) then
    bif decide (v6_1 < (x0.length : Int)) then
      bif decide (0 ≤ v6_1) then
        bif decide (v6_1 < (v6_2.length : Int)) then
          r6 (IntKind.i64.wrap (v6_1 + (1 : Int))) (v6_2.set v6_1.toNat (x0.getD v6_1.toNat (0 : Int)))
        else none
      else none
    else none
  else none
else some v6_2
noncomputable def laws_toIntS.l6 (x0 : List Int) (n : Nat) : Int → (List Int) → Option (List Int) :=
  V.iter (fun (r6 : Int → (List Int) → Option (List Int)) => fun v6_1 v6_2 => laws_toIntS.g6 x0 r6 v6_1 v6_2) (fun _ _ => none) n
theorem laws_toIntS.u6 (x0 : List Int) (n : Nat) (v6_1 : Int) (v6_2 : List Int) : laws_toIntS.l6 x0 (n + 1) v6_1 v6_2 = laws_toIntS.g6 x0 (laws_toIntS.l6 x0 n) v6_1 v6_2 := rfl
noncomputable abbrev laws_toIntS.b (x0 : List Int) (L6 : Int → (List Int) → Option (List Int)) : Option (List Int) :=
  bif ((x0.length : Int) == (x0.length : Int)) then
  bif decide (0 ≤ (x0.length : Int)) then
    bif decide ((x0.length : Int) < (68719476736 : Int)) then
      L6 (0 : Int) (List.replicate ((x0.length : Int).toNat) (0 : Int))
    else none
  else none
else none
noncomputable def laws_toIntS (x0 : List Int) : Option (List Int) :=
  laws_toIntS.b x0 (laws_toIntS.l6 x0 V.KK)
noncomputable def laws_toKeys (x0 : TKeys) : Option TKeys :=
  (laws_toIntS x0.1).bind fun y1 =>
  some (y1, x0.2)
noncomputable def laws_toHead (x0 : THead) : Option THead :=
  (laws_toKeys (x0.2.2.2.2.2.2.2.2.1, x0.2.2.2.2.2.2.2.2.2.1)).bind fun y1 =>
  (laws_toKeys (x0.2.2.2.2.2.2.2.2.2.2.1, x0.2.2.2.2.2.2.2.2.2.2.2.1)).bind fun y2 =>
    (laws_toKeys (x0.2.2.2.2.2.2.2.2.2.2.2.2.2.1, x0.2.2.2.2.2.2.2.2.2.2.2.2.2.2.1)).bind fun y3 =>
      some (x0.1, x0.2.1, x0.2.2.1, x0.2.2.2.1, x0.2.2.2.2.1, x0.2.2.2.2.2.1, x0.2.2.2.2.2.2.1, x0.2.2.2.2.2.2.2.1, y1.1, y1.2, y2.1, y2.2, x0.2.2.2.2.2.2.2.2.2.2.2.2.1, y3.1, y3.2, x0.2.2.2.2.2.2.2.2.2.2.2.2.2.2.2)
noncomputable def spec_l6Copy (x0 : TKeys) : Option TKeys :=
  bif decide (([] : List Int).length + x0.1.length < 68719476736) then
  some ([] ++ x0.1, x0.2)
else none
noncomputable def spec_l13Copy (x0 : THead) : Option THead :=
  (spec_l6Copy (x0.2.2.2.2.2.2.2.2.1, x0.2.2.2.2.2.2.2.2.2.1)).bind fun y1 =>
  (spec_l6Copy (x0.2.2.2.2.2.2.2.2.2.2.1, x0.2.2.2.2.2.2.2.2.2.2.2.1)).bind fun y2 =>
    (spec_l6Copy (x0.2.2.2.2.2.2.2.2.2.2.2.2.2.1, x0.2.2.2.2.2.2.2.2.2.2.2.2.2.2.1)).bind fun y3 =>
      some (x0.1, x0.2.1, x0.2.2.1, x0.2.2.2.1, x0.2.2.2.2.1, x0.2.2.2.2.2.1, x0.2.2.2.2.2.2.1, x0.2.2.2.2.2.2.2.1, y1.1, y1.2, y2.1, y2.2, x0.2.2.2.2.2.2.2.2.2.2.2.2.1, y3.1, y3.2, x0.2.2.2.2.2.2.2.2.2.2.2.2.2.2.2)
noncomputable def spec_KeysInts (x0 : TKeys) : Option (List Int) :=
  bif decide ([x0.2, (x0.1.length : Int)].length + x0.1.length < 68719476736) then
  some ([x0.2, (x0.1.length : Int)] ++ x0.1)
else none
noncomputable def spec_HeadInts (x0 : THead) : Option (List Int) :=
  (spec_KeysInts (x0.2.2.2.2.2.2.2.2.1, x0.2.2.2.2.2.2.2.2.2.1)).bind fun y1 =>
  bif decide ([x0.1, x0.2.1, x0.2.2.1, x0.2.2.2.1, x0.2.2.2.2.1, x0.2.2.2.2.2.1, x0.2.2.2.2.2.2.1, x0.2.2.2.2.2.2.2.1].length + y1.length < 68719476736) then
    (spec_KeysInts (x0.2.2.2.2.2.2.2.2.2.2.1, x0.2.2.2.2.2.2.2.2.2.2.2.1)).bind fun y2 =>
      bif decide (([x0.1, x0.2.1, x0.2.2.1, x0.2.2.2.1, x0.2.2.2.2.1, x0.2.2.2.2.2.1, x0.2.2.2.2.2.2.1, x0.2.2.2.2.2.2.2.1] ++ y1).length + y2.length < 68719476736) then
        bif decide ((([x0.1, x0.2.1, x0.2.2.1, x0.2.2.2.1, x0.2.2.2.2.1, x0.2.2.2.2.2.1, x0.2.2.2.2.2.2.1, x0.2.2.2.2.2.2.2.1] ++ y1) ++ y2).length + [x0.2.2.2.2.2.2.2.2.2.2.2.2.1].length < 68719476736) then
          (spec_KeysInts (x0.2.2.2.2.2.2.2.2.2.2.2.2.2.1, x0.2.2.2.2.2.2.2.2.2.2.2.2.2.2.1)).bind fun y3 =>
            bif decide (((([x0.1, x0.2.1, x0.2.2.1, x0.2.2.2.1, x0.2.2.2.2.1, x0.2.2.2.2.2.1, x0.2.2.2.2.2.2.1, x0.2.2.2.2.2.2.2.1] ++ y1) ++ y2) ++ [x0.2.2.2.2.2.2.2.2.2.2.2.2.1]).length + y3.length < 68719476736) then
              bif x0.2.2.2.2.2.2.2.2.2.2.2.2.2.2.2 then
                bif decide ((((([x0.1, x0.2.1, x0.2.2.1, x0.2.2.2.1, x0.2.2.2.2.1, x0.2.2.2.2.2.1, x0.2.2.2.2.2.2.1, x0.2.2.2.2.2.2.2.1] ++ y1) ++ y2) ++ [x0.2.2.2.2.2.2.2.2.2.2.2.2.1]) ++ y3).length + [(1 : Int)].length < 68719476736) then
                  some ((((([x0.1, x0.2.1, x0.2.2.1, x0.2.2.2.1, x0.2.2.2.2.1, x0.2.2.2.2.2.1, x0.2.2.2.2.2.2.1, x0.2.2.2.2.2.2.2.1] ++ y1) ++ y2) ++ [x0.2.2.2.2.2.2.2.2.2.2.2.2.1]) ++ y3) ++ [(1 : Int)])
                else none
              else
                bif decide ((((([x0.1, x0.2.1, x0.2.2.1, x0.2.2.2.1, x0.2.2.2.2.1, x0.2.2.2.2.2.1, x0.2.2.2.2.2.2.1, x0.2.2.2.2.2.2.2.1] ++ y1) ++ y2) ++ [x0.2.2.2.2.2.2.2.2.2.2.2.2.1]) ++ y3).length + [(0 : Int)].length < 68719476736) then
                  some ((((([x0.1, x0.2.1, x0.2.2.1, x0.2.2.2.1, x0.2.2.2.2.1, x0.2.2.2.2.2.1, x0.2.2.2.2.2.2.1, x0.2.2.2.2.2.2.2.1] ++ y1) ++ y2) ++ [x0.2.2.2.2.2.2.2.2.2.2.2.2.1]) ++ y3) ++ [(0 : Int)])
                else none
            else none
        else none
      else none
  else none
noncomputable abbrev spec_l6Has.g4 (x0 : List Int) (x1 : Int) (r4 : Int → Option Bool) (v4_2 : Int) : Option Bool :=
  bif decide (v4_2 < (x0.length : Int)) then
  bif decide (0 ≤ v4_2) then
    bif decide (v4_2 < (x0.length : Int)) then
      bif (x0.getD v4_2.toNat (0 : Int)) == x1 then
        some true
      else r4 (IntKind.i64.wrap (v4_2 + (1 : Int)))
    else none
  else none
else some false
noncomputable def spec_l6Has.l4 (x0 : List Int) (x1 : Int) (n : Nat) : Int → Option Bool :=
  V.iter (fun (r4 : Int → Option Bool) => fun v4_2 => spec_l6Has.g4 x0 x1 r4 v4_2) (fun _ => none) n
theorem spec_l6Has.u4 (x0 : List Int) (x1 : Int) (n : Nat) (v4_2 : Int) : spec_l6Has.l4 x0 x1 (n + 1) v4_2 = spec_l6Has.g4 x0 x1 (spec_l6Has.l4 x0 x1 n) v4_2 := rfl
noncomputable abbrev spec_l6Has.b (x0 : List Int) (x1 : Int) (L4 : Int → Option Bool) : Option Bool :=
  L4 (0 : Int)
noncomputable def spec_l6Has (x0 : List Int) (x1 : Int) : Option Bool :=
  spec_l6Has.b x0 x1 (spec_l6Has.l4 x0 x1 V.KK)
noncomputable def spec_l1In (x0 : Int) (x1 : Int) (x2 : Int) : Option Bool :=
  bif decide (x0 ≥ x1) then
  some (decide (x0 ≤ x2))
else some false
noncomputable def spec_Mod (x0 : Int) (x1 : Int) : Option Int :=
  (spec_l1In x1 (1 : Int) (1000000000000 : Int)).bind fun y1 =>
  bif !y1 then
    some (0 : Int)
  else
    bif (x1 == (0 : Int)) then
      none
    else
      bif (x1 == (0 : Int)) then
        none
      else some (Int.tmod (IntKind.i64.wrap ((Int.tmod x0 x1) + x1)) x1)
noncomputable abbrev spec_Hash.g6 (x0 : List Int) (r6 : Int → Int → Option Int) (v6_1 : Int) (v6_2 : Int) : Option Int :=
  bif decide (v6_2 < (x0.length : Int)) then
  bif decide (0 ≤ v6_2) then
    bif decide (v6_2 < (x0.length : Int)) then
      (spec_Mod (x0.getD v6_2.toNat (0 : Int)) (2147483647 : Int)).bind fun y1 =>
        bif ((2147483647 : Int) == (0 : Int)) then
          none
        else r6 (Int.tmod (IntKind.i64.wrap ((IntKind.i64.wrap ((IntKind.i64.wrap (v6_1 * (1000003 : Int))) + y1)) + (13 : Int))) (2147483647 : Int)) (IntKind.i64.wrap (v6_2 + (1 : Int)))
    else none
  else none
else some v6_1
noncomputable def spec_Hash.l6 (x0 : List Int) (n : Nat) : Int → Int → Option Int :=
  V.iter (fun (r6 : Int → Int → Option Int) => fun v6_1 v6_2 => spec_Hash.g6 x0 r6 v6_1 v6_2) (fun _ _ => none) n
theorem spec_Hash.u6 (x0 : List Int) (n : Nat) (v6_1 : Int) (v6_2 : Int) : spec_Hash.l6 x0 (n + 1) v6_1 v6_2 = spec_Hash.g6 x0 (spec_Hash.l6 x0 n) v6_1 v6_2 := rfl
noncomputable abbrev spec_Hash.b (x0 : List Int) (L6 : Int → Int → Option Int) : Option Int :=
  L6 (11 : Int) (0 : Int)
noncomputable def spec_Hash (x0 : List Int) : Option Int :=
  spec_Hash.b x0 (spec_Hash.l6 x0 V.KK)
noncomputable def spec_KeyedHash (x0 : Int) (x1 : List Int) : Option Int :=
  bif decide ([x0].length + x1.length < 68719476736) then
  bif decide (([x0] ++ x1).length + [x0].length < 68719476736) then
    (spec_Hash (([x0] ++ x1) ++ [x0])).bind fun y1 =>
      some y1
  else none
else none
noncomputable def spec_TagOf (x0 : Int) (x1 : List Int) : Option Int :=
  bif decide ([(223 : Int)].length + x1.length < 68719476736) then
  (spec_KeyedHash x0 ([(223 : Int)] ++ x1)).bind fun y1 =>
    some y1
else none
noncomputable abbrev spec_SignBy.g6 (x0 : List Int) (x1 : TKeys) (x2 : List Int) (r6 : Int → (List TSig) → Option (List TSig)) (v6_2 : Int) (v6_5 : List TSig) : Option (List TSig) :=
  bif decide (v6_2 < (x1.1.length : Int)) then
  bif decide (0 ≤ v6_2) then
    bif decide (v6_2 < (x1.1.length : Int)) then
      (spec_l6Has x0 (x1.1.getD v6_2.toNat (0 : Int))).bind fun y1 =>
        bif y1 then
          bif decide (0 ≤ v6_2) then
            bif decide (v6_2 < (x1.1.length : Int)) then
              bif decide (0 ≤ v6_2) then
                bif decide (v6_2 < (x1.1.length : Int)) then
                  (spec_TagOf (x1.1.getD v6_2.toNat (0 : Int)) x2).bind fun y2 =>
                    bif decide (v6_5.length + [(x1.1.getD v6_2.toNat (0 : Int), y2)].length < 68719476736) then
                      r6 (IntKind.i64.wrap (v6_2 + (1 : Int))) (v6_5 ++ [(x1.1.getD v6_2.toNat (0 : Int), y2)])
                    else none
                else none
              else none
            else none
          else none
        else r6 (IntKind.i64.wrap (v6_2 + (1 : Int))) v6_5
    else none
  else none
else some v6_5
noncomputable def spec_SignBy.l6 (x0 : List Int) (x1 : TKeys) (x2 : List Int) (n : Nat) : Int → (List TSig) → Option (List TSig) :=
  V.iter (fun (r6 : Int → (List TSig) → Option (List TSig)) => fun v6_2 v6_5 => spec_SignBy.g6 x0 x1 x2 r6 v6_2 v6_5) (fun _ _ => none) n
theorem spec_SignBy.u6 (x0 : List Int) (x1 : TKeys) (x2 : List Int) (n : Nat) (v6_2 : Int) (v6_5 : List TSig) : spec_SignBy.l6 x0 x1 x2 (n + 1) v6_2 v6_5 = spec_SignBy.g6 x0 x1 x2 (spec_SignBy.l6 x0 x1 x2 n) v6_2 v6_5 := rfl
noncomputable abbrev spec_SignBy.b (x0 : List Int) (x1 : TKeys) (x2 : List Int) (L6 : Int → (List TSig) → Option (List TSig)) : Option (List TSig) :=
  L6 (0 : Int) []
noncomputable def spec_SignBy (x0 : List Int) (x1 : TKeys) (x2 : List Int) : Option (List TSig) :=
  spec_SignBy.b x0 x1 x2 (spec_SignBy.l6 x0 x1 x2 V.KK)
noncomputable def spec_SignHead (x0 : List Int) (x1 : TKeys) (x2 : THead) : Option TSigned :=
  (spec_l13Copy x2).bind fun y1 =>
  (spec_HeadInts x2).bind fun y2 =>
    (spec_SignBy x0 x1 y2).bind fun y3 =>
      some (y1.1, y1.2.1, y1.2.2.1, y1.2.2.2.1, y1.2.2.2.2.1, y1.2.2.2.2.2.1, y1.2.2.2.2.2.2.1, y1.2.2.2.2.2.2.2.1, y1.2.2.2.2.2.2.2.2.1, y1.2.2.2.2.2.2.2.2.2.1, y1.2.2.2.2.2.2.2.2.2.2.1, y1.2.2.2.2.2.2.2.2.2.2.2.1, y1.2.2.2.2.2.2.2.2.2.2.2.2.1, y1.2.2.2.2.2.2.2.2.2.2.2.2.2.1, y1.2.2.2.2.2.2.2.2.2.2.2.2.2.2.1, y1.2.2.2.2.2.2.2.2.2.2.2.2.2.2.2, y3)
noncomputable def spec_SignNext (x0 : THead) (x1 : THead) (x2 : List Int) : Option TSigned :=
  bif x1.2.2.1 == (2 : Int) then
  (spec_SignHead x2 (x0.2.2.2.2.2.2.2.2.2.2.1, x0.2.2.2.2.2.2.2.2.2.2.2.1) x1).bind fun y1 =>
    some y1
else
  bif x1.2.2.1 == (3 : Int) then
    (spec_SignHead x2 (x0.2.2.2.2.2.2.2.2.2.2.2.2.2.1, x0.2.2.2.2.2.2.2.2.2.2.2.2.2.2.1) x1).bind fun y2 =>
      some y2
  else
    (spec_SignHead x2 (x0.2.2.2.2.2.2.2.2.1, x0.2.2.2.2.2.2.2.2.2.1) x1).bind fun y3 =>
      some y3
noncomputable def slices_Clone_int (x0 : List Int) : Option (List Int) :=
  bif x0.isEmpty then
  V.both (some [])
    (bif decide (([] : List Int).length + x0.length < 68719476736) then
      some ([] ++ x0)
    else none)
else
  bif decide (([] : List Int).length + x0.length < 68719476736) then
    some ([] ++ x0)
  else none
noncomputable def impl_copyKeys (x0 : TKeys) : Option TKeys :=
  (slices_Clone_int x0.1).bind fun y1 =>
  some (y1, x0.2)
noncomputable def impl_copyHead (x0 : THead) : Option THead :=
  (impl_copyKeys (x0.2.2.2.2.2.2.2.2.1, x0.2.2.2.2.2.2.2.2.2.1)).bind fun y1 =>
  (impl_copyKeys (x0.2.2.2.2.2.2.2.2.2.2.1, x0.2.2.2.2.2.2.2.2.2.2.2.1)).bind fun y2 =>
    (impl_copyKeys (x0.2.2.2.2.2.2.2.2.2.2.2.2.2.1, x0.2.2.2.2.2.2.2.2.2.2.2.2.2.2.1)).bind fun y3 =>
      some (x0.1, x0.2.1, x0.2.2.1, x0.2.2.2.1, x0.2.2.2.2.1, x0.2.2.2.2.2.1, x0.2.2.2.2.2.2.1, x0.2.2.2.2.2.2.2.1, y1.1, y1.2, y2.1, y2.2, x0.2.2.2.2.2.2.2.2.2.2.2.2.1, y3.1, y3.2, x0.2.2.2.2.2.2.2.2.2.2.2.2.2.2.2)
noncomputable def impl_KeysInts (x0 : TKeys) : Option (List Int) :=
  bif decide ([x0.2, (x0.1.length : Int)].length + x0.1.length < 68719476736) then
  some ([x0.2, (x0.1.length : Int)] ++ x0.1)
else none
noncomputable def impl_bit (x0 : Bool) : Option Int :=
  bif x0 then
  some (1 : Int)
else some (0 : Int)
noncomputable abbrev slices_Grow_int.g7 (x1 : Int) : Option (List Int) :=
  bif decide ((IntKind.i64.wrap (x1 - (IntKind.i64.wrap ((0 : Int) - ((0 : Nat) : Int))))) > (0 : Int)) then
  bif decide (0 ≤ (IntKind.i64.wrap (x1 - (IntKind.i64.wrap ((0 : Int) - ((0 : Nat) : Int)))))) then
    bif decide ((IntKind.i64.wrap (x1 - (IntKind.i64.wrap ((0 : Int) - ((0 : Nat) : Int))))) < (68719476736 : Int)) then
      bif decide (0 ≤ (0 : Int)) then
        bif decide ((0 : Int) ≤ ((0 : Nat) : Int)) then
          bif decide (((0 : Nat) : Int) ≤ (((List.replicate ((IntKind.i64.wrap (x1 - (IntKind.i64.wrap ((0 : Int) - ((0 : Nat) : Int))))).toNat) (0 : Int)).length) : Int)) then
            some ((List.replicate ((IntKind.i64.wrap (x1 - (IntKind.i64.wrap ((0 : Int) - ((0 : Nat) : Int))))).toNat) (0 : Int)).take (((0 : Nat) : Int).toNat))
          else none
        else none
      else none
    else none
  else none
else some []
noncomputable def slices_Grow_int.l7 (x1 : Int) : Option (List Int) :=
  slices_Grow_int.g7 x1
noncomputable abbrev slices_Grow_int.b (x0 : List Int) (x1 : Int) (L7 : Option (List Int)) : Option (List Int) :=
  bif decide (x1 < (0 : Int)) then
  none
else L7
noncomputable def slices_Grow_int (x0 : List Int) (x1 : Int) : Option (List Int) :=
  slices_Grow_int.b x0 x1 (slices_Grow_int.l7 x1)
noncomputable abbrev slices_Concat_int.g22 (x0 : List (List Int)) (r22 : Int → Int → (List Int) → Option (List Int)) (v22_1 : Int) (v22_2 : Int) (v22_3 : List Int) : Option (List Int) :=
  bif decide (v22_2 < v22_1) then
  bif decide (0 ≤ v22_2) then
    bif decide (v22_2 < (x0.length : Int)) then
      bif decide (v22_3.length + (x0.getD v22_2.toNat []).length < 68719476736) then
        r22 v22_1 (IntKind.i64.wrap (v22_2 + (1 : Int))) (v22_3 ++ (x0.getD v22_2.toNat []))
      else none
    else none
  else none
else some v22_3
noncomputable def slices_Concat_int.l22 (x0 : List (List Int)) (n : Nat) : Int → Int → (List Int) → Option (List Int) :=
  V.iter (fun (r22 : Int → Int → (List Int) → Option (List Int)) => fun v22_1 v22_2 v22_3 => slices_Concat_int.g22 x0 r22 v22_1 v22_2 v22_3) (fun _ _ _ => none) n
theorem slices_Concat_int.u22 (x0 : List (List Int)) (n : Nat) (v22_1 : Int) (v22_2 : Int) (v22_3 : List Int) : slices_Concat_int.l22 x0 (n + 1) v22_1 v22_2 v22_3 = slices_Concat_int.g22 x0 (slices_Concat_int.l22 x0 n) v22_1 v22_2 v22_3 := rfl
noncomputable abbrev slices_Concat_int.g6 (x0 : List (List Int)) (r6 : Int → Int → Int → Option (List Int)) (L22 : Int → Int → (List Int) → Option (List Int)) (v6_1 : Int) (v6_3 : Int) (v6_4 : Int) : Option (List Int) :=
  bif decide (v6_4 < v6_3) then
  bif decide (0 ≤ v6_4) then
    bif decide (v6_4 < (x0.length : Int)) then
      bif decide ((IntKind.i64.wrap (v6_1 + ((x0.getD v6_4.toNat []).length : Int))) < (0 : Int)) then
        none
      else r6 (IntKind.i64.wrap (v6_1 + ((x0.getD v6_4.toNat []).length : Int))) v6_3 (IntKind.i64.wrap (v6_4 + (1 : Int)))
    else none
  else none
else
  (slices_Grow_int [] v6_1).bind fun y1 =>
    L22 (x0.length : Int) (0 : Int) y1
noncomputable def slices_Concat_int.l6 (x0 : List (List Int)) (n : Nat) : Int → Int → Int → Option (List Int) :=
  V.iter (fun (r6 : Int → Int → Int → Option (List Int)) => fun v6_1 v6_3 v6_4 => slices_Concat_int.g6 x0 r6 (slices_Concat_int.l22 x0 V.KK) v6_1 v6_3 v6_4) (fun _ _ _ => none) n
theorem slices_Concat_int.u6 (x0 : List (List Int)) (n : Nat) (v6_1 : Int) (v6_3 : Int) (v6_4 : Int) : slices_Concat_int.l6 x0 (n + 1) v6_1 v6_3 v6_4 = slices_Concat_int.g6 x0 (slices_Concat_int.l6 x0 n) (slices_Concat_int.l22 x0 V.KK) v6_1 v6_3 v6_4 := rfl
noncomputable abbrev slices_Concat_int.b (x0 : List (List Int)) (L6 : Int → Int → Int → Option (List Int)) : Option (List Int) :=
  L6 (0 : Int) (x0.length : Int) (0 : Int)
noncomputable def slices_Concat_int (x0 : List (List Int)) : Option (List Int) :=
  slices_Concat_int.b x0 (slices_Concat_int.l6 x0 V.KK)
noncomputable def impl_HeadInts (x0 : THead) : Option (List Int) :=
  (impl_KeysInts (x0.2.2.2.2.2.2.2.2.1, x0.2.2.2.2.2.2.2.2.2.1)).bind fun y1 =>
  (impl_KeysInts (x0.2.2.2.2.2.2.2.2.2.2.1, x0.2.2.2.2.2.2.2.2.2.2.2.1)).bind fun y2 =>
    (impl_KeysInts (x0.2.2.2.2.2.2.2.2.2.2.2.2.2.1, x0.2.2.2.2.2.2.2.2.2.2.2.2.2.2.1)).bind fun y3 =>
      (impl_bit x0.2.2.2.2.2.2.2.2.2.2.2.2.2.2.2).bind fun y4 =>
        (slices_Concat_int [[x0.1, x0.2.1, x0.2.2.1, x0.2.2.2.1, x0.2.2.2.2.1, x0.2.2.2.2.2.1, x0.2.2.2.2.2.2.1, x0.2.2.2.2.2.2.2.1], y1, y2, [x0.2.2.2.2.2.2.2.2.2.2.2.2.1], y3, [y4]]).bind fun y5 =>
          some y5
noncomputable abbrev slices_Index_int.g4 (x0 : List Int) (x1 : Int) (r4 : Int → Int → Option Int) (v4_2 : Int) (v4_3 : Int) : Option Int :=
  bif decide (v4_3 < v4_2) then
  bif decide (0 ≤ v4_3) then
    bif decide (v4_3 < (x0.length : Int)) then
      bif x1 == (x0.getD v4_3.toNat (0 : Int)) then
        some v4_3
      else r4 v4_2 (IntKind.i64.wrap (v4_3 + (1 : Int)))
    else none
  else none
else some (-1 : Int)
noncomputable def slices_Index_int.l4 (x0 : List Int) (x1 : Int) (n : Nat) : Int → Int → Option Int :=
  V.iter (fun (r4 : Int → Int → Option Int) => fun v4_2 v4_3 => slices_Index_int.g4 x0 x1 r4 v4_2 v4_3) (fun _ _ => none) n
theorem slices_Index_int.u4 (x0 : List Int) (x1 : Int) (n : Nat) (v4_2 : Int) (v4_3 : Int) : slices_Index_int.l4 x0 x1 (n + 1) v4_2 v4_3 = slices_Index_int.g4 x0 x1 (slices_Index_int.l4 x0 x1 n) v4_2 v4_3 := rfl
noncomputable abbrev slices_Index_int.b (x0 : List Int) (x1 : Int) (L4 : Int → Int → Option Int) : Option Int :=
  L4 (x0.length : Int) (0 : Int)
noncomputable def slices_Index_int (x0 : List Int) (x1 : Int) : Option Int :=
  slices_Index_int.b x0 x1 (slices_Index_int.l4 x0 x1 V.KK)
noncomputable def slices_Contains_int (x0 : List Int) (x1 : Int) : Option Bool :=
  (slices_Index_int x0 x1).bind fun y1 =>
  some (decide (y1 ≥ (0 : Int)))
noncomputable def impl_InRange (x0 : Int) (x1 : Int) (x2 : Int) : Option Bool :=
  bif decide (x1 ≤ x0) then
  some (decide (x0 ≤ x2))
else some false
noncomputable def impl_Mod (x0 : Int) (x1 : Int) : Option Int :=
  (impl_InRange x1 (1 : Int) (1000000000000 : Int)).bind fun y1 =>
  bif !y1 then
    some (0 : Int)
  else
    bif (x1 == (0 : Int)) then
      none
    else
      bif (x1 == (0 : Int)) then
        none
      else some (Int.tmod (IntKind.i64.wrap ((Int.tmod x0 x1) + x1)) x1)
noncomputable abbrev impl_Hash.g6 (x0 : List Int) (r6 : Int → Int → Int → Option Int) (v6_0 : Int) (v6_2 : Int) (v6_3 : Int) : Option Int :=
  bif decide (v6_3 < v6_2) then
  bif decide (0 ≤ v6_3) then
    bif decide (v6_3 < (x0.length : Int)) then
      (impl_Mod (x0.getD v6_3.toNat (0 : Int)) (2147483647 : Int)).bind fun y1 =>
        bif ((2147483647 : Int) == (0 : Int)) then
          none
        else r6 (Int.tmod (IntKind.i64.wrap ((IntKind.i64.wrap ((IntKind.i64.wrap (v6_0 * (1000003 : Int))) + y1)) + (13 : Int))) (2147483647 : Int)) v6_2 (IntKind.i64.wrap (v6_3 + (1 : Int)))
    else none
  else none
else some v6_0
noncomputable def impl_Hash.l6 (x0 : List Int) (n : Nat) : Int → Int → Int → Option Int :=
  V.iter (fun (r6 : Int → Int → Int → Option Int) => fun v6_0 v6_2 v6_3 => impl_Hash.g6 x0 r6 v6_0 v6_2 v6_3) (fun _ _ _ => none) n
theorem impl_Hash.u6 (x0 : List Int) (n : Nat) (v6_0 : Int) (v6_2 : Int) (v6_3 : Int) : impl_Hash.l6 x0 (n + 1) v6_0 v6_2 v6_3 = impl_Hash.g6 x0 (impl_Hash.l6 x0 n) v6_0 v6_2 v6_3 := rfl
noncomputable abbrev impl_Hash.b (x0 : List Int) (L6 : Int → Int → Int → Option Int) : Option Int :=
  L6 (11 : Int) (x0.length : Int) (0 : Int)
noncomputable def impl_Hash (x0 : List Int) : Option Int :=
  impl_Hash.b x0 (impl_Hash.l6 x0 V.KK)
noncomputable def impl_KeyedHash (x0 : Int) (x1 : List Int) : Option Int :=
  (slices_Concat_int [[x0], x1, [x0]]).bind fun y1 =>
  (impl_Hash y1).bind fun y2 =>
    some y2
noncomputable def impl_TagOf (x0 : Int) (x1 : List Int) : Option Int :=
  bif decide ([(223 : Int)].length + x1.length < 68719476736) then
  (impl_KeyedHash x0 ([(223 : Int)] ++ x1)).bind fun y1 =>
    some y1
else none
noncomputable abbrev impl_SignBy.g6 (x0 : List Int) (x1 : TKeys) (x2 : List Int) (r6 : Int → Int → (List TSig) → Option (List TSig)) (v6_3 : Int) (v6_4 : Int) (v6_5 : List TSig) : Option (List TSig) :=
  bif decide (v6_4 < v6_3) then
  bif decide (0 ≤ v6_4) then
    bif decide (v6_4 < (x1.1.length : Int)) then
      (slices_Contains_int x0 (x1.1.getD v6_4.toNat (0 : Int))).bind fun y1 =>
        bif y1 then
          (impl_TagOf (x1.1.getD v6_4.toNat (0 : Int)) x2).bind fun y2 =>
            bif decide (v6_5.length + [(x1.1.getD v6_4.toNat (0 : Int), y2)].length < 68719476736) then
              r6 v6_3 (IntKind.i64.wrap (v6_4 + (1 : Int))) (v6_5 ++ [(x1.1.getD v6_4.toNat (0 : Int), y2)])
            else none
        else r6 v6_3 (IntKind.i64.wrap (v6_4 + (1 : Int))) v6_5
    else none
  else none
else some v6_5
noncomputable def impl_SignBy.l6 (x0 : List Int) (x1 : TKeys) (x2 : List Int) (n : Nat) : Int → Int → (List TSig) → Option (List TSig) :=
  V.iter (fun (r6 : Int → Int → (List TSig) → Option (List TSig)) => fun v6_3 v6_4 v6_5 => impl_SignBy.g6 x0 x1 x2 r6 v6_3 v6_4 v6_5) (fun _ _ _ => none) n
theorem impl_SignBy.u6 (x0 : List Int) (x1 : TKeys) (x2 : List Int) (n : Nat) (v6_3 : Int) (v6_4 : Int) (v6_5 : List TSig) : impl_SignBy.l6 x0 x1 x2 (n + 1) v6_3 v6_4 v6_5 = impl_SignBy.g6 x0 x1 x2 (impl_SignBy.l6 x0 x1 x2 n) v6_3 v6_4 v6_5 := rfl
noncomputable abbrev impl_SignBy.b (x0 : List Int) (x1 : TKeys) (x2 : List Int) (L6 : Int → Int → (List TSig) → Option (List TSig)) : Option (List TSig) :=
  L6 (x1.1.length : Int) (0 : Int) []
noncomputable def impl_SignBy (x0 : List Int) (x1 : TKeys) (x2 : List Int) : Option (List TSig) :=
  impl_SignBy.b x0 x1 x2 (impl_SignBy.l6 x0 x1 x2 V.KK)
noncomputable def impl_SignHead (x0 : List Int) (x1 : TKeys) (x2 : THead) : Option TSigned :=
  (impl_copyHead x2).bind fun y1 =>
  (impl_HeadInts x2).bind fun y2 =>
    (impl_SignBy x0 x1 y2).bind fun y3 =>
      some (y1.1, y1.2.1, y1.2.2.1, y1.2.2.2.1, y1.2.2.2.2.1, y1.2.2.2.2.2.1, y1.2.2.2.2.2.2.1, y1.2.2.2.2.2.2.2.1, y1.2.2.2.2.2.2.2.2.1, y1.2.2.2.2.2.2.2.2.2.1, y1.2.2.2.2.2.2.2.2.2.2.1, y1.2.2.2.2.2.2.2.2.2.2.2.1, y1.2.2.2.2.2.2.2.2.2.2.2.2.1, y1.2.2.2.2.2.2.2.2.2.2.2.2.2.1, y1.2.2.2.2.2.2.2.2.2.2.2.2.2.2.1, y1.2.2.2.2.2.2.2.2.2.2.2.2.2.2.2, y3)
noncomputable abbrev impl_SignNext.g15 (x1 : THead) (x2 : List Int) (v15_30 : List Int) (v15_31 : Int) : Option TSigned :=
  (impl_SignHead x2 (v15_30, v15_31) x1).bind fun y1 =>
  some y1
noncomputable def impl_SignNext.l15 (x1 : THead) (x2 : List Int) (v15_30 : List Int) (v15_31 : Int) : Option TSigned :=
  impl_SignNext.g15 x1 x2 v15_30 v15_31
noncomputable abbrev impl_SignNext.b (x0 : THead) (x1 : THead) (x2 : List Int) (L15 : (List Int) → Int → Option TSigned) : Option TSigned :=
  bif x1.2.2.1 == (2 : Int) then
  L15 x0.2.2.2.2.2.2.2.2.2.2.1 x0.2.2.2.2.2.2.2.2.2.2.2.1
else
  bif x1.2.2.1 == (3 : Int) then
    L15 x0.2.2.2.2.2.2.2.2.2.2.2.2.2.1 x0.2.2.2.2.2.2.2.2.2.2.2.2.2.2.1
  else L15 x0.2.2.2.2.2.2.2.2.1 x0.2.2.2.2.2.2.2.2.2.1
noncomputable def impl_SignNext (x0 : THead) (x1 : THead) (x2 : List Int) : Option TSigned :=
  impl_SignNext.b x0 x1 x2 (impl_SignNext.l15 x1 x2)
noncomputable abbrev laws_eqIntS.g8 (x0 : List Int) (x1 : List Int) (r8 : Int → Option Bool) (v8_2 : Int) : Option Bool :=
  bif decide (v8_2 < (x0.length : Int)) then
  bif decide (0 ≤ v8_2) then
    bif decide (v8_2 < (x0.length : Int)) then
      bif decide (0 ≤ v8_2) then
        bif decide (v8_2 < (x1.length : Int)) then
          bif (x0.getD v8_2.toNat (0 : Int)) != (x1.getD v8_2.toNat (0 : Int)) then
            some false
          else r8 (IntKind.i64.wrap (v8_2 + (1 : Int)))
        else none
      else none
    else none
  else none
else some true
noncomputable def laws_eqIntS.l8 (x0 : List Int) (x1 : List Int) (n : Nat) : Int → Option Bool :=
  V.iter (fun (r8 : Int → Option Bool) => fun v8_2 => laws_eqIntS.g8 x0 x1 r8 v8_2) (fun _ => none) n
theorem laws_eqIntS.u8 (x0 : List Int) (x1 : List Int) (n : Nat) (v8_2 : Int) : laws_eqIntS.l8 x0 x1 (n + 1) v8_2 = laws_eqIntS.g8 x0 x1 (laws_eqIntS.l8 x0 x1 n) v8_2 := rfl
noncomputable abbrev laws_eqIntS.b (x0 : List Int) (x1 : List Int) (L8 : Int → Option Bool) : Option Bool :=
  bif (x0.length : Int) != (x1.length : Int) then
  some false
else L8 (0 : Int)
noncomputable def laws_eqIntS (x0 : List Int) (x1 : List Int) : Option Bool :=
  laws_eqIntS.b x0 x1 (laws_eqIntS.l8 x0 x1 V.KK)
noncomputable def laws_eqKeys (x0 : TKeys) (x1 : TKeys) : Option Bool :=
  (laws_eqIntS x0.1 x1.1).bind fun y1 =>
  bif !y1 then
    some false
  else
    bif x0.2 != x1.2 then
      some false
    else some true
noncomputable def laws_eqHead (x0 : THead) (x1 : THead) : Option Bool :=
  bif x0.1 != x1.1 then
  some false
else
  bif x0.2.1 != x1.2.1 then
    some false
  else
    bif x0.2.2.1 != x1.2.2.1 then
      some false
    else
      bif x0.2.2.2.1 != x1.2.2.2.1 then
        some false
      else
        bif x0.2.2.2.2.1 != x1.2.2.2.2.1 then
          some false
        else
          bif x0.2.2.2.2.2.1 != x1.2.2.2.2.2.1 then
            some false
          else
            bif x0.2.2.2.2.2.2.1 != x1.2.2.2.2.2.2.1 then
              some false
            else
              bif x0.2.2.2.2.2.2.2.1 != x1.2.2.2.2.2.2.2.1 then
                some false
              else
                (laws_eqKeys (x0.2.2.2.2.2.2.2.2.1, x0.2.2.2.2.2.2.2.2.2.1) (x1.2.2.2.2.2.2.2.2.1, x1.2.2.2.2.2.2.2.2.2.1)).bind fun y1 =>
                  bif !y1 then
                    some false
                  else
                    (laws_eqKeys (x0.2.2.2.2.2.2.2.2.2.2.1, x0.2.2.2.2.2.2.2.2.2.2.2.1) (x1.2.2.2.2.2.2.2.2.2.2.1, x1.2.2.2.2.2.2.2.2.2.2.2.1)).bind fun y2 =>
                      bif !y2 then
                        some false
                      else
                        bif x0.2.2.2.2.2.2.2.2.2.2.2.2.1 != x1.2.2.2.2.2.2.2.2.2.2.2.2.1 then
                          some false
                        else
                          (laws_eqKeys (x0.2.2.2.2.2.2.2.2.2.2.2.2.2.1, x0.2.2.2.2.2.2.2.2.2.2.2.2.2.2.1) (x1.2.2.2.2.2.2.2.2.2.2.2.2.2.1, x1.2.2.2.2.2.2.2.2.2.2.2.2.2.2.1)).bind fun y3 =>
                            bif !y3 then
                              some false
                            else
                              bif !(x0.2.2.2.2.2.2.2.2.2.2.2.2.2.2.2 == x1.2.2.2.2.2.2.2.2.2.2.2.2.2.2.2) then
                                some false
                              else some true
noncomputable def laws_eqSig (x0 : TSig) (x1 : TSig) : Option Bool :=
  bif x0.1 != x1.1 then
  some false
else
  bif x0.2 != x1.2 then
    some false
  else some true
noncomputable abbrev laws_eqSigS.g8 (x0 : List TSig) (x1 : List TSig) (r8 : Int → Option Bool) (v8_2 : Int) : Option Bool :=
  bif decide (v8_2 < (x0.length : Int)) then
  bif decide (0 ≤ v8_2) then
    bif decide (v8_2 < (x0.length : Int)) then
      bif decide (0 ≤ v8_2) then
        bif decide (v8_2 < (x1.length : Int)) then
          (laws_eqSig (x0.getD v8_2.toNat dSig) (x1.getD v8_2.toNat dSig)).bind fun y1 =>
            bif !y1 then
              some false
            else r8 (IntKind.i64.wrap (v8_2 + (1 : Int)))
        else none
      else none
    else none
  else none
else some true
noncomputable def laws_eqSigS.l8 (x0 : List TSig) (x1 : List TSig) (n : Nat) : Int → Option Bool :=
  V.iter (fun (r8 : Int → Option Bool) => fun v8_2 => laws_eqSigS.g8 x0 x1 r8 v8_2) (fun _ => none) n
theorem laws_eqSigS.u8 (x0 : List TSig) (x1 : List TSig) (n : Nat) (v8_2 : Int) : laws_eqSigS.l8 x0 x1 (n + 1) v8_2 = laws_eqSigS.g8 x0 x1 (laws_eqSigS.l8 x0 x1 n) v8_2 := rfl
noncomputable abbrev laws_eqSigS.b (x0 : List TSig) (x1 : List TSig) (L8 : Int → Option Bool) : Option Bool :=
  bif (x0.length : Int) != (x1.length : Int) then
  some false
else L8 (0 : Int)
noncomputable def laws_eqSigS (x0 : List TSig) (x1 : List TSig) : Option Bool :=
  laws_eqSigS.b x0 x1 (laws_eqSigS.l8 x0 x1 V.KK)
noncomputable def laws_eqSigned (x0 : TSigned) (x1 : TSigned) : Option Bool :=
  (laws_eqHead (x0.1, x0.2.1, x0.2.2.1, x0.2.2.2.1, x0.2.2.2.2.1, x0.2.2.2.2.2.1, x0.2.2.2.2.2.2.1, x0.2.2.2.2.2.2.2.1, x0.2.2.2.2.2.2.2.2.1, x0.2.2.2.2.2.2.2.2.2.1, x0.2.2.2.2.2.2.2.2.2.2.1, x0.2.2.2.2.2.2.2.2.2.2.2.1, x0.2.2.2.2.2.2.2.2.2.2.2.2.1, x0.2.2.2.2.2.2.2.2.2.2.2.2.2.1, x0.2.2.2.2.2.2.2.2.2.2.2.2.2.2.1, x0.2.2.2.2.2.2.2.2.2.2.2.2.2.2.2.1) (x1.1, x1.2.1, x1.2.2.1, x1.2.2.2.1, x1.2.2.2.2.1, x1.2.2.2.2.2.1, x1.2.2.2.2.2.2.1, x1.2.2.2.2.2.2.2.1, x1.2.2.2.2.2.2.2.2.1, x1.2.2.2.2.2.2.2.2.2.1, x1.2.2.2.2.2.2.2.2.2.2.1, x1.2.2.2.2.2.2.2.2.2.2.2.1, x1.2.2.2.2.2.2.2.2.2.2.2.2.1, x1.2.2.2.2.2.2.2.2.2.2.2.2.2.1, x1.2.2.2.2.2.2.2.2.2.2.2.2.2.2.1, x1.2.2.2.2.2.2.2.2.2.2.2.2.2.2.2.1)).bind fun y1 =>
  bif !y1 then
    some false
  else
    (laws_eqSigS x0.2.2.2.2.2.2.2.2.2.2.2.2.2.2.2.2 x1.2.2.2.2.2.2.2.2.2.2.2.2.2.2.2.2).bind fun y2 =>
      bif !y2 then
        some false
      else some true
noncomputable abbrev laws_markIntS.g4 (r4 : Int → Int → (List Int) → Option TKeys) (v4_0 : Int) (v4_1 : Int) (v4_2 : List Int) : Option TKeys :=
  bif decide (v4_1 < (v4_2.length : Int)) then
  bif decide (0 ≤ v4_1) then
    bif decide (v4_1 < (v4_2.length : Int)) then
      r4 (IntKind.i64.wrap (v4_0 + (1 : Int))) (IntKind.i64.wrap (v4_1 + (1 : Int))) (v4_2.set v4_1.toNat v4_0)
    else none
  else none
else some (v4_2, v4_0)
noncomputable def laws_markIntS.l4 (n : Nat) : Int → Int → (List Int) → Option TKeys :=
  V.iter (fun (r4 : Int → Int → (List Int) → Option TKeys) => fun v4_0 v4_1 v4_2 => laws_markIntS.g4 r4 v4_0 v4_1 v4_2) (fun _ _ _ => none) n
theorem laws_markIntS.u4 (n : Nat) (v4_0 : Int) (v4_1 : Int) (v4_2 : List Int) : laws_markIntS.l4 (n + 1) v4_0 v4_1 v4_2 = laws_markIntS.g4 (laws_markIntS.l4 n) v4_0 v4_1 v4_2 := rfl
noncomputable abbrev laws_markIntS.b (x0 : List Int) (x1 : Int) (L4 : Int → Int → (List Int) → Option TKeys) : Option TKeys :=
  L4 x1 (0 : Int) x0
noncomputable def laws_markIntS (x0 : List Int) (x1 : Int) : Option TKeys :=
  laws_markIntS.b x0 x1 (laws_markIntS.l4 V.KK)
noncomputable def laws_markKeys (x0 : TKeys) (x1 : Int) : Option TKeys :=
  (laws_markIntS x0.1 x1).bind fun y1 =>
  some y1
noncomputable def laws_markHead (x0 : THead) (x1 : Int) : Option (List Int × List Int × List Int × Int) :=
  (laws_markKeys (x0.2.2.2.2.2.2.2.2.1, x0.2.2.2.2.2.2.2.2.2.1) x1).bind fun y1 =>
  (laws_markKeys (x0.2.2.2.2.2.2.2.2.2.2.1, x0.2.2.2.2.2.2.2.2.2.2.2.1) y1.2).bind fun y2 =>
    (laws_markKeys (x0.2.2.2.2.2.2.2.2.2.2.2.2.2.1, x0.2.2.2.2.2.2.2.2.2.2.2.2.2.2.1) y2.2).bind fun y3 =>
      some (y1.1, y2.1, y3.1, y3.2)
noncomputable abbrev laws_markSigS.g4 (r4 : Int → Int → (List TSig) → Option (List TSig × Int)) (v4_0 : Int) (v4_1 : Int) (v4_2 : List TSig) : Option (List TSig × Int) :=
  bif decide (v4_1 < (v4_2.length : Int)) then
  bif decide (0 ≤ v4_1) then
    bif decide (v4_1 < (v4_2.length : Int)) then
      bif decide (0 ≤ v4_1) then
        bif decide (v4_1 < (((V.upd v4_2 v4_1.toNat (fun z => (v4_0, z.2))).length) : Int)) then
          r4 (IntKind.i64.wrap ((IntKind.i64.wrap (v4_0 + (1 : Int))) + (1 : Int))) (IntKind.i64.wrap (v4_1 + (1 : Int))) (V.upd (V.upd v4_2 v4_1.toNat (fun z => (v4_0, z.2))) v4_1.toNat (fun z => (z.1, IntKind.i64.wrap (v4_0 + (1 : Int)))))
        else none
      else none
    else none
  else none
else some (v4_2, v4_0)
noncomputable def laws_markSigS.l4 (n : Nat) : Int → Int → (List TSig) → Option (List TSig × Int) :=
  V.iter (fun (r4 : Int → Int → (List TSig) → Option (List TSig × Int)) => fun v4_0 v4_1 v4_2 => laws_markSigS.g4 r4 v4_0 v4_1 v4_2) (fun _ _ _ => none) n
theorem laws_markSigS.u4 (n : Nat) (v4_0 : Int) (v4_1 : Int) (v4_2 : List TSig) : laws_markSigS.l4 (n + 1) v4_0 v4_1 v4_2 = laws_markSigS.g4 (laws_markSigS.l4 n) v4_0 v4_1 v4_2 := rfl
noncomputable abbrev laws_markSigS.b (x0 : List TSig) (x1 : Int) (L4 : Int → Int → (List TSig) → Option (List TSig × Int)) : Option (List TSig × Int) :=
  L4 x1 (0 : Int) x0
noncomputable def laws_markSigS (x0 : List TSig) (x1 : Int) : Option (List TSig × Int) :=
  laws_markSigS.b x0 x1 (laws_markSigS.l4 V.KK)
noncomputable def laws_markSigned (x0 : TSigned) (x1 : Int) : Option (List Int × List Int × List Int × List TSig × Int) :=
  (laws_markHead (x0.1, x0.2.1, x0.2.2.1, x0.2.2.2.1, x0.2.2.2.2.1, x0.2.2.2.2.2.1, x0.2.2.2.2.2.2.1, x0.2.2.2.2.2.2.2.1, x0.2.2.2.2.2.2.2.2.1, x0.2.2.2.2.2.2.2.2.2.1, x0.2.2.2.2.2.2.2.2.2.2.1, x0.2.2.2.2.2.2.2.2.2.2.2.1, x0.2.2.2.2.2.2.2.2.2.2.2.2.1, x0.2.2.2.2.2.2.2.2.2.2.2.2.2.1, x0.2.2.2.2.2.2.2.2.2.2.2.2.2.2.1, x0.2.2.2.2.2.2.2.2.2.2.2.2.2.2.2.1) x1).bind fun y1 =>
  (laws_markSigS x0.2.2.2.2.2.2.2.2.2.2.2.2.2.2.2.2 y1.2.2.2).bind fun y2 =>
    some (y1.1, y1.2.1, y1.2.2.1, y2.1, y2.2)
noncomputable abbrev laws_heldIntS.g4 (x0 : List Int) (r4 : Int → Int → Option Int) (v4_1 : Int) (v4_2 : Int) : Option Int :=
  bif decide (v4_2 < (x0.length : Int)) then
  bif decide (0 ≤ v4_2) then
    bif decide (v4_2 < (x0.length : Int)) then
      bif (x0.getD v4_2.toNat (0 : Int)) != v4_1 then
        some (-1 : Int)
      else r4 (IntKind.i64.wrap (v4_1 + (1 : Int))) (IntKind.i64.wrap (v4_2 + (1 : Int)))
    else none
  else none
else some v4_1
noncomputable def laws_heldIntS.l4 (x0 : List Int) (n : Nat) : Int → Int → Option Int :=
  V.iter (fun (r4 : Int → Int → Option Int) => fun v4_1 v4_2 => laws_heldIntS.g4 x0 r4 v4_1 v4_2) (fun _ _ => none) n
theorem laws_heldIntS.u4 (x0 : List Int) (n : Nat) (v4_1 : Int) (v4_2 : Int) : laws_heldIntS.l4 x0 (n + 1) v4_1 v4_2 = laws_heldIntS.g4 x0 (laws_heldIntS.l4 x0 n) v4_1 v4_2 := rfl
noncomputable abbrev laws_heldIntS.b (x0 : List Int) (x1 : Int) (L4 : Int → Int → Option Int) : Option Int :=
  L4 x1 (0 : Int)
noncomputable def laws_heldIntS (x0 : List Int) (x1 : Int) : Option Int :=
  laws_heldIntS.b x0 x1 (laws_heldIntS.l4 x0 V.KK)
noncomputable def laws_heldKeys (x0 : TKeys) (x1 : Int) : Option Int :=
  (laws_heldIntS x0.1 x1).bind fun y1 =>
  bif decide (y1 < (0 : Int)) then
    some (-1 : Int)
  else some y1
noncomputable def laws_heldHead (x0 : THead) (x1 : Int) : Option Int :=
  (laws_heldKeys (x0.2.2.2.2.2.2.2.2.1, x0.2.2.2.2.2.2.2.2.2.1) x1).bind fun y1 =>
  bif decide (y1 < (0 : Int)) then
    some (-1 : Int)
  else
    (laws_heldKeys (x0.2.2.2.2.2.2.2.2.2.2.1, x0.2.2.2.2.2.2.2.2.2.2.2.1) y1).bind fun y2 =>
      bif decide (y2 < (0 : Int)) then
        some (-1 : Int)
      else
        (laws_heldKeys (x0.2.2.2.2.2.2.2.2.2.2.2.2.2.1, x0.2.2.2.2.2.2.2.2.2.2.2.2.2.2.1) y2).bind fun y3 =>
          bif decide (y3 < (0 : Int)) then
            some (-1 : Int)
          else some y3
noncomputable abbrev laws_heldSigS.g4 (x0 : List TSig) (r4 : Int → Int → Option Int) (v4_1 : Int) (v4_2 : Int) : Option Int :=
  bif decide (v4_2 < (x0.length : Int)) then
  bif decide (0 ≤ v4_2) then
    bif decide (v4_2 < (x0.length : Int)) then
      bif ((x0.getD v4_2.toNat dSig).1) != v4_1 then
        some (-1 : Int)
      else
        bif decide (0 ≤ v4_2) then
          bif decide (v4_2 < (x0.length : Int)) then
            bif ((x0.getD v4_2.toNat dSig).2) != (IntKind.i64.wrap (v4_1 + (1 : Int))) then
              some (-1 : Int)
            else r4 (IntKind.i64.wrap ((IntKind.i64.wrap (v4_1 + (1 : Int))) + (1 : Int))) (IntKind.i64.wrap (v4_2 + (1 : Int)))
          else none
        else none
    else none
  else none
else some v4_1
noncomputable def laws_heldSigS.l4 (x0 : List TSig) (n : Nat) : Int → Int → Option Int :=
  V.iter (fun (r4 : Int → Int → Option Int) => fun v4_1 v4_2 => laws_heldSigS.g4 x0 r4 v4_1 v4_2) (fun _ _ => none) n
theorem laws_heldSigS.u4 (x0 : List TSig) (n : Nat) (v4_1 : Int) (v4_2 : Int) : laws_heldSigS.l4 x0 (n + 1) v4_1 v4_2 = laws_heldSigS.g4 x0 (laws_heldSigS.l4 x0 n) v4_1 v4_2 := rfl
noncomputable abbrev laws_heldSigS.b (x0 : List TSig) (x1 : Int) (L4 : Int → Int → Option Int) : Option Int :=
  L4 x1 (0 : Int)
noncomputable def laws_heldSigS (x0 : List TSig) (x1 : Int) : Option Int :=
  laws_heldSigS.b x0 x1 (laws_heldSigS.l4 x0 V.KK)
noncomputable def laws_heldSigned (x0 : TSigned) (x1 : Int) : Option Int :=
  (laws_heldHead (x0.1, x0.2.1, x0.2.2.1, x0.2.2.2.1, x0.2.2.2.2.1, x0.2.2.2.2.2.1, x0.2.2.2.2.2.2.1, x0.2.2.2.2.2.2.2.1, x0.2.2.2.2.2.2.2.2.1, x0.2.2.2.2.2.2.2.2.2.1, x0.2.2.2.2.2.2.2.2.2.2.1, x0.2.2.2.2.2.2.2.2.2.2.2.1, x0.2.2.2.2.2.2.2.2.2.2.2.2.1, x0.2.2.2.2.2.2.2.2.2.2.2.2.2.1, x0.2.2.2.2.2.2.2.2.2.2.2.2.2.2.1, x0.2.2.2.2.2.2.2.2.2.2.2.2.2.2.2.1) x1).bind fun y1 =>
  bif decide (y1 < (0 : Int)) then
    some (-1 : Int)
  else
    (laws_heldSigS x0.2.2.2.2.2.2.2.2.2.2.2.2.2.2.2.2 y1).bind fun y2 =>
      bif decide (y2 < (0 : Int)) then
        some (-1 : Int)
      else some y2
noncomputable abbrev laws_FnExactSignNext.g59 (x0 : THead) (x1 : THead) (x2 : List Int) (y6 : TSigned) (y10 : TSigned) : Option Bool :=
  (laws_markSigned y10 (1 : Int)).bind fun y22 =>
  (laws_heldSigned (y10.1, y10.2.1, y10.2.2.1, y10.2.2.2.1, y10.2.2.2.2.1, y10.2.2.2.2.2.1, y10.2.2.2.2.2.2.1, y10.2.2.2.2.2.2.2.1, y22.1, y10.2.2.2.2.2.2.2.2.2.1, y22.2.1, y10.2.2.2.2.2.2.2.2.2.2.2.1, y10.2.2.2.2.2.2.2.2.2.2.2.2.1, y22.2.2.1, y10.2.2.2.2.2.2.2.2.2.2.2.2.2.2.1, y10.2.2.2.2.2.2.2.2.2.2.2.2.2.2.2.1, y22.2.2.2.1) (1 : Int)).bind fun y23 =>
    bif decide (y23 < (0 : Int)) then
      some false
    else
      bif y23 != y22.2.2.2.2 then
        some false
      else
        (laws_toHead x0).bind fun y24 =>
          (laws_toHead x1).bind fun y25 =>
            (laws_toIntS x2).bind fun y26 =>
              (impl_SignNext y24 y25 y26).bind fun y27 =>
                (laws_eqSigned y27 y6).bind fun y28 =>
                  bif !y28 then
                    some false
                  else
                    (laws_heldSigned (y10.1, y10.2.1, y10.2.2.1, y10.2.2.2.1, y10.2.2.2.2.1, y10.2.2.2.2.2.1, y10.2.2.2.2.2.2.1, y10.2.2.2.2.2.2.2.1, y22.1, y10.2.2.2.2.2.2.2.2.2.1, y22.2.1, y10.2.2.2.2.2.2.2.2.2.2.2.1, y10.2.2.2.2.2.2.2.2.2.2.2.2.1, y22.2.2.1, y10.2.2.2.2.2.2.2.2.2.2.2.2.2.2.1, y10.2.2.2.2.2.2.2.2.2.2.2.2.2.2.2.1, y22.2.2.2.1) (1 : Int)).bind fun y29 =>
                      bif decide (y29 < (0 : Int)) then
                        some false
                      else
                        bif y29 != y22.2.2.2.2 then
                          some false
                        else some true
noncomputable def laws_FnExactSignNext.l59 (x0 : THead) (x1 : THead) (x2 : List Int) (y6 : TSigned) (y10 : TSigned) : Option Bool :=
  laws_FnExactSignNext.g59 x0 x1 x2 y6 y10
noncomputable abbrev laws_FnExactSignNext.b (x0 : THead) (x1 : THead) (x2 : List Int) (L59 : TSigned → TSigned → Option Bool) : Option Bool :=
  bif decide ((x2.length : Int) > (1048576 : Int)) then
  some true
else
  (laws_szHead x0 (1048576 : Int)).bind fun y1 =>
    bif decide (y1 < (0 : Int)) then
      some true
    else
      (laws_szHead x1 y1).bind fun y2 =>
        bif decide (y2 < (0 : Int)) then
          some true
        else
          (laws_toHead x0).bind fun y3 =>
            (laws_toHead x1).bind fun y4 =>
              (laws_toIntS x2).bind fun y5 =>
                (spec_SignNext y3 y4 y5).bind fun y6 =>
                  (laws_toHead x0).bind fun y7 =>
                    (laws_toHead x1).bind fun y8 =>
                      (laws_toIntS x2).bind fun y9 =>
                        (impl_SignNext y7 y8 y9).bind fun y10 =>
                          (laws_eqSigned y10 y6).bind fun y11 =>
                            bif !y11 then
                              some false
                            else
                              (laws_toHead x0).bind fun y12 =>
                                (laws_eqHead y7 y12).bind fun y13 =>
                                  bif !y13 then
                                    some false
                                  else
                                    (laws_toHead x1).bind fun y14 =>
                                      (laws_eqHead y8 y14).bind fun y15 =>
                                        bif !y15 then
                                          some false
                                        else
                                          (laws_toIntS x2).bind fun y16 =>
                                            (laws_eqIntS y9 y16).bind fun y17 =>
                                              bif !y17 then
                                                some false
                                              else
                                                (laws_markHead y7 (1 : Int)).bind fun y18 =>
                                                  (laws_markHead y8 y18.2.2.2).bind fun y19 =>
                                                    (laws_markIntS y9 y19.2.2.2).bind fun y20 =>
                                                      bif decide (y20.2 < (0 : Int)) then
                                                        some false
                                                      else
                                                        (laws_eqSigned y10 y6).bind fun y21 =>
                                                          bif !y21 then
                                                            some false
                                                          else L59 y6 y10
noncomputable def laws_FnExactSignNext (x0 : THead) (x1 : THead) (x2 : List Int) : Option Bool :=
  laws_FnExactSignNext.b x0 x1 x2 (fun y6 y10 => laws_FnExactSignNext.l59 x0 x1 x2 y6 y10)
end Go.Proofs.Ytdfchkmfamnocaa
