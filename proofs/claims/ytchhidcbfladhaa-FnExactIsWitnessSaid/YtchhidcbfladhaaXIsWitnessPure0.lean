/- What the functions compute: printed from their code by the evaluator. -/
import Derived.Test.YtchhidcbfladhaaVE
namespace Go.Proofs.Ytchhidcbfladhaa
set_option linter.unusedVariables false
abbrev TMark : Type := Int × Int × Int
abbrev dMark : TMark := ((0 : Int), (0 : Int), (0 : Int))
abbrev TWitness : Type := Int × List TMark
abbrev dWitness : TWitness := ((0 : Int), [])
noncomputable def laws_szMarkS (x0 : List TMark) (x1 : Int) : Option Int :=
  bif decide ((IntKind.i64.wrap (x1 - (x0.length : Int))) < (0 : Int)) then
  some (-1 : Int)
else some (IntKind.i64.wrap (x1 - (x0.length : Int)))
noncomputable def laws_szWitness (x0 : TWitness) (x1 : Int) : Option Int :=
  (laws_szMarkS x0.2 x1).bind fun y1 =>
  bif decide (y1 < (0 : Int)) then
    some (-1 : Int)
  else some y1
noncomputable def laws_toMark (x0 : TMark) : Option TMark :=
  some x0
noncomputable abbrev laws_toMarkS.g6 (x0 : List TMark) (r6 : Int → (List TMark) → Option (List TMark)) (v6_1 : Int) (v6_2 : List TMark) : Option (List TMark) :=
  bif decide (v6_1 < (x0.length : Int)) then
  bif decide (0 ≤ v6_1) then
    bif decide (v6_1 < (x0.length : Int)) then
      (laws_toMark (x0.getD v6_1.toNat dMark)).bind fun y1 =>
        bif decide (0 ≤ v6_1) then
          bif decide (v6_1 < (v6_2.length : Int)) then
            r6 (IntKind.i64.wrap (v6_1 + (1 : Int))) (v6_2.set v6_1.toNat y1)
          else none
        else none
    else none
  else none
else some v6_2
noncomputable def laws_toMarkS.l6 (x0 : List TMark) (n : Nat) : Int → (List TMark) → Option (List TMark) :=
  V.iter (fun (r6 : Int → (List TMark) → Option (List TMark)) => fun v6_1 v6_2 => laws_toMarkS.g6 x0 r6 v6_1 v6_2) (fun _ _ => none) n
theorem laws_toMarkS.u6 (x0 : List TMark) (n : Nat) (v6_1 : Int) (v6_2 : List TMark) : laws_toMarkS.l6 x0 (n + 1) v6_1 v6_2 = laws_toMarkS.g6 x0 (laws_toMarkS.l6 x0 n) v6_1 v6_2 := rfl
noncomputable abbrev laws_toMarkS.b (x0 : List TMark) (L6 : Int → (List TMark) → Option (List TMark)) : Option (List TMark) :=
  bif ((x0.length : Int) == (x0.length : Int)) then
  bif decide (0 ≤ (x0.length : Int)) then
    bif decide ((x0.length : Int) < (68719476736 : Int)) then
      L6 (0 : Int) (List.replicate ((x0.length : Int).toNat) dMark)
    else none
  else none
else none
noncomputable def laws_toMarkS (x0 : List TMark) : Option (List TMark) :=
  laws_toMarkS.b x0 (laws_toMarkS.l6 x0 V.KK)
noncomputable def laws_toWitness (x0 : TWitness) : Option TWitness :=
  (laws_toMarkS x0.2).bind fun y1 =>
  some (x0.1, y1)
noncomputable def spec_l1In (x0 : Int) (x1 : Int) (x2 : Int) : Option Bool :=
  bif decide (x0 ≥ x1) then
  some (decide (x0 ≤ x2))
else some false
noncomputable abbrev spec_l19Find.g4 (x0 : TWitness) (x1 : Int) (x2 : Int) (r4 : Int → Option Int) (v4_2 : Int) : Option Int :=
  bif decide (v4_2 < (x0.2.length : Int)) then
  bif decide (0 ≤ v4_2) then
    bif decide (v4_2 < (x0.2.length : Int)) then
      bif ((x0.2.getD v4_2.toNat dMark).1) == x1 then
        bif decide (0 ≤ v4_2) then
          bif decide (v4_2 < (x0.2.length : Int)) then
            bif ((x0.2.getD v4_2.toNat dMark).2.1) == x2 then
              some v4_2
            else r4 (IntKind.i64.wrap (v4_2 + (1 : Int)))
          else none
        else none
      else r4 (IntKind.i64.wrap (v4_2 + (1 : Int)))
    else none
  else none
else some (-1 : Int)
noncomputable def spec_l19Find.l4 (x0 : TWitness) (x1 : Int) (x2 : Int) (n : Nat) : Int → Option Int :=
  V.iter (fun (r4 : Int → Option Int) => fun v4_2 => spec_l19Find.g4 x0 x1 x2 r4 v4_2) (fun _ => none) n
theorem spec_l19Find.u4 (x0 : TWitness) (x1 : Int) (x2 : Int) (n : Nat) (v4_2 : Int) : spec_l19Find.l4 x0 x1 x2 (n + 1) v4_2 = spec_l19Find.g4 x0 x1 x2 (spec_l19Find.l4 x0 x1 x2 n) v4_2 := rfl
noncomputable abbrev spec_l19Find.b (x0 : TWitness) (x1 : Int) (x2 : Int) (L4 : Int → Option Int) : Option Int :=
  L4 (0 : Int)
noncomputable def spec_l19Find (x0 : TWitness) (x1 : Int) (x2 : Int) : Option Int :=
  spec_l19Find.b x0 x1 x2 (spec_l19Find.l4 x0 x1 x2 V.KK)
noncomputable abbrev spec_IsWitness.g4 (x0 : TWitness) (r4 : Int → Option Bool) (v4_0 : Int) : Option Bool :=
  bif decide (v4_0 < (x0.2.length : Int)) then
  bif decide (0 ≤ v4_0) then
    bif decide (v4_0 < (x0.2.length : Int)) then
      (spec_l1In ((x0.2.getD v4_0.toNat dMark).1) (0 : Int) (2147483646 : Int)).bind fun y1 =>
        bif !y1 then
          some false
        else
          (spec_l1In ((x0.2.getD v4_0.toNat dMark).2.2) (0 : Int) (2147483646 : Int)).bind fun y2 =>
            bif !y2 then
              some false
            else
              (spec_l1In ((x0.2.getD v4_0.toNat dMark).2.1) (0 : Int) (200 : Int)).bind fun y3 =>
                bif !y3 then
                  some false
                else
                  (spec_l19Find x0 ((x0.2.getD v4_0.toNat dMark).1) ((x0.2.getD v4_0.toNat dMark).2.1)).bind fun y4 =>
                    bif y4 != v4_0 then
                      some false
                    else r4 (IntKind.i64.wrap (v4_0 + (1 : Int)))
    else none
  else none
else
  (spec_l1In x0.1 (1 : Int) (99 : Int)).bind fun y5 =>
    bif y5 then
      some (decide ((x0.2.length : Int) ≤ (40 : Int)))
    else some false
noncomputable def spec_IsWitness.l4 (x0 : TWitness) (n : Nat) : Int → Option Bool :=
  V.iter (fun (r4 : Int → Option Bool) => fun v4_0 => spec_IsWitness.g4 x0 r4 v4_0) (fun _ => none) n
theorem spec_IsWitness.u4 (x0 : TWitness) (n : Nat) (v4_0 : Int) : spec_IsWitness.l4 x0 (n + 1) v4_0 = spec_IsWitness.g4 x0 (spec_IsWitness.l4 x0 n) v4_0 := rfl
noncomputable abbrev spec_IsWitness.b (x0 : TWitness) (L4 : Int → Option Bool) : Option Bool :=
  L4 (0 : Int)
noncomputable def spec_IsWitness (x0 : TWitness) : Option Bool :=
  spec_IsWitness.b x0 (spec_IsWitness.l4 x0 V.KK)
noncomputable def impl_InRange (x0 : Int) (x1 : Int) (x2 : Int) : Option Bool :=
  bif decide (x1 ≤ x0) then
  some (decide (x0 ≤ x2))
else some false
noncomputable def impl_isDigest (x0 : Int) : Option Bool :=
  (impl_InRange x0 (0 : Int) (2147483646 : Int)).bind fun y1 =>
  some y1
noncomputable def impl_Mark_isOf (x0 : TMark) (x1 : TMark) : Option Bool :=
  bif x0.1 == x1.1 then
  some (x0.2.1 == x1.2.1)
else some false
noncomputable abbrev slices_IndexFunc_impl_Mark.g4 (x0 : List TMark) (x1 : (TMark) × (Unit)) (r4 : Int → Int → Option Int) (v4_2 : Int) (v4_3 : Int) : Option Int :=
  bif decide (v4_3 < v4_2) then
  bif decide (0 ≤ v4_3) then
    bif decide (v4_3 < (x0.length : Int)) then
      (impl_Mark_isOf x1.1 (x0.getD v4_3.toNat dMark)).bind fun y1 =>
        bif y1 then
          some v4_3
        else r4 v4_2 (IntKind.i64.wrap (v4_3 + (1 : Int)))
    else none
  else none
else some (-1 : Int)
noncomputable def slices_IndexFunc_impl_Mark.l4 (x0 : List TMark) (x1 : (TMark) × (Unit)) (n : Nat) : Int → Int → Option Int :=
  V.iter (fun (r4 : Int → Int → Option Int) => fun v4_2 v4_3 => slices_IndexFunc_impl_Mark.g4 x0 x1 r4 v4_2 v4_3) (fun _ _ => none) n
theorem slices_IndexFunc_impl_Mark.u4 (x0 : List TMark) (x1 : (TMark) × (Unit)) (n : Nat) (v4_2 : Int) (v4_3 : Int) : slices_IndexFunc_impl_Mark.l4 x0 x1 (n + 1) v4_2 v4_3 = slices_IndexFunc_impl_Mark.g4 x0 x1 (slices_IndexFunc_impl_Mark.l4 x0 x1 n) v4_2 v4_3 := rfl
noncomputable abbrev slices_IndexFunc_impl_Mark.b (x0 : List TMark) (x1 : (TMark) × (Unit)) (L4 : Int → Int → Option Int) : Option Int :=
  L4 (x0.length : Int) (0 : Int)
noncomputable def slices_IndexFunc_impl_Mark (x0 : List TMark) (x1 : (TMark) × (Unit)) : Option Int :=
  slices_IndexFunc_impl_Mark.b x0 x1 (slices_IndexFunc_impl_Mark.l4 x0 x1 V.KK)
noncomputable def slices_ContainsFunc_impl_Mark (x0 : List TMark) (x1 : (TMark) × (Unit)) : Option Bool :=
  (slices_IndexFunc_impl_Mark x0 (x1.1, x1.2)).bind fun y1 =>
  some (decide (y1 ≥ (0 : Int)))
noncomputable def impl_isKey (x0 : Int) : Option Bool :=
  (impl_InRange x0 (1 : Int) (99 : Int)).bind fun y1 =>
  some y1
noncomputable abbrev impl_IsWitness.g4 (x0 : TWitness) (r4 : Int → Int → Option Bool) (v4_1 : Int) (v4_2 : Int) : Option Bool :=
  bif decide (v4_2 < v4_1) then
  bif decide (0 ≤ v4_2) then
    bif decide (v4_2 < (x0.2.length : Int)) then
      (impl_isDigest ((x0.2.getD v4_2.toNat dMark).1)).bind fun y1 =>
        bif !y1 then
          some false
        else
          (impl_isDigest ((x0.2.getD v4_2.toNat dMark).2.2)).bind fun y2 =>
            bif !y2 then
              some false
            else
              (impl_InRange ((x0.2.getD v4_2.toNat dMark).2.1) (0 : Int) (200 : Int)).bind fun y3 =>
                bif !y3 then
                  some false
                else
                  bif decide (0 ≤ (0 : Int)) then
                    bif decide ((0 : Int) ≤ v4_2) then
                      bif decide (v4_2 ≤ (x0.2.length : Int)) then
                        (slices_ContainsFunc_impl_Mark (x0.2.take v4_2.toNat) (x0.2.getD v4_2.toNat dMark, ())).bind fun y4 =>
                          bif y4 then
                            some false
                          else r4 v4_1 (IntKind.i64.wrap (v4_2 + (1 : Int)))
                      else none
                    else none
                  else none
    else none
  else none
else
  (impl_isKey x0.1).bind fun y5 =>
    bif y5 then
      some (decide ((x0.2.length : Int) ≤ (40 : Int)))
    else some false
noncomputable def impl_IsWitness.l4 (x0 : TWitness) (n : Nat) : Int → Int → Option Bool :=
  V.iter (fun (r4 : Int → Int → Option Bool) => fun v4_1 v4_2 => impl_IsWitness.g4 x0 r4 v4_1 v4_2) (fun _ _ => none) n
theorem impl_IsWitness.u4 (x0 : TWitness) (n : Nat) (v4_1 : Int) (v4_2 : Int) : impl_IsWitness.l4 x0 (n + 1) v4_1 v4_2 = impl_IsWitness.g4 x0 (impl_IsWitness.l4 x0 n) v4_1 v4_2 := rfl
noncomputable abbrev impl_IsWitness.b (x0 : TWitness) (L4 : Int → Int → Option Bool) : Option Bool :=
  L4 (x0.2.length : Int) (0 : Int)
noncomputable def impl_IsWitness (x0 : TWitness) : Option Bool :=
  impl_IsWitness.b x0 (impl_IsWitness.l4 x0 V.KK)
noncomputable def laws_eqMark (x0 : TMark) (x1 : TMark) : Option Bool :=
  bif x0.1 != x1.1 then
  some false
else
  bif x0.2.1 != x1.2.1 then
    some false
  else
    bif x0.2.2 != x1.2.2 then
      some false
    else some true
noncomputable abbrev laws_eqMarkS.g8 (x0 : List TMark) (x1 : List TMark) (r8 : Int → Option Bool) (v8_2 : Int) : Option Bool :=
  bif decide (v8_2 < (x0.length : Int)) then
  bif decide (0 ≤ v8_2) then
    bif decide (v8_2 < (x0.length : Int)) then
      bif decide (0 ≤ v8_2) then
        bif decide (v8_2 < (x1.length : Int)) then
          (laws_eqMark (x0.getD v8_2.toNat dMark) (x1.getD v8_2.toNat dMark)).bind fun y1 =>
            bif !y1 then
              some false
            else r8 (IntKind.i64.wrap (v8_2 + (1 : Int)))
        else none
      else none
    else none
  else none
else some true
noncomputable def laws_eqMarkS.l8 (x0 : List TMark) (x1 : List TMark) (n : Nat) : Int → Option Bool :=
  V.iter (fun (r8 : Int → Option Bool) => fun v8_2 => laws_eqMarkS.g8 x0 x1 r8 v8_2) (fun _ => none) n
theorem laws_eqMarkS.u8 (x0 : List TMark) (x1 : List TMark) (n : Nat) (v8_2 : Int) : laws_eqMarkS.l8 x0 x1 (n + 1) v8_2 = laws_eqMarkS.g8 x0 x1 (laws_eqMarkS.l8 x0 x1 n) v8_2 := rfl
noncomputable abbrev laws_eqMarkS.b (x0 : List TMark) (x1 : List TMark) (L8 : Int → Option Bool) : Option Bool :=
  bif (x0.length : Int) != (x1.length : Int) then
  some false
else L8 (0 : Int)
noncomputable def laws_eqMarkS (x0 : List TMark) (x1 : List TMark) : Option Bool :=
  laws_eqMarkS.b x0 x1 (laws_eqMarkS.l8 x0 x1 V.KK)
noncomputable def laws_eqWitness (x0 : TWitness) (x1 : TWitness) : Option Bool :=
  bif x0.1 != x1.1 then
  some false
else
  (laws_eqMarkS x0.2 x1.2).bind fun y1 =>
    bif !y1 then
      some false
    else some true
noncomputable def laws_FnExactIsWitness (x0 : TWitness) : Option Bool :=
  (laws_szWitness x0 (1048576 : Int)).bind fun y1 =>
  bif decide (y1 < (0 : Int)) then
    some true
  else
    (laws_toWitness x0).bind fun y2 =>
      (spec_IsWitness y2).bind fun y3 =>
        (laws_toWitness x0).bind fun y4 =>
          (impl_IsWitness y4).bind fun y5 =>
            bif !(y5 == y3) then
              some false
            else
              (laws_toWitness x0).bind fun y6 =>
                (laws_eqWitness y4 y6).bind fun y7 =>
                  bif !y7 then
                    some false
                  else some true
end Go.Proofs.Ytchhidcbfladhaa
