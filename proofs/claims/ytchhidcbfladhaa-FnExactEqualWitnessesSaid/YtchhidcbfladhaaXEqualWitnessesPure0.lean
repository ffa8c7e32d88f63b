/- What the functions compute: printed from their code by the evaluator. -/
import Derived.Test.YtchhidcbfladhaaVE
namespace Go.Proofs.Ytchhidcbfladhaa
set_option linter.unusedVariables false
abbrev TMark : Type := Int × Int × Int
abbrev dMark : TMark := ((0 : Int), (0 : Int), (0 : Int))
abbrev TWitness : Type := Int × List TMark
abbrev dWitness : TWitness := ((0 : Int), [])
noncomputable def laws_szMarkS (x0 : List TMark) (x1 : Int) : Option Int :=
  bif decide ((IntKind.i64.wrap (x1 - (x0.length : Int))) < (0 : Int)) then
  some (-1 : Int)
else some (IntKind.i64.wrap (x1 - (x0.length : Int)))
noncomputable def laws_szWitness (x0 : TWitness) (x1 : Int) : Option Int :=
  (laws_szMarkS x0.2 x1).bind fun y1 =>
  bif decide (y1 < (0 : Int)) then
    some (-1 : Int)
  else some y1
noncomputable def laws_toMark (x0 : TMark) : Option TMark :=
  some x0
noncomputable abbrev laws_toMarkS.g6 (x0 : List TMark) (r6 : Int → (List TMark) → Option (List TMark)) (v6_1 : Int) (v6_2 : List TMark) : Option (List TMark) :=
  bif decide (v6_1 < (x0.length : Int)) then
  bif decide (0 ≤ v6_1) then
    bif decide (v6_1 < (x0.length : Int)) then
      (laws_toMark (x0.getD v6_1.toNat dMark)).bind fun y1 =>
        bif decide (0 ≤ v6_1) then
          bif decide (v6_1 < (v6_2.length : Int)) then
            r6 (IntKind.i64.wrap (v6_1 + (1 : Int))) (v6_2.set v6_1.toNat y1)
          else none
        else none
    else none
  else none
else some v6_2
noncomputable def laws_toMarkS.l6 (x0 : List TMark) (n : Nat) : Int → (List TMark) → Option (List TMark) :=
  V.iter (fun (r6 : Int → (List TMark) → Option (List TMark)) => fun v6_1 v6_2 => laws_toMarkS.g6 x0 r6 v6_1 v6_2) (fun _ _ => none) n
theorem laws_toMarkS.u6 (x0 : List TMark) (n : Nat) (v6_1 : Int) (v6_2 : List TMark) : laws_toMarkS.l6 x0 (n + 1) v6_1 v6_2 = laws_toMarkS.g6 x0 (laws_toMarkS.l6 x0 n) v6_1 v6_2 := rfl
noncomputable abbrev laws_toMarkS.b (x0 : List TMark) (L6 : Int → (List TMark) → Option (List TMark)) : Option (List TMark) :=
  bif ((x0.length : Int) == (x0.length : Int)) then
  bif decide (0 ≤ (x0.length : Int)) then
    bif decide ((x0.length : Int) < (68719476736 : Int)) then
      L6 (0 : Int) (List.replicate ((x0.length : Int).toNat) dMark)
    else none
  else none
else none
noncomputable def laws_toMarkS (x0 : List TMark) : Option (List TMark) :=
  laws_toMarkS.b x0 (laws_toMarkS.l6 x0 V.KK)
noncomputable def laws_toWitness (x0 : TWitness) : Option TWitness :=
  (laws_toMarkS x0.2).bind fun y1 =>
  some (x0.1, y1)
noncomputable abbrev spec_EqualWitnesses.g8 (x0 : TWitness) (x1 : TWitness) (r8 : Int → Option Bool) (v8_0 : Int) : Option Bool :=
  bif decide (v8_0 < (x0.2.length : Int)) then
  bif decide (0 ≤ v8_0) then
    bif decide (v8_0 < (x0.2.length : Int)) then
      bif decide (0 ≤ v8_0) then
        bif decide (v8_0 < (x1.2.length : Int)) then
          bif !((((x0.2.getD v8_0.toNat dMark).1) == ((x1.2.getD v8_0.toNat dMark).1)) && ((((x0.2.getD v8_0.toNat dMark).2.1) == ((x1.2.getD v8_0.toNat dMark).2.1)) && ((((x0.2.getD v8_0.toNat dMark).2.2) == ((x1.2.getD v8_0.toNat dMark).2.2)) && true))) then
            some false
          else r8 (IntKind.i64.wrap (v8_0 + (1 : Int)))
        else none
      else none
    else none
  else none
else some true
noncomputable def spec_EqualWitnesses.l8 (x0 : TWitness) (x1 : TWitness) (n : Nat) : Int → Option Bool :=
  V.iter (fun (r8 : Int → Option Bool) => fun v8_0 => spec_EqualWitnesses.g8 x0 x1 r8 v8_0) (fun _ => none) n
theorem spec_EqualWitnesses.u8 (x0 : TWitness) (x1 : TWitness) (n : Nat) (v8_0 : Int) : spec_EqualWitnesses.l8 x0 x1 (n + 1) v8_0 = spec_EqualWitnesses.g8 x0 x1 (spec_EqualWitnesses.l8 x0 x1 n) v8_0 := rfl
noncomputable abbrev spec_EqualWitnesses.g7 (x0 : TWitness) (x1 : TWitness) (L8 : Int → Option Bool) : Option Bool :=
  L8 (0 : Int)
noncomputable def spec_EqualWitnesses.l7 (x0 : TWitness) (x1 : TWitness) : Option Bool :=
  spec_EqualWitnesses.g7 x0 x1 (spec_EqualWitnesses.l8 x0 x1 V.KK)
noncomputable abbrev spec_EqualWitnesses.b (x0 : TWitness) (x1 : TWitness) (L7 : Option Bool) : Option Bool :=
  bif x0.1 != x1.1 then
  some false
else
  bif (x0.2.length : Int) != (x1.2.length : Int) then
    some false
  else L7
noncomputable def spec_EqualWitnesses (x0 : TWitness) (x1 : TWitness) : Option Bool :=
  spec_EqualWitnesses.b x0 x1 (spec_EqualWitnesses.l7 x0 x1)
noncomputable abbrev slices_Equal_impl_Mark.g8 (x0 : List TMark) (x1 : List TMark) (r8 : Int → Int → Option Bool) (v8_2 : Int) (v8_3 : Int) : Option Bool :=
  bif decide (v8_3 < v8_2) then
  bif decide (0 ≤ v8_3) then
    bif decide (v8_3 < (x0.length : Int)) then
      bif decide (0 ≤ v8_3) then
        bif decide (v8_3 < (x1.length : Int)) then
          bif !((((x0.getD v8_3.toNat dMark).1) == ((x1.getD v8_3.toNat dMark).1)) && ((((x0.getD v8_3.toNat dMark).2.1) == ((x1.getD v8_3.toNat dMark).2.1)) && ((((x0.getD v8_3.toNat dMark).2.2) == ((x1.getD v8_3.toNat dMark).2.2)) && true))) then
            some false
          else r8 v8_2 (IntKind.i64.wrap (v8_3 + (1 : Int)))
        else none
      else none
    else none
  else none
else some true
noncomputable def slices_Equal_impl_Mark.l8 (x0 : List TMark) (x1 : List TMark) (n : Nat) : Int → Int → Option Bool :=
  V.iter (fun (r8 : Int → Int → Option Bool) => fun v8_2 v8_3 => slices_Equal_impl_Mark.g8 x0 x1 r8 v8_2 v8_3) (fun _ _ => none) n
theorem slices_Equal_impl_Mark.u8 (x0 : List TMark) (x1 : List TMark) (n : Nat) (v8_2 : Int) (v8_3 : Int) : slices_Equal_impl_Mark.l8 x0 x1 (n + 1) v8_2 v8_3 = slices_Equal_impl_Mark.g8 x0 x1 (slices_Equal_impl_Mark.l8 x0 x1 n) v8_2 v8_3 := rfl
noncomputable abbrev slices_Equal_impl_Mark.b (x0 : List TMark) (x1 : List TMark) (L8 : Int → Int → Option Bool) : Option Bool :=
  bif (x0.length : Int) != (x1.length : Int) then
  some false
else L8 (x0.length : Int) (0 : Int)
noncomputable def slices_Equal_impl_Mark (x0 : List TMark) (x1 : List TMark) : Option Bool :=
  slices_Equal_impl_Mark.b x0 x1 (slices_Equal_impl_Mark.l8 x0 x1 V.KK)
noncomputable def impl_EqualWitnesses (x0 : TWitness) (x1 : TWitness) : Option Bool :=
  bif x0.1 == x1.1 then
  (slices_Equal_impl_Mark x0.2 x1.2).bind fun y1 =>
    some y1
else some false
noncomputable def laws_eqMark (x0 : TMark) (x1 : TMark) : Option Bool :=
  bif x0.1 != x1.1 then
  some false
else
  bif x0.2.1 != x1.2.1 then
    some false
  else
    bif x0.2.2 != x1.2.2 then
      some false
    else some true
noncomputable abbrev laws_eqMarkS.g8 (x0 : List TMark) (x1 : List TMark) (r8 : Int → Option Bool) (v8_2 : Int) : Option Bool :=
  bif decide (v8_2 < (x0.length : Int)) then
  bif decide (0 ≤ v8_2) then
    bif decide (v8_2 < (x0.length : Int)) then
      bif decide (0 ≤ v8_2) then
        bif decide (v8_2 < (x1.length : Int)) then
          (laws_eqMark (x0.getD v8_2.toNat dMark) (x1.getD v8_2.toNat dMark)).bind fun y1 =>
            bif !y1 then
              some false
            else r8 (IntKind.i64.wrap (v8_2 + (1 : Int)))
        else none
      else none
    else none
  else none
else some true
noncomputable def laws_eqMarkS.l8 (x0 : List TMark) (x1 : List TMark) (n : Nat) : Int → Option Bool :=
  V.iter (fun (r8 : Int → Option Bool) => fun v8_2 => laws_eqMarkS.g8 x0 x1 r8 v8_2) (fun _ => none) n
theorem laws_eqMarkS.u8 (x0 : List TMark) (x1 : List TMark) (n : Nat) (v8_2 : Int) : laws_eqMarkS.l8 x0 x1 (n + 1) v8_2 = laws_eqMarkS.g8 x0 x1 (laws_eqMarkS.l8 x0 x1 n) v8_2 := rfl
noncomputable abbrev laws_eqMarkS.b (x0 : List TMark) (x1 : List TMark) (L8 : Int → Option Bool) : Option Bool :=
  bif (x0.length : Int) != (x1.length : Int) then
  some false
else L8 (0 : Int)
noncomputable def laws_eqMarkS (x0 : List TMark) (x1 : List TMark) : Option Bool :=
  laws_eqMarkS.b x0 x1 (laws_eqMarkS.l8 x0 x1 V.KK)
noncomputable def laws_eqWitness (x0 : TWitness) (x1 : TWitness) : Option Bool :=
  bif x0.1 != x1.1 then
  some false
else
  (laws_eqMarkS x0.2 x1.2).bind fun y1 =>
    bif !y1 then
      some false
    else some true
noncomputable def laws_FnExactEqualWitnesses (x0 : TWitness) (x1 : TWitness) : Option Bool :=
  (laws_szWitness x0 (1048576 : Int)).bind fun y1 =>
  bif decide (y1 < (0 : Int)) then
    some true
  else
    (laws_szWitness x1 y1).bind fun y2 =>
      bif decide (y2 < (0 : Int)) then
        some true
      else
        (laws_toWitness x0).bind fun y3 =>
          (laws_toWitness x1).bind fun y4 =>
            (spec_EqualWitnesses y3 y4).bind fun y5 =>
              (laws_toWitness x0).bind fun y6 =>
                (laws_toWitness x1).bind fun y7 =>
                  (impl_EqualWitnesses y6 y7).bind fun y8 =>
                    bif !(y8 == y5) then
                      some false
                    else
                      (laws_toWitness x0).bind fun y9 =>
                        (laws_eqWitness y6 y9).bind fun y10 =>
                          bif !y10 then
                            some false
                          else
                            (laws_toWitness x1).bind fun y11 =>
                              (laws_eqWitness y7 y11).bind fun y12 =>
                                bif !y12 then
                                  some false
                                else some true
end Go.Proofs.Ytchhidcbfladhaa
